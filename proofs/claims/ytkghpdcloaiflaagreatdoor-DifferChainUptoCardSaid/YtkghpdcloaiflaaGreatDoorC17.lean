import Derived.Test.YtkghpdcloaiflaaGreatDoorC16
set_option maxHeartbeats 2000000
set_option maxRecDepth 100000
namespace Go.Proofs.YtkghpdcloaiflaaGreatDoor
open _root_.Go.Proofs.Tryz
section
open Go.RowKit Go.Shelf
attribute [local go_sem] atC
theorem GB (l:List ay)(s:ay)(h:∀ x∈l,x.length<=1000000)(hs:s.length<=1000000):(l.foldl d6 s).length<=1000000:=by
 induction l generalizing s with
 |nil=>exact hs
 |cons x r ih=>
  refine ih (d6 s x) (fun y hy=>h y (by simp[hy])) ?_;have:=jV s x;have:=h x (by simp);omega
theorem dt.mem {w:World}{m n:Nat}{L:List ay}(h:dt w m n L):∀ x∈L,x.length<=1000000:=fun x hx=>by
 obtain⟨i,hi,rfl⟩:=List.getElem_of_mem hx;have:=h.short i;rw[List.getD,atI hi]at this;exact this
theorem Py (a0 a1 a2 a3 a4 a5 a6 a7:Value)(W:World)(k:Nat)(hk:k<8):(Instr.index 143 (.agg #[a0,a1,a2,a3,a4,a5,a6,a7]) (.int .i64 (k:Int))).run prog W=.ok ([a0,a1,a2,a3,a4,a5,a6,a7].getD k a0) W:=by
 have BU:k=0\/k=1\/k=2\/k=3\/k=4\/k=5\/k=6\/k=7:=by omega
 rcases BU with rfl|rfl|rfl|rfl|rfl|rfl|rfl|rfl<;>rfl
theorem zz {w:World}{m n:Nat}{L:List ay}(h:dt w m n L):
  Calls prog 127 #[aq m] w fun e w'=>e=.returned (aB (cV L))/\af w w':=by
 have H:=hd0 h;have c0:w.cell? ⟨m,0,none⟩=some (.int .i64 (n:Int)):=aa h.own 0;have c1:=h.cell 0 (by omega);have c2:=h.cell 1 (by omega);have c3:=h.cell 2 (by omega);have c4:=h.cell 3 (by omega);have c5:=h.cell 4 (by omega);have c6:=h.cell 5 (by omega);have c7:=h.cell 6 (by omega);have c8:=h.cell 7 (by omega);simp only[Nat.reduceAdd]at c1 c2 c3 c4 c5 c6 c7 c8;clear h;go_enter func127,ntmps127;go_wp2_with fail;clear c0 c1 c2 c3 c4 c5 c6 c7 c8
 go_loopw [10,3] (fun i v wr=>∃ k:Nat,k<=8/\i=.int .i64 (k:Int)/\v=aB ((L.take k).foldl d6 [])/\af w wr) (fun i _ _=>8-(intOf i).toNat)
 case atStart=>exact⟨0,by omega,rfl,rfl,ah.refl _ w⟩
 case round=>
  obtain⟨k,hk,rfl,rfl,hK⟩:=hrel;have HK:=hd0 hK;clear hK;by_cases aM:k<8
  ·have OR:=jW ((L.take k).foldl d6 []) (L.getD k []) wr (atE (GB _ _ (fun x hx=>H.out.mem x (atN hx)) (by simp)) (by decide)) (atE (H.out.short k) (by decide));have he:(L.take (k+1)).foldl d6 []=d6 ((L.take k).foldl d6 []) (L.getD k []):=by
    have h8:=H.out.eight;rw[atK,List.foldl_append,List.getD,atI (show k<L.length by omega)];rfl
   have HO:=hd0 OR;have HE:=hd0 he;clear OR he;have dS:(k:Int)<8:=by omega
   have hx:=fun W=>Py (aB (L[0]?.getD [])) (aB (L[1]?.getD [])) (aB (L[2]?.getD [])) (aB (L[3]?.getD [])) (aB (L[4]?.getD [])) (aB (L[5]?.getD [])) (aB (L[6]?.getD [])) (aB (L[7]?.getD [])) W k aM;have hg:[aB (L[0]?.getD []),aB (L[1]?.getD []),aB (L[2]?.getD []),aB (L[3]?.getD []),aB (L[4]?.getD []),aB (L[5]?.getD []),aB (L[6]?.getD []),aB (L[7]?.getD [])].getD k (aB (L[0]?.getD []))=aB (L.getD k []):=by
    have BU:k=0\/k=1\/k=2\/k=3\/k=4\/k=5\/k=6\/k=7:=by omega
    rcases BU with rfl|rfl|rfl|rfl|rfl|rfl|rfl|rfl<;>rfl
   rw[hg]at hx;clear hg;go_wp2_with fail;refine HO.out.mono ?_;rintro e w1 ⟨rfl,hk1⟩;have bU:=hd0 (HK.out.trans hk1 (fun _ _ h=>h));clear hk1 hx;go_wp2_with fail
   go_roundw
   case rel=>exact⟨k+1,by omega,by go_num,by rw[HE.out];rfl,bU.out⟩
   case measure=>simp[intOf];omega
  ·obtain rfl:k=8:=by omega
   have h8:=H.out.eight;rw[aux (by omega)];go_wp2;go_ret;exact⟨rfl,HK.out⟩
theorem Lk {w:World}{m n:Nat}{L:List ay}(h:dt w m n L)(h1:1<=n)(hc:(cV L).length<=100000):
  Calls prog 221 #[aq m] w fun e w'=>e=.returned (.int .i64 ((n:Int)-1-(jz (cV L):Int)))/\af w w':=by
 have H:=hd0 h;have c0:w.cell? ⟨m,0,none⟩=some (.int .i64 (n:Int)):=aa h.own 0;have HM:=h.many;have HU:Hid (∀ x,Calls prog 127 #[aq m] (w.ext x) fun e w'=>e=.returned (aB (cV L))/\af (w.ext x) w'):=hd0 (fun x=>zz (h.mod (aD w x) id));have HC:Hid (∀ X,Calls prog 47 #[aB (cV L)] X fun e w'=>e=.returned (.int .i64 (jz (cV L):Int))/\af X w'):=hd0 (fun X=>zu _ hc X);have sr:jz (cV L)<=800000:=by
  have:=we (cV L);unfold jz;omega
 have ce:∀ x,(w.ext x).cell? ⟨m,0,none⟩=some (.int .i64 (n:Int)):=fun x=>by rw[(aD w x).cell (p:=⟨m,0,none⟩) (am c0) id];exact c0
 clear h hc;generalize jz (cV L)=q at*;generalize cV L=U at*;have e1:IntKind.i64.wrap ((n:Int)-1)=(n:Int)-1:=fh (by omega);have e2:IntKind.i64.wrap ((n:Int)-1-(q:Int))=(n:Int)-1-(q:Int):=fh (by omega);go_enter func221,ntmps221;go_wp2_with fail;refine cN (by kernel_rfl) (by kernel_rfl) ?_
 repeat (quiet_step (first|(with_reducible exact bw (HU.out _))|(with_reducible exact bw (HC.out _))))
 refine auE ?_;intro _ cJ;obtain⟨xq,rfl⟩:=cJ;go_wp2;go_ret;exact⟨rfl,aD w xq⟩
theorem Ll {w:World}{m n:Nat}{L:List ay}(h:dt w m n L)(a b:Nat)(ha:a<8)(hb:b<8):
  Calls prog 54 #[aq m,.int .i64 (a:Int),.int .i64 (b:Int)] w fun e w'=>e=.returned (.tuple #[aB (bK (L.getD b []) (L.getD a [])),aB (bK (L.getD a []) (L.getD b [])),.int .i64 0])/\af w w':=by
 obtain⟨W,hW⟩:∃ W,w.alloc (.cells #[.int .i64 (a:Int),.int .i64 (b:Int)] 3)=W:=⟨_,rfl⟩
 have k0:af w W:=by rw[<-hW];exact(ah.refl _ w).alloc _
 have IS:=hd0 (AV W w.heap.size [a,b] (by simp) (by simp;omega) (by rw[<-hW];exact aw w _ _));have HH:=h.mod k0 id;have ca:∀ x,(W.ext x).cell? ⟨m,1+a,none⟩=some (aB (L.getD a [])):=fun x=>(HH.mod (aD W x) id).cell a ha;have cb:∀ x,(W.ext x).cell? ⟨m,1+b,none⟩=some (aB (L.getD b [])):=fun x=>(HH.mod (aD W x) id).cell b hb;have HK:=hd0 k0;have M1:=hd0 (fun X=>kP (L.getD b []) (L.getD a []) X (atE (h.short b) (by decide)) (atE (h.short a) (by decide)));have M2:=hd0 (fun X=>kP (L.getD a []) (L.getD b []) X (atE (h.short a) (by decide)) (atE (h.short b) (by decide)));have h1:(a:Int)<8:=by omega
 have h2:(b:Int)<8:=by omega
 clear h k0 HH ha hb;generalize L.getD a []=A at*;generalize L.getD b []=B at*;go_enter func54,ntmps54;go_wp2_with fail;refine IS.out.mono ?_;rintro e w1 ⟨rfl,rfl⟩;go_wp2_with fail;refine cN (by kernel_rfl) (by kernel_rfl) ?_
 repeat (quiet_step (fail))
 refine auE ?_;intro _ cJ;obtain⟨xq,rfl⟩:=cJ;have bU:=hd0 (HK.out.keep (aD w1 xq));go_wp2_with fail;refine(M1.out _).mono ?_;rintro e w2 ⟨rfl,dc⟩;have bu:=hd0 (bU.out.keep dc);clear dc;go_wp2_with fail;refine(M2.out _).mono ?_;rintro e w3 ⟨rfl,dq⟩;have dT:=hd0 (bu.out.keep dq);clear dq;go_wp2;go_ret3;exact⟨rfl,dT.out⟩
end
section
open Go.RowKit Go.Shelf
attribute [local go_sem] atC
def wu (p:Nat)(o:ay)(b:Nat):ay:=o.set b (o.getD b 0|||UInt8.ofNat (2 ^ p))
def kS (p:Nat)(l:List Nat)(o:ay):ay:=l.foldl (wu p) o
def jN (L:List ay)(n:Nat):Nat->ay
 |0=>List.replicate n 0
 |p+1=>kS p (cK (L.getD p [])) (jN L n p)
theorem sP (p:Nat):∀(l:List Nat) (o:ay),(kS p l o).length=o.length
 |[],_=>rfl
 |x::r,o=>by show(kS p r (wu p o x)).length=_;rw[sP p r];simp[wu]
theorem kh (L:List ay)(n:Nat):∀ p,(jN L n p).length=n
 |0=>by simp[jN]
 |p+1=>by rw[jN,sP,kh L n p]
theorem zA (p:Nat):∀(l:List Nat) (o:ay) (b:Nat),b<o.length->l.Nodup->(kS p l o).getD b 0=if b∈l then o.getD b 0|||UInt8.ofNat (2 ^ p)else o.getD b 0
 |[],o,b,_,_=>by simp[kS]
 |x::r,o,b,hb,hn=>by
  show(kS p r (wu p o x)).getD b 0=_;rw[List.nodup_cons]at hn;rw[zA p r _ b (by simp[wu];exact hb) hn.2];by_cases hx:b=x
  ·subst hx;rw[atR hn.1,atP (by simp)];simp[wu,List.getD,hb]
  ·have e:(wu p o x).getD b 0=o.getD b 0:=by
    unfold wu;rw[List.getD,List.getElem?_set,atR (fun e=>hx e.symm)];rfl
   rw[e];by_cases hr:b∈r
   ·rw[atP hr,atP (by simp[hr])]
   ·rw[atR hr,atR (by simp[hx,hr])]
theorem T9 (p k:Nat)(hp:p<8)(hk:k<8):(UInt8.ofNat (2 ^ p)).toNat.testBit k=decide (k=p):=by
 have key:∀ p k:Fin 8,(UInt8.ofNat (2 ^ p.1)).toNat.testBit k.1=decide (k.1=p.1):=by decide +kernel
 exact key ⟨p,hp⟩ ⟨k,hk⟩
theorem zB (L:List ay)(n b k:Nat)(hb:b<n)(hk:k<8):∀ p,p<=8->((jN L n p).getD b 0).toNat.testBit k=(decide (k<p)&&ak (L.getD k []) b)
 |0,_=>by simp[jN,List.getD,hb]
 |p+1,hp=>by
  have ih:=zB L n b k hb hk p (by omega);rw[jN,zA p _ _ b (by rw[kh];exact hb) (vh _)];by_cases hm:b∈cK (L.getD p [])
  ·rw[atP hm,UInt8.toNat_or,Nat.testBit_or,ih,T9 p k (by omega) hk];rw[rq]at hm;by_cases Th:k=p
   ·subst Th;have UV:ak (L[k]?.getD []) b=true:=hm;simp[UV]
   ·have:(k<p+1)=(k<p):=by simp;omega
    simp only[Th,decide_false,Bool.or_false,this]
  ·rw[atR hm,ih];rw[rq]at hm;by_cases Th:k=p
   ·subst Th;simp at hm ⊢;exact hm
   ·have:(k<p+1)=(k<p):=by simp;omega
    simp only[this]
theorem GC (L:List ay)(n:Nat):jN L n 8=gW L n:=by
 apply List.ext_getElem?;intro b;by_cases hb:b<n
 ·have h1:b<(jN L n 8).length:=by rw[kh];exact hb
  have h2:b<(gW L n).length:=by simp[gW];exact hb
  rw[atI h1,atI h2]
  congr 1
  apply vg;intro k hk;have:=zB L n b k hb hk 8 (by omega);rw[List.getD,atI h1]at this;rw[show(jN L n 8)[b].toNat.testBit k=(decide (k<8)&&ak (L.getD k []) b)from this];have e:(gW L n)[b]=UInt8.ofNat ((List.range 8).foldl (fun a p=>if ak (L.getD p []) b then a+2 ^ p else a) 0):=by simp[gW]
  rw[e,yY (fun p=>ak (L.getD p []) b) k hk];simp[hk]
 ·rw[auF (by rw[kh];omega),auF (by simp[gW];omega)]
theorem GD (p:Nat)(l:List Nat)(o:ay)(j:Nat)(hj:j<l.length):kS p (l.take (j+1)) o=wu p (kS p (l.take j) o) l[j]:=by
 unfold kS;rw[atK,List.foldl_append,atI hj];rfl
theorem Yh (c:UInt8)(k:Nat)(hk:k<8):bits BinOp.or IntKind.u8 (c.toNat:Int) (2 ^ k%256)=((c|||UInt8.ofNat (2 ^ k)).toNat:Int):=by
 have key:∀(n:Fin 256) (k:Fin 8),bits BinOp.or IntKind.u8 (n.1:Int) (2 ^ k.1%256)=((UInt8.ofNat n.1|||UInt8.ofNat (2 ^ k.1)).toNat:Int):=by decide +kernel
 have:=key ⟨c.toNat,c.toNat_lt⟩ ⟨k,hk⟩;simpa using this
theorem Lm {w:World}{m n:Nat}{L:List ay}(h:dt w m n L)(hL:∀ p b,ak (L.getD p []) b=true->b<n)(hs:∀ p,(L.getD p []).length<=100000):
  Calls prog 218 #[aq m] w fun e w'=>e=.returned (aB (gW L n))/\af w w':=by
 have H:=hd0 h;have HL:=hd0 hL;have HS:=hd0 hs;have pn:=h.many;have c0:w.cell? ⟨m,0,none⟩=some (.int .i64 (n:Int)):=aa h.own 0;have nV:=jk (P:=prog) (ts:=131) (te:=5) underlying131 (by kernel_rfl) n (by omega);have k1:af w (w.alloc (.cells (aP (List.replicate n 0)) 5)):=(ah.refl _ w).alloc _;have h1:=h.mod k1 id;have c1:=h1.cell 0 (by omega);have c2:=h1.cell 1 (by omega);have c3:=h1.cell 2 (by omega);have c4:=h1.cell 3 (by omega);have c5:=h1.cell 4 (by omega);have c6:=h1.cell 5 (by omega);have c7:=h1.cell 6 (by omega);have c8:=h1.cell 7 (by omega);simp only[Nat.reduceAdd]at c1 c2 c3 c4 c5 c6 c7 c8;clear h k1 h1 hL hs;go_enter func218,ntmps218;go_wp2_with fail;clear c0 c1 c2 c3 c4 c5 c6 c7 c8 nV;have HO:Hid (World.blk (w.alloc (.cells (aP (List.replicate n 0)) 5)) w.heap.size (aP (jN L n 0)) 5):=hd0 (aw _ _ _);have HK:Hid (af w (w.alloc (.cells (aP (List.replicate n 0)) 5))):=hd0 ((ah.refl _ w).alloc _);generalize (w.alloc (.cells (aP (List.replicate n 0)) 5))=w0 at*;obtain⟨ob,ic⟩:∃ ob,w.heap.size=ob:=⟨_,rfl⟩
 have xU:=hd0 ic;rw[ic]at HO;rw[ic];clear ic
 go_loopw [17] (fun i wr=>∃ k:Nat,k<=8/\i=.int .i64 (k:Int)/\af w wr/\World.blk wr ob (aP (jN L n k)) 5) (fun i _=>8-(intOf i).toNat)
 case atStart=>exact⟨0,by omega,rfl,HK.out,HO.out⟩
 case round=>
  clear HO HK;obtain⟨wq0,rfl⟩:∃ wq0,wq0=wr:=⟨_,rfl⟩
  obtain⟨k,hk,rfl,hK,hO⟩:=hrel;have HK:=hd0 hK;have HO:=hd0 hO;clear hK hO;by_cases aM:k<8
  ·have dS:(k:Int)<8:=by omega
   have hx:=fun W=>Py (aB (L[0]?.getD [])) (aB (L[1]?.getD [])) (aB (L[2]?.getD [])) (aB (L[3]?.getD [])) (aB (L[4]?.getD [])) (aB (L[5]?.getD [])) (aB (L[6]?.getD [])) (aB (L[7]?.getD [])) W k aM;have hg:[aB (L[0]?.getD []),aB (L[1]?.getD []),aB (L[2]?.getD []),aB (L[3]?.getD []),aB (L[4]?.getD []),aB (L[5]?.getD []),aB (L[6]?.getD []),aB (L[7]?.getD [])].getD k (aB (L[0]?.getD []))=aB (L.getD k []):=by
    have BU:k=0\/k=1\/k=2\/k=3\/k=4\/k=5\/k=6\/k=7:=by omega
    rcases BU with rfl|rfl|rfl|rfl|rfl|rfl|rfl|rfl<;>rfl
   rw[hg]at hx;clear hg;have LI:=zt (L.getD k []) (HS.out k) wq0;have eR:Hid (∀ x∈cK (L.getD k []),x<n):=hd0 (fun x hx=>HL.out k x (rq.1 hx));have yf:Hid ((cK (L.getD k [])).length<=800000):=hd0 (by have:=we (L.getD k []);have:=HS.out k;omega);have pq:Hid (jN L n (k+1)=kS k (cK (L.getD k [])) (jN L n k)):=hd0 rfl;have aU:Hid ((jN L n k).length=n):=hd0 (kh L n k);have HLI:=hd0 LI;clear LI;generalize jN L n k=o at*;generalize hl:cK (L.getD k [])=l at*;clear hl;have Cc:L.getD k []=L[k]?.getD []:=rfl;rw[Cc]at HLI hx;clear Cc;generalize L[k]?.getD []=S at*;go_wp2_with fail;refine HLI.out.mono ?_;rintro e wl ⟨v,rfl,ho,hr,BZ⟩;obtain⟨a,cap,rfl,hr⟩:=hr;rw[aug]at ho ⊢;have HB:Hid (ob<wq0.heap.size/\w.heap.size<=ob):=hd0 ⟨ai HO.out,by rw[xU.out];exact atL _⟩;have HO1:=hd0 (ab BZ HO.out id);have bU:=hd0 (HK.out.keep BZ);have sA:=hd0 ho;have Fw:(l.length:Int)<=800000:=by have:=yf.out;omega
   clear BZ ho hr hx HO HK HLI;go_wp2_with fail
   go_loopw [24] (fun i wq=>∃ j:Nat,j<=l.length/\i=.int .i64 (j:Int)/\af w wq/\World.blk wq ob (aP (kS k (l.take j) o)) 5/\aL wq wq0.heap.size (.slice a l.length cap) (gh l)) (fun i _=>l.length-(intOf i).toNat)
   case atStart=>exact⟨0,by omega,rfl,bU.out,HO1.out,sA.out⟩
   case round=>
    clear HO1 bU sA;obtain⟨j,hj,rfl,hK2,hO2,SA⟩:=hrel;have bu:=hd0 hK2;have yK:=hd0 hO2;have rj:=hd0 SA;obtain⟨a',Vq,ea,eE⟩:=aZ SA;by_cases Cd:j<l.length
    ·have aix:(j:Int)<l.length:=by omega
     obtain⟨b,off,rfl,cj⟩:=eE j (.int .i64 (l[j]:Int)) (by simp[bi,gh,Cd]);have ea':a=some ⟨b,off,none⟩:=by injection ea
     subst ea';have adh:Hid (kS k (l.take (j+1)) o=wu k (kS k (l.take j) o) l[j]):=hd0 (GD k l o j Cd);have Xa:=eR.out l[j] (aum _);have hlc:(kS k (l.take j) o).length=n:=by rw[sP];exact aU.out
     clear hK2 hO2 SA ea eE;generalize hx:l[j]=x at*;clear hx;generalize kS k (l.take j) o=du at*;have hc:∀ X,(wr.ext X).cell? ⟨ob,x,none⟩=some (.int .u8 ((du.getD x 0).toNat:Int)):=fun X=>by
      rw[(aD wr X).cell (p:=⟨ob,x,none⟩) (ai yK.out) id,aa yK.out x];simp[aP,gi,atI (show x<du.length by omega),List.getD]
     have hf:∀ X,(wr.ext X).frozen? ⟨ob,x,none⟩=false:=fun X=>ae (ab (aD wr X) yK.out id) _ rfl;have hxi:(x:Int)<(n:Int):=by omega
     generalize ya:du.getD x 0=c at*;have Hcv:=hd0 ya;clear ya;go_wp2_with fail;refine ru 8 (by kernel_rfl) (by kernel_rfl) ?_;simp only[auz,auA,auB,auC]
     repeat (quiet_step (fail))
     refine auE ?_;intro _ cJ;obtain⟨xq,rfl⟩:=cJ;have f1:=hf xq;have c1:=hc xq;go_wp2_with fail;have nH:=aD wr xq;refine⟨⟨j+1,by omega,by go_num,(bu.out.keep nH).setCell (p:=⟨ob,x,none⟩) (.inr HB.out.2) _,?_,?_⟩,by simp[intOf];omega⟩
     ·have h:=ag (ab nH yK.out id) x (.int .u8 (((c|||UInt8.ofNat (2 ^ k)).toNat:Nat):Int));rw[FK]at h;rw[adh.out];unfold wu;rw[Hcv.out,Yh c k aM];exact h
     ·exact Ji (io rj.out nH) ((ah.refl (fun b=>b=ob) _).setCell (p:=⟨ob,x,none⟩) (.inl rfl) _) (fun b hb e=>by have:=HB.out.1;omega)
    ·obtain rfl:j=l.length:=by omega
     have ht:l.take l.length=l:=atM;rw[ht]at yK;have ED:¬((l.length:Int)<(l.length:Int)):=by omega
     clear hK2 hO2 SA ea eE;go_wp2_with fail;refine⟨⟨k+1,by omega,by go_num,bu.out,by rw[pq.out];exact yK.out⟩,by simp[intOf];omega⟩
  ·obtain rfl:k=8:=by omega
   have dr:=tG (P:=prog) (ts:=131) (td:=9) underlying131 underlying5 underlying9 n HO.out (kh L n 8);rw[GC]at dr;go_wp2;go_ret;exact⟨rfl,HK.out⟩
end
section
open Go.RowKit Go.Shelf
attribute [local go_sem] atC
def ww (gen used:Nat):ay:=[78,86]++eA gen 6++eA used 4++List.replicate 52 0
def eg (d:Dk)(gen used:Nat):Dk:=(d.put 0 (ww gen used)).sync
theorem Ln (gen used:Nat):(ww gen used).length=64:=by simp[ww,gX]
theorem wA (x n:Nat)(hx:x<=1099511627776)(hn:n<=6)(w:World):
  Calls prog 150 #[.int .i64 (x:Int),.int .i64 (n:Int)] w fun e w'=>e=.returned (aB (eA x n))/\af w w':=by
 have nV:=jk (P:=prog) (ts:=131) (te:=5) underlying131 (by kernel_rfl) n (by omega);have HX:=hd0 hx;clear hx;go_enter func150,ntmps150;go_wp2_with fail;clear nV;have HO:Hid (World.blk (w.alloc (.cells (aP (List.replicate n 0)) 5)) w.heap.size (aP (eA x 0++List.replicate (n-0) 0)) 5):=hd0 (aw _ _ _);have HK:Hid (af w (w.alloc (.cells (aP (List.replicate n 0)) 5))):=hd0 ((ah.refl _ w).alloc _);generalize (w.alloc (.cells (aP (List.replicate n 0)) 5))=w0 at*;obtain⟨ob,ic⟩:∃ ob,w.heap.size=ob:=⟨_,rfl⟩
 have xU:=hd0 ic;rw[ic]at HO;rw[ic];clear ic
 go_loopw [11] (fun i wr=>∃ k:Nat,k<=n/\i=.int .i64 (k:Int)/\af w wr/\World.blk wr ob (aP (eA x k++List.replicate (n-k) 0)) 5) (fun i _=>n-(intOf i).toNat)
 case atStart=>exact⟨0,by omega,rfl,HK.out,HO.out⟩
 case round=>
  clear HO HK;obtain⟨k,hk,rfl,hK,hO⟩:=hrel;have HK:=hd0 hK;have HO:=hd0 hO;clear hK hO;by_cases aM:k<n
  ·have dS:(k:Int)<n:=by omega
   have c0:wr.cell? ⟨ob,k,none⟩=some (.int .u8 0):=by
    rw[aa HO.out];have hl:=gX x k;simp[aP,gi,hl,show 0<n-k by omega]
   have f0:wr.frozen? ⟨ob,k,none⟩=false:=ae HO.out _ rfl;have U5:(8*(k:Int))<=40:=by omega
   have eb:((UInt8.ofNat (x/256 ^ k%256)).toNat:Int)=(x:Int)/2 ^ (8*k)%256:=by
    rw[show(UInt8.ofNat (x/256 ^ k%256)).toNat=x/256 ^ k%256 by simp,show(256:Nat) ^ k=2 ^ (8*k) by rw[Nat.pow_mul]];simp
   have EB:=hd0 eb;clear eb;go_wp2_with fail;refine⟨⟨k+1,by omega,by go_num,HK.out.setCell (p:=⟨ob,k,none⟩) (.inr (by rw[xU.out];exact atL _)) _,?_⟩,by simp[intOf];omega⟩;have h:=ag HO.out k (.int .u8 ((UInt8.ofNat (x/256 ^ k%256)).toNat:Int));rw[abJ,EB.out]at h;have e:(eA x k++List.replicate (n-k) 0).set k (UInt8.ofNat (x/256 ^ k%256))=eA x (k+1)++List.replicate (n-(k+1)) 0:=by
    rw[wi,List.set_append,atR (by rw[gX];omega),gX,Nat.sub_self,show n-k=(n-(k+1))+1 by omega,List.replicate_succ,List.set_cons_zero,auu];rfl
   rw[e]at h;exact h
  ·obtain rfl:k=n:=by omega
   have dr:=tG (P:=prog) (ts:=131) (td:=9) underlying131 underlying5 underlying9 (len:=k) k HO.out (by simp[gX]);have e0:eA x k++List.replicate (k-k) 0=eA x k:=by simp
   rw[e0]at dr;go_wp2;go_ret;exact⟨rfl,HK.out⟩
def bE (d:Dk):Nat:=(d.size-1)/2
def gI (pd gen:Nat)(text:ay)(lv:Value):Array Value:=#[aq pd,.int .i64 (gen:Int),aB text,lv,.bool false]
abbrev yv (l:List ay):List Value:=l.map fun s=>aB s
structure Ua (w:World)(l pd:Nat)(lv:Value)(d:Dk)(gen:Nat)(text:ay)(recs:List ay)(Fd F:Nat->Prop):Prop where
 own:World.blk w l (gI pd gen text lv) 196
 disk:bA w pd d Fd
 list:w.ownsRow 0 9 1 lv recs.length (yv recs)
 fl:F l
 fd:∀ b,Fd b->F b
 fv:∀ b,lv.ownBlock=some b->F b/\¬ Fd b/\b≠l
 nd:¬ Fd l
 many:5<=d.size/\d.size<=16384
 gen:gen<=1099511627776
 eqT:text=lq recs
 room:text.length<=bE d*64
 lt:∀ b,F b->b<w.heap.size
def kT (w:World)(l:Nat)(d:Dk)(gen:Nat)(recs:List ay)(F:Nat->Prop):Prop:=∃ pd lv Fd,Ua w l pd lv d gen (lq recs) recs Fd F
theorem Ua.same {w w':World}{l pd gen:Nat}{lv:Value}{d:Dk}{text:ay}{recs:List ay}{Fd F:Nat->Prop}(h:Ua w l pd lv d gen text recs Fd F)(m:fy F w w')(hs:w.heap.size<=w'.heap.size):Ua w' l pd lv d gen text recs Fd F where
 own:=(m l h.fl (h.lt l h.fl)).trans h.own
 disk:=h.disk.same (fun b hb=>m b (h.fd b hb)) hs
 list:=az h.list (fun b hb=>m b (h.fv b hb).1 (h.lt b (h.fv b hb).1))
 fl:=h.fl
 fd:=h.fd
 fv:=h.fv
 nd:=h.nd
 many:=h.many
 gen:=h.gen
 eqT:=h.eqT
 room:=h.room
 lt b hb:=atS (h.lt b hb) hs
theorem kT.same {w w':World}{l gen:Nat}{d:Dk}{recs:List ay}{F:Nat->Prop}(h:kT w l d gen recs F)(m:fy F w w')(hs:w.heap.size<=w'.heap.size):kT w' l d gen recs F:=by
 obtain⟨pd,lv,Fd,h⟩:=h;exact⟨pd,lv,Fd,h.same m hs⟩
theorem zC {w:World}{l pd gen:Nat}{lv:Value}{d:Dk}{text:ay}{Fd:Nat->Prop}(h:World.blk w l (gI pd gen text lv) 196)(hd:bA w pd d Fd)(hm:5<=d.size):
  Calls prog 123 #[aq l] w fun e w'=>e=.returned (.int .i64 (bE d:Int))/\w'=w:=by
 have c0:w.cell? ⟨l,0,none⟩=some (aq pd):=aa h 0;have S:=hd0 (jp hd);have pn:d.size<=16384:=hd.ok.many;have e2:((bE d:Nat):Int)=((d.size:Int)-1)/2:=by unfold bE;omega
 have e1:IntKind.i64.wrap ((d.size:Int)-1)=(d.size:Int)-1:=fh (by omega);have e3:((d.size:Int)-1).tdiv 2=((d.size:Int)-1)/2:=auW (by omega);have E2:=hd0 e2;clear h e2;generalize hq:d.size=q at*;go_enter func123,ntmps123;go_wp2_with fail;refine S.out.mono ?_;rintro e w1 ⟨rfl,rfl⟩;go_wp2;go_ret;exact⟨by rw[E2.out];rfl,rfl⟩
theorem pG {w:World}{l pd gen:Nat}{lv:Value}{text:ay}(h:World.blk w l (gI pd gen text lv) 196):
  Calls prog 151 #[aq l,.int .i64 0] w fun e w'=>e=.returned (.int .i64 0)/\World.blk w' l (gI pd gen text lv) 196/\ah (fun b=>b=l) w w':=by
 have c4:w.cell? ⟨l,4,none⟩=some (.bool false):=aa h 4;have f4:=ae h ⟨l,4,none⟩ rfl;have HM:=hd0 ((ah.refl (fun b=>b=l) w).setCell (p:=⟨l,4,none⟩) (.inl rfl) (.bool false));have H:=hd0 (ag h 4 (.bool false));clear h;go_enter func151,ntmps151
 go_wp2
 go_ret;exact⟨rfl,H.out,HM.out⟩
theorem GE {w:World}{l pd gen g:Nat}{lv:Value}{d:Dk}{text:ay}{Fd:Nat->Prop}(h:World.blk w l (gI pd gen text lv) 196)(hd:bA w pd d Fd)(hm:5<=d.size)(hg:g<=1099511627776):
  Calls prog 153 #[aq l,.int .i64 (g:Int)] w fun e w'=>e=.returned (.int .i64 ((1+g%2*bE d:Nat):Int))/\w'=w:=by
 have HH:=hd0 (zC h hd hm);have pn:d.size<=16384:=hd.ok.many;have hh:bE d<=16384:=by unfold bE;omega
 have hr:(g:Int).tmod 2=((g%2:Nat):Int):=by rw[Int.tmod_eq_emod_of_nonneg (by omega)];rfl
 obtain⟨r,hrr⟩:∃ r,g%2=r:=⟨_,rfl⟩
 have tC:r<2:=by omega
 have hgi:(g:Int)%2=(r:Int):=by omega
 rw[hrr]at hr ⊢;generalize bE d=q at*;have hrq:r*q<=16384:=by
  have:r=0\/r=1:=by omega
  rcases this with rfl|rfl<;>simp<;>omega
 have e0:((1+r*q:Nat):Int)=1+(r:Int)*(q:Int):=by simp
 have ao4:(r:Int)*(q:Int)<=16384:=by rw[<-Int.natCast_mul];omega
 have apC:(0:Int)<=(r:Int)*(q:Int):=by rw[<-Int.natCast_mul];omega
 have e1:IntKind.i64.wrap ((r:Int)*(q:Int))=(r:Int)*(q:Int):=fh (by omega);have e2:IntKind.i64.wrap (1+(r:Int)*(q:Int))=1+(r:Int)*(q:Int):=fh (by omega);have E0:=hd0 e0;clear e0 h hg hrr;go_enter func153,ntmps153;go_wp2_with fail;refine HH.out.mono ?_;rintro e w1 ⟨rfl,rfl⟩;go_wp2;go_ret;exact⟨by rw[E0.out];rfl,rfl⟩
end
section
open Go.RowKit Go.Shelf
attribute [local go_sem] atC
theorem zD (n:Nat)(hn:n<=64)(X:World):Calls prog 95 #[.string ⟨#[0]⟩,.int .i64 (n:Int)] X fun e w'=>e=.returned (aB (List.replicate n 0))/\af X w':=by
 refine(Tryz.strings_Repeat ⟨[(0:UInt8)].toArray⟩ n X (by omega) (by show 1*n<=_;omega)).mono ?_;rintro e w' ⟨rfl,hb⟩;refine⟨?_,ah.ofBelow hb⟩;have er:Lib.repeatL (ByteArray.mk [(0:UInt8)].toArray).data.toList n=List.replicate n 0:=Jl n;rw[er]
theorem qF {w:World}{l pd gen:Nat}{lv:Value}{d:Dk}{text:ay}{Fd:Nat->Prop}(h:World.blk w l (gI pd gen text lv) 196)(hd:bA w pd d Fd)(hm:5<=d.size)(nd:¬ Fd l)(g2 u2:Nat)(hg:g2<=1099511627776)(hu:u2<=1099511627776):
  Calls prog 155 #[aq l,.int .i64 (g2:Int),.int .i64 (u2:Int)] w fun e w'=>e=.returned (.int .i64 0)/\∃ uj,World.blk w' l (gI pd gen text lv) 196/\bA w' pd (eg d g2 u2) uj/\ah (fun b=>b=l\/Fd b) w w'/\(∀ b,uj b->Fd b\/w.heap.size<=b):=by
 have H:=hd0 h;have HD:=hd0 hd;have ND:=hd0 nd;have HM:=hd0 hm;have P1:=hd0 (wA g2 6 hg (by omega));have P2:=hd0 (wA u2 4 hu (by omega));have ZR:Hid (∀ X,Calls prog 95 #[.string ⟨#[0]⟩,.int .i64 52] X fun e w'=>e=.returned (aB (List.replicate 52 0))/\af X w'):=hd0 (zD 52 (by omega));have uV:=gX g2 6;have lj:=gX u2 4;have J4:(List.replicate 52 (0:UInt8)).length=52:=by simp
 have HS:Hid (78::86::(eA g2 6++(eA u2 4++List.replicate 52 0))=ww g2 u2):=hd0 (by simp[ww]);have apV:IntKind.i64.wrap 52=52:=by decide
 have HHD:Hid (eg d g2 u2=(d.put 0 (ww g2 u2)).sync):=hd0 rfl;clear h hd nd hg hu hm;generalize eA g2 6=a at*;generalize eA u2 4=b at*;generalize List.replicate 52 (0:UInt8)=z at*;go_enter func155,ntmps155;go_wp2_with fail;refine(P1.out w).mono ?_;rintro e w1 ⟨rfl,hk1⟩;have bU:=hd0 hk1;clear hk1;go_wp2_with fail;refine(P2.out w1).mono ?_;rintro e w2 ⟨rfl,dc⟩;have bu:=hd0 (bU.out.keep dc);clear dc;have c0:w2.cell? ⟨l,0,none⟩=some (aq pd):=(bu.out.cell (p:=⟨l,0,none⟩) (ai H.out) id).trans (aa H.out 0);have hl:l<w2.heap.size:=atS (ai H.out) bu.out.size;go_wp2_with fail;refine il 1 11 (by kernel_rfl) (by kernel_rfl) (fun _ o _ _ _ h=>by cases o<;>exact h) ?_;simp only[auz,auA,auB,auC];refine ft (fun L hL=>?_)
 go_simp
 first|refine hL _ ?_|refine⟨_,fun _=>rfl,hL _ ?_⟩
 clear hL L;refine kq ?_
 repeat (quiet_step (with_reducible exact bw (ZR.out _)))
 refine auE ?_;intro _ cJ;obtain⟨xq,rfl⟩:=cJ;have nH:=bu.out.keep (aD w2 xq);have Nj:=hd0 (ab nH H.out id);have HD3:=HD.out.mod nH (fun _ _=>id);have dT:=hd0 nH;have WR:=kD HD3 0 (by have:=HM.out;omega) (ww g2 u2) (Ln _ _);rw[<-HS.out]at WR;have HWR:=hd0 WR;clear nH HD3 WR;go_wp2_with fail;refine HWR.out.mono ?_;rintro e w3 ⟨rfl,Ni,IC,dq⟩;have An:=ab dq.mod Nj.out ND.out;have n3:¬ Ni l:=fun hv=>(dq.foot l hv).elim ND.out (fun hge=>by have:=ai Nj.out;omega);have nL:Hid (ah (fun b=>b=l\/Fd b) w w3):=hd0 ((dT.out.mono (fun _ _ h=>h.elim)).trans (dq.mod.mono (T:=fun b=>b=l\/Fd b) (fun _ _ h=>.inr h)) (fun _ _ h=>h));have Fm:Hid (∀ b,Ni b->Fd b\/w.heap.size<=b):=hd0 (fun b hb=>(dq.foot b hb).imp id (fun h=>by have:=dT.out.size;omega));have U9:=hd0 IC;have Rb:=hd0 An;have N3:=hd0 n3;clear IC dq An n3 HWR Nj c0 hl;go_wp2_with fail;refine(pG Rb.out).mono ?_;rintro e w4 ⟨rfl,Tb,Ao⟩;have Hd4:=hd0 (U9.out.mod Ao (fun b hb e=>N3.out (e▸hb)));have rf:Hid (ah (fun b=>b=l\/Fd b) w w4):=hd0 (nL.out.trans (Ao.mono (T:=fun b=>b=l\/Fd b) (fun _ _ h=>.inl h)) (fun _ _ h=>h));have c0:w4.cell? ⟨l,0,none⟩=some (aq pd):=aa Tb 0;have Y5:=hd0 Tb;have SY:=hd0 (pA Hd4.out);clear Tb Ao U9 Rb nL;go_wp2_with fail;refine SY.out.mono ?_;rintro e w5 ⟨rfl,UW,hd5,mi⟩;have M9:=ab mi.mod Y5.out N3.out;have n5:¬ UW l:=fun hv=>(mi.foot l hv).elim N3.out (fun hge=>by have:=ai Y5.out;omega);have hs4:=rf.out.size;have BY:Hid (ah (fun b=>b=l\/Fd b) w w5):=hd0 (rf.out.trans mi.mod (fun i hi h=>(Fm.out i h).elim .inr (fun hge=>by omega)));have Fo:Hid (∀ b,UW b->Fd b\/w.heap.size<=b):=hd0 (fun b hb=>(mi.foot b hb).elim (Fm.out b) (fun h=>.inr (by omega)));have Hd5:=hd0 hd5;have SS:=hd0 M9;have N5:=hd0 n5;clear hd5 mi M9 n5 SY c0 Hd4 Y5 rf;go_wp2_with fail;refine(pG SS.out).mono ?_;rintro e w6 ⟨rfl,Nh,rc⟩;have Hd6:=hd0 (Hd5.out.mod rc (fun b hb e=>N5.out (e▸hb)));have Oe:Hid (ah (fun b=>b=l\/Fd b) w w6):=hd0 (BY.out.trans (rc.mono (T:=fun b=>b=l\/Fd b) (fun _ _ h=>.inl h)) (fun _ _ h=>h));have Ho6:=hd0 Nh;clear Nh rc;go_wp2;go_ret;exact⟨rfl,UW,Ho6.out,by rw[HHD.out,<-HS.out];exact Hd6.out,Oe.out,Fo.out⟩
theorem Dm {w:World}{p:Nat}{d:Dk}{F:Nat->Prop}(h:bA w p d F)(hm:5<=d.size)(g:Nat)(hg:g<=1099511627776):
  Calls prog 100 #[aq p,.int .i64 (g:Int)] w fun e w'=>∃ l,e=.returned (.tuple #[aq l,.int .i64 0])/\w.heap.size<=l/\∃ F',kT w' l (eg d g 0) g [] F'/\dV F F' w w':=by
 have SE:=hd0 (jp h);have H:=hd0 h;have pn:d.size<=16384:=h.ok.many;have q1:¬(d.size:Int)<5:=by omega
 have q2:(0:Int)<=(g:Int):=by omega
 have q3:¬(1099511627776:Int)<(g:Int):=by omega
 have HM:=hd0 hm;have HG:=hd0 hg;have HN:=hd0 pn;obtain⟨W,hW⟩:∃ W,w.alloc (.cells (gI p g [] (.slice none 0 0)) 196)=W:=⟨_,rfl⟩
 have hW':w.alloc (.cells #[aq p,.int .i64 (g:Int),.string ⟨#[]⟩,.slice none 0 0,.bool false] 196)=W:=hW;have k0:af w W:=by rw[<-hW];exact(ah.refl _ w).alloc _
 have uC:W.heap.size=w.heap.size+1:=by rw[<-hW];simp
 have o0:World.blk W w.heap.size (gI p g [] (.slice none 0 0)) 196:=by rw[<-hW];exact aw w _ _
 have hnf:¬ F w.heap.size:=fun hv=>by have:=h.lt _ hv;omega
 have HE:=qF o0 (h.mod k0 (fun _ _=>id)) hm hnf g 0 hg (by omega);have HHE:Hid (Calls prog 155 #[aq w.heap.size,.int .i64 (g:Int),.int .i64 0] W fun e w'=>e=.returned (.int .i64 0)/\∃ uj,World.blk w' w.heap.size (gI p g [] (.slice none 0 0)) 196/\bA w' p (eg d g 0) uj/\ah (fun b=>b=w.heap.size\/F b) W w'/\(∀ b,uj b->F b\/W.heap.size<=b)):=hd0 HE;have HK:=hd0 k0;have NF:=hd0 hnf;clear HE hW k0 o0 h hm hg pn hnf;generalize hq:d.size=q at*;have HQ:=hd0 hq;clear hq;go_enter func100,ntmps100;go_wp2_with fail;refine SE.out.mono ?_;rintro e w1 ⟨rfl,rfl⟩;go_wp2_with fail;refine HHE.out.mono ?_;rintro e w2 ⟨rfl,Fd,ho,hd,gO,hf⟩;have Ho:=hd0 ho;have Hd:=hd0 hd;have Hm:=hd0 gO;have Hf:=hd0 hf;clear ho hd gO hf HHE;go_wp2;go_ret2;have lh:=Hm.out.size;have xX:¬ Fd w1.heap.size:=fun hv=>(Hf.out _ hv).elim NF.out (fun hge=>by omega);have cA:(eg d g 0).size=q:=by unfold eg;rw[dB,fu];exact HQ.out
 refine⟨w1.heap.size,rfl,atL _,fun b=>Fd b\/b=w1.heap.size,⟨p,.slice none 0 0,Fd,?_⟩,?_⟩
 ·exact { own:=Ho.out,disk:=Hd.out,list:=⟨rfl,.inl ⟨rfl,rfl⟩⟩,fl:=.inr rfl,fd:=fun b hb=>.inl hb,fv:=fun b e=>by cases e
          nd:=xX,many:=by rw[cA];exact⟨HM.out,HN.out⟩,gen:=HG.out,eqT:=rfl,room:=by simp[lq],lt:=fun b hb=>hb.elim (fun h=>Hd.out.lt b h) (fun h=>by omega) }
 ·refine⟨⟨Hm.out.os.trans HK.out.os,Hm.out.tape.trans HK.out.tape,Hm.out.output.trans HK.out.output,by omega,fun b hb hn=>?_⟩,fun b hb=>hb.elim (fun h=>(Hf.out b h).imp id (fun h=>by omega)) (fun h=>.inr (by omega))⟩;rw[Hm.out.block b (by omega) (fun e=>e.elim (fun e=>by omega) hn)];exact HK.out.block b hb id
end
section
open Go.RowKit Go.Shelf
attribute [local go_sem] atC
theorem zE {w:World}{l gen:Nat}{d:Dk}{recs:List ay}{F:Nat->Prop}(h:kT w l d gen recs F):
  Calls prog 63 #[aq l] w fun e w'=>e=.returned (.int .i64 ((bE d*64-(lq recs).length:Nat):Int))/\af w w':=by
 obtain⟨pd,lv,Fd,h⟩:=h;have hh:bE d<=16384:=by have:=h.many;unfold bE;omega
 have hr:=h.room;have c2:∀ x,(w.ext x).cell? ⟨l,2,none⟩=some (aB (lq recs)):=fun x=>((aD w x).cell (p:=⟨l,2,none⟩) (ai h.own) id).trans (aa h.own 2);have HH:Hid (∀ x,Calls prog 123 #[aq l] (w.ext x) fun e w'=>e=.returned (.int .i64 (bE d:Int))/\af (w.ext x) w'):=hd0 (fun x=>(zC (ab (aD w x) h.own id) (h.disk.mod (aD w x) (fun _ _=>id)) h.many.1).mono (by rintro e w' ⟨rfl,rfl⟩;exact⟨rfl,ah.refl _ _⟩));have hl:l<w.heap.size:=ai h.own;clear h;generalize lq recs=t at*;generalize bE d=q at*;have e0:((q*64-t.length:Nat):Int)=(q:Int)*64-(t.length:Int):=by omega
 have e1:IntKind.i64.wrap ((q:Int)*64)=(q:Int)*64:=fh (by omega);have e2:IntKind.i64.wrap ((q:Int)*64-(t.length:Int))=(q:Int)*64-(t.length:Int):=fh (by omega);rw[e0];clear e0;go_enter func63,ntmps63;go_wp2_with fail;refine cN (by kernel_rfl) (by kernel_rfl) ?_
 repeat (quiet_step (with_reducible exact bw (HH.out _)))
 refine auE ?_;intro _ cJ;obtain⟨xq,rfl⟩:=cJ;go_wp2;go_ret;exact⟨rfl,aD w xq⟩
theorem GF {w:World}{l gen:Nat}{d:Dk}{recs:List ay}{F:Nat->Prop}(h:kT w l d gen recs F)(g2:Nat)(h1:gen<g2)(h2:g2<=1099511627776):
  Calls prog 143 #[aq l,.int .i64 (g2:Int)] w fun e w'=>e=.returned (.int .i64 0)/\∃ F',kT w' l (eg d g2 0) g2 [] F'/\dV F F' w w':=by
 obtain⟨pd,lv,Fd,h⟩:=h;have H:=hd0 h;have c1:w.cell? ⟨l,1,none⟩=some (.int .i64 (gen:Int)):=aa h.own 1;have c4:w.cell? ⟨l,4,none⟩=some (.bool false):=aa h.own 4;have q1:¬(g2:Int)<=(gen:Int):=by omega
 have q2:¬(1099511627776:Int)<(g2:Int):=by omega
 have HE:=qF h.own h.disk h.many.1 h.nd g2 0 h2 (by omega);have HHE:Hid (Calls prog 155 #[aq l,.int .i64 (g2:Int),.int .i64 0] w fun e w'=>e=.returned (.int .i64 0)/\∃ uj,World.blk w' l (gI pd gen (lq recs) lv) 196/\bA w' pd (eg d g2 0) uj/\ah (fun b=>b=l\/Fd b) w w'/\(∀ b,uj b->Fd b\/w.heap.size<=b)):=hd0 HE;have HG:=hd0 h2;clear HE h h1 h2;go_enter func143,ntmps143;go_wp2_with fail;refine HHE.out.mono ?_;rintro e w2 ⟨rfl,Ot,ho,hd,gO,hf⟩;have c1:w2.cell? ⟨l,1,none⟩=some (.int .i64 (gen:Int)):=aa ho 1;have c2:w2.cell? ⟨l,2,none⟩=some (aB (lq recs)):=aa ho 2;have c3:w2.cell? ⟨l,3,none⟩=some lv:=aa ho 3;have f1:=ae ho ⟨l,1,none⟩ rfl;have f2:=ae ho ⟨l,2,none⟩ rfl;have f3:=ae ho ⟨l,3,none⟩ rfl;have Ho:=hd0 ho;have Hd:=hd0 hd;have Hm:=hd0 gO;have Hf:=hd0 hf;clear ho hd gO hf HHE;go_wp2;go_ret;have m7:ah (fun b=>b=l) w2 (((w2.setCell ⟨l,1,none⟩ (.int .i64 (g2:Int))).setCell ⟨l,2,none⟩ (.string ⟨#[]⟩)).setCell ⟨l,3,none⟩ (.slice none 0 0)):=(((ah.refl (fun b=>b=l) w2).setCell (p:=⟨l,1,none⟩) (.inl rfl) _).setCell (p:=⟨l,2,none⟩) (.inl rfl) _).setCell (p:=⟨l,3,none⟩) (.inl rfl) _;have o7:World.blk (((w2.setCell ⟨l,1,none⟩ (.int .i64 (g2:Int))).setCell ⟨l,2,none⟩ (.string ⟨#[]⟩)).setCell ⟨l,3,none⟩ (.slice none 0 0)) l (gI pd g2 [] (.slice none 0 0)) 196:=ag (ag (ag Ho.out 1 _) 2 _) 3 _;generalize ((w2.setCell ⟨l,1,none⟩ (.int .i64 (g2:Int))).setCell ⟨l,2,none⟩ (.string ⟨#[]⟩)).setCell ⟨l,3,none⟩ (.slice none 0 0)=w6 at*;have uC:=Hm.out.size;have lh:=m7.size;have n2:¬ Ot l:=fun hv=>(Hf.out l hv).elim H.out.nd (fun hge=>by have:=H.out.lt l H.out.fl;omega);have cA:(eg d g2 0).size=d.size:=by unfold eg;rw[dB,fu]
 refine⟨rfl,fun b=>F b\/Ot b,⟨pd,.slice none 0 0,Ot,?_⟩,?_⟩
 ·exact { own:=o7,disk:=Hd.out.mod m7 (fun b hb e=>n2 (e▸hb)),list:=⟨rfl,.inl ⟨rfl,rfl⟩⟩,fl:=.inl H.out.fl,fd:=fun b hb=>.inr hb,fv:=fun b e=>by cases e
          nd:=n2,many:=by rw[cA];exact H.out.many,gen:=HG.out,eqT:=rfl,room:=by simp[lq],lt:=fun b hb=>hb.elim (fun h=>by have:=H.out.lt b h;omega) (fun h=>by have:=Hd.out.lt b h;omega) }
 ·exact⟨(Hm.out.mono (T:=F) (fun i _ h=>h.elim (fun e=>by subst e;exact H.out.fl) (H.out.fd i))).trans (m7.mono (T:=F) (fun i _ e=>by subst e;exact H.out.fl)) (fun _ _ h=>h),fun b hb=>hb.elim .inl (fun h=>(Hf.out b h).imp (H.out.fd b) id)⟩
end
end Go.Proofs.YtkghpdcloaiflaaGreatDoor
