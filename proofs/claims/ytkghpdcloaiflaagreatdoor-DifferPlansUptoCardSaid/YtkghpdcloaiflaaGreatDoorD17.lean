import Derived.Test.YtkghpdcloaiflaaGreatDoorD16
set_option maxHeartbeats 2000000
set_option maxRecDepth 100000
namespace Go.Proofs.YtkghpdcloaiflaaGreatDoor
open _root_.Go.Proofs.Tryz
section
open Go.RowKit Go.Shelf
attribute [local go_sem] auG
theorem G6 (l:List ay)(s:ay)(h:∀ x∈l,x.length<=1000000)(hs:s.length<=1000000):(l.foldl eG s).length<=1000000:=by
 induction l generalizing s with
 |nil=>exact hs
 |cons x r ih=>
  refine ih (eG s x) (fun y hy=>h y (by simp[hy])) ?_;have:=lS s x;have:=h x (by simp);omega
theorem dy.mem {w:World}{m n:Nat}{L:List ay}(h:dy w m n L):∀ x∈L,x.length<=1000000:=fun x hx=>by
 obtain⟨i,hi,rfl⟩:=List.getElem_of_mem hx;have:=h.short i;rw[List.getD,auM hi]at this;exact this
theorem Qf (a0 a1 a2 a3 a4 a5 a6 a7:Value)(W:World)(k:Nat)(hk:k<8):(Instr.index 143 (.agg #[a0,a1,a2,a3,a4,a5,a6,a7]) (.int .i64 (k:Int))).run prog W=.ok ([a0,a1,a2,a3,a4,a5,a6,a7].getD k a0) W:=by
 have CA:k=0\/k=1\/k=2\/k=3\/k=4\/k=5\/k=6\/k=7:=by omega
 rcases CA with rfl|rfl|rfl|rfl|rfl|rfl|rfl|rfl<;>rfl
theorem zR {w:World}{m n:Nat}{L:List ay}(h:dy w m n L):
  Calls prog 127 #[aq m] w fun e w'=>e=.returned (aB (cW L))/\af w w':=by
 have H:=hd0 h;have c0:w.cell? ⟨m,0,none⟩=some (.int .i64 (n:Int)):=aa h.own 0;have c1:=h.cell 0 (by omega);have c2:=h.cell 1 (by omega);have c3:=h.cell 2 (by omega);have c4:=h.cell 3 (by omega);have c5:=h.cell 4 (by omega);have c6:=h.cell 5 (by omega);have c7:=h.cell 6 (by omega);have c8:=h.cell 7 (by omega);simp only[Nat.reduceAdd]at c1 c2 c3 c4 c5 c6 c7 c8;clear h;go_enter func127,ntmps127;go_wp2_with fail;clear c0 c1 c2 c3 c4 c5 c6 c7 c8
 go_loopw [10,3] (fun i v wr=>∃ k:Nat,k<=8/\i=.int .i64 (k:Int)/\v=aB ((L.take k).foldl eG [])/\af w wr) (fun i _ _=>8-(intOf i).toNat)
 case atStart=>exact⟨0,by omega,rfl,rfl,ah.refl _ w⟩
 case round=>
  obtain⟨k,hk,rfl,rfl,hK⟩:=hrel;have HK:=hd0 hK;clear hK;by_cases aK:k<8
  ·have OR:=lT ((L.take k).foldl eG []) (L.getD k []) wr (auI (G6 _ _ (fun x hx=>H.out.mem x (auR hx)) (by simp)) (by decide)) (auI (H.out.short k) (by decide));have he:(L.take (k+1)).foldl eG []=eG ((L.take k).foldl eG []) (L.getD k []):=by
    have h8:=H.out.eight;rw[auO,List.foldl_append,List.getD,auM (show k<L.length by omega)];rfl
   have HO:=hd0 OR;have HE:=hd0 he;clear OR he;have dR:(k:Int)<8:=by omega
   have hx:=fun W=>Qf (aB (L[0]?.getD [])) (aB (L[1]?.getD [])) (aB (L[2]?.getD [])) (aB (L[3]?.getD [])) (aB (L[4]?.getD [])) (aB (L[5]?.getD [])) (aB (L[6]?.getD [])) (aB (L[7]?.getD [])) W k aK;have hg:[aB (L[0]?.getD []),aB (L[1]?.getD []),aB (L[2]?.getD []),aB (L[3]?.getD []),aB (L[4]?.getD []),aB (L[5]?.getD []),aB (L[6]?.getD []),aB (L[7]?.getD [])].getD k (aB (L[0]?.getD []))=aB (L.getD k []):=by
    have CA:k=0\/k=1\/k=2\/k=3\/k=4\/k=5\/k=6\/k=7:=by omega
    rcases CA with rfl|rfl|rfl|rfl|rfl|rfl|rfl|rfl<;>rfl
   rw[hg]at hx;clear hg;go_wp2_with fail;refine HO.out.mono ?_;rintro e w1 ⟨rfl,hk1⟩;have bS:=hd0 (HK.out.trans hk1 (fun _ _ h=>h));clear hk1 hx;go_wp2_with fail
   go_roundw
   case rel=>exact⟨k+1,by omega,by go_num,by rw[HE.out];rfl,bS.out⟩
   case measure=>simp[intOf];omega
  ·obtain rfl:k=8:=by omega
   have h8:=H.out.eight;rw[avx (by omega)];go_wp2;go_ret;exact⟨rfl,HK.out⟩
theorem LP {w:World}{m n:Nat}{L:List ay}(h:dy w m n L)(h1:1<=n)(hc:(cW L).length<=100000):
  Calls prog 221 #[aq m] w fun e w'=>e=.returned (.int .i64 ((n:Int)-1-(jM (cW L):Int)))/\af w w':=by
 have H:=hd0 h;have c0:w.cell? ⟨m,0,none⟩=some (.int .i64 (n:Int)):=aa h.own 0;have HM:=h.many;have HU:Hid (∀ x,Calls prog 127 #[aq m] (w.ext x) fun e w'=>e=.returned (aB (cW L))/\af (w.ext x) w'):=hd0 (fun x=>zR (h.mod (aD w x) id));have HC:Hid (∀ X,Calls prog 47 #[aB (cW L)] X fun e w'=>e=.returned (.int .i64 (jM (cW L):Int))/\af X w'):=hd0 (fun X=>zN _ hc X);have rp:jM (cW L)<=800000:=by
  have:=rT (cW L);unfold jM;omega
 have ce:∀ x,(w.ext x).cell? ⟨m,0,none⟩=some (.int .i64 (n:Int)):=fun x=>by rw[(aD w x).cell (p:=⟨m,0,none⟩) (am c0) id];exact c0
 clear h hc;generalize jM (cW L)=q at*;generalize cW L=U at*;have e1:IntKind.i64.wrap ((n:Int)-1)=(n:Int)-1:=fA (by omega);have e2:IntKind.i64.wrap ((n:Int)-1-(q:Int))=(n:Int)-1-(q:Int):=fA (by omega);go_enter func221,ntmps221;go_wp2_with fail;refine cO (by kernel_rfl) (by kernel_rfl) ?_
 repeat (quiet_step (first|(with_reducible exact bA (HU.out _))|(with_reducible exact bA (HC.out _))))
 refine avE ?_;intro _ cL;obtain⟨xq,rfl⟩:=cL;go_wp2;go_ret;exact⟨rfl,aD w xq⟩
theorem LQ {w:World}{m n:Nat}{L:List ay}(h:dy w m n L)(a b:Nat)(ha:a<8)(hb:b<8):
  Calls prog 54 #[aq m,.int .i64 (a:Int),.int .i64 (b:Int)] w fun e w'=>e=.returned (.tuple #[aB (bZ (L.getD b []) (L.getD a [])),aB (bZ (L.getD a []) (L.getD b [])),.int .i64 0])/\af w w':=by
 obtain⟨W,hW⟩:∃ W,w.alloc (.cells #[.int .i64 (a:Int),.int .i64 (b:Int)] 3)=W:=⟨_,rfl⟩
 have k0:af w W:=by rw[<-hW];exact(ah.refl _ w).alloc _
 have IS:=hd0 (Bi W w.heap.size [a,b] (by simp) (by simp;omega) (by rw[<-hW];exact aw w _ _));have HH:=h.mod k0 id;have ca:∀ x,(W.ext x).cell? ⟨m,1+a,none⟩=some (aB (L.getD a [])):=fun x=>(HH.mod (aD W x) id).cell a ha;have cb:∀ x,(W.ext x).cell? ⟨m,1+b,none⟩=some (aB (L.getD b [])):=fun x=>(HH.mod (aD W x) id).cell b hb;have HK:=hd0 k0;have M1:=hd0 (fun X=>nD (L.getD b []) (L.getD a []) X (auI (h.short b) (by decide)) (auI (h.short a) (by decide)));have M2:=hd0 (fun X=>nD (L.getD a []) (L.getD b []) X (auI (h.short a) (by decide)) (auI (h.short b) (by decide)));have h1:(a:Int)<8:=by omega
 have h2:(b:Int)<8:=by omega
 clear h k0 HH ha hb;generalize L.getD a []=A at*;generalize L.getD b []=B at*;go_enter func54,ntmps54;go_wp2_with fail;refine IS.out.mono ?_;rintro e w1 ⟨rfl,rfl⟩;go_wp2_with fail;refine cO (by kernel_rfl) (by kernel_rfl) ?_
 repeat (quiet_step (fail))
 refine avE ?_;intro _ cL;obtain⟨xq,rfl⟩:=cL;have bS:=hd0 (HK.out.keep (aD w1 xq));go_wp2_with fail;refine(M1.out _).mono ?_;rintro e w2 ⟨rfl,df⟩;have bw:=hd0 (bS.out.keep df);clear df;go_wp2_with fail;refine(M2.out _).mono ?_;rintro e w3 ⟨rfl,dm⟩;have dJ:=hd0 (bw.out.keep dm);clear dm;go_wp2;go_ret3;exact⟨rfl,dJ.out⟩
end
section
open Go.RowKit Go.Shelf
attribute [local go_sem] auG
def wX (p:Nat)(o:ay)(b:Nat):ay:=o.set b (o.getD b 0|||UInt8.ofNat (2 ^ p))
def lc (p:Nat)(l:List Nat)(o:ay):ay:=l.foldl (wX p) o
def j6 (L:List ay)(n:Nat):Nat->ay
 |0=>List.replicate n 0
 |p+1=>lc p (cq (L.getD p [])) (j6 L n p)
theorem tl (p:Nat):∀(l:List Nat) (o:ay),(lc p l o).length=o.length
 |[],_=>rfl
 |x::r,o=>by show(lc p r (wX p o x)).length=_;rw[tl p r];simp[wX]
theorem kB (L:List ay)(n:Nat):∀ p,(j6 L n p).length=n
 |0=>by simp[j6]
 |p+1=>by rw[j6,tl,kB L n p]
theorem zS (p:Nat):∀(l:List Nat) (o:ay) (b:Nat),b<o.length->l.Nodup->(lc p l o).getD b 0=if b∈l then o.getD b 0|||UInt8.ofNat (2 ^ p)else o.getD b 0
 |[],o,b,_,_=>by simp[lc]
 |x::r,o,b,hb,hn=>by
  show(lc p r (wX p o x)).getD b 0=_;rw[List.nodup_cons]at hn;rw[zS p r _ b (by simp[wX];exact hb) hn.2];by_cases hx:b=x
  ·subst hx;rw[auV hn.1,auT (by simp)];simp[wX,List.getD,hb]
  ·have e:(wX p o x).getD b 0=o.getD b 0:=by
    unfold wX;rw[List.getD,List.getElem?_set,auV (fun e=>hx e.symm)];rfl
   rw[e];by_cases hr:b∈r
   ·rw[auT hr,auT (by simp[hr])]
   ·rw[auV hr,auV (by simp[hx,hr])]
theorem UU (p k:Nat)(hp:p<8)(hk:k<8):(UInt8.ofNat (2 ^ p)).toNat.testBit k=decide (k=p):=by
 have key:∀ p k:Fin 8,(UInt8.ofNat (2 ^ p.1)).toNat.testBit k.1=decide (k.1=p.1):=by decide +kernel
 exact key ⟨p,hp⟩ ⟨k,hk⟩
theorem zT (L:List ay)(n b k:Nat)(hb:b<n)(hk:k<8):∀ p,p<=8->((j6 L n p).getD b 0).toNat.testBit k=(decide (k<p)&&ai (L.getD k []) b)
 |0,_=>by simp[j6,List.getD,hb]
 |p+1,hp=>by
  have ih:=zT L n b k hb hk p (by omega);rw[j6,zS p _ _ b (by rw[kB];exact hb) (vE _)];by_cases hm:b∈cq (L.getD p [])
  ·rw[auT hm,UInt8.toNat_or,Nat.testBit_or,ih,UU p k (by omega) hk];rw[oI]at hm;by_cases TZ:k=p
   ·subst TZ;have V1:ai (L[k]?.getD []) b=true:=hm;simp[V1]
   ·have:(k<p+1)=(k<p):=by simp;omega
    simp only[TZ,decide_false,Bool.or_false,this]
  ·rw[auV hm,ih];rw[oI]at hm;by_cases TZ:k=p
   ·subst TZ;simp at hm ⊢;exact hm
   ·have:(k<p+1)=(k<p):=by simp;omega
    simp only[this]
theorem G7 (L:List ay)(n:Nat):j6 L n 8=ik L n:=by
 apply List.ext_getElem?;intro b;by_cases hb:b<n
 ·have h1:b<(j6 L n 8).length:=by rw[kB];exact hb
  have h2:b<(ik L n).length:=by simp[ik];exact hb
  rw[auM h1,auM h2]
  congr 1
  apply vD;intro k hk;have:=zT L n b k hb hk 8 (by omega);rw[List.getD,auM h1]at this;rw[show(j6 L n 8)[b].toNat.testBit k=(decide (k<8)&&ai (L.getD k []) b)from this];have e:(ik L n)[b]=UInt8.ofNat ((List.range 8).foldl (fun a p=>if ai (L.getD p []) b then a+2 ^ p else a) 0):=by simp[ik]
  rw[e,zt (fun p=>ai (L.getD p []) b) k hk];simp[hk]
 ·rw[avF (by rw[kB];omega),avF (by simp[ik];omega)]
theorem G9 (p:Nat)(l:List Nat)(o:ay)(j:Nat)(hj:j<l.length):lc p (l.take (j+1)) o=wX p (lc p (l.take j) o) l[j]:=by
 unfold lc;rw[auO,List.foldl_append,auM hj];rfl
theorem Y1 (c:UInt8)(k:Nat)(hk:k<8):bits BinOp.or IntKind.u8 (c.toNat:Int) (2 ^ k%256)=((c|||UInt8.ofNat (2 ^ k)).toNat:Int):=by
 have key:∀(n:Fin 256) (k:Fin 8),bits BinOp.or IntKind.u8 (n.1:Int) (2 ^ k.1%256)=((UInt8.ofNat n.1|||UInt8.ofNat (2 ^ k.1)).toNat:Int):=by decide +kernel
 have:=key ⟨c.toNat,c.toNat_lt⟩ ⟨k,hk⟩;simpa using this
theorem LR {w:World}{m n:Nat}{L:List ay}(h:dy w m n L)(hL:∀ p b,ai (L.getD p []) b=true->b<n)(hs:∀ p,(L.getD p []).length<=100000):
  Calls prog 218 #[aq m] w fun e w'=>e=.returned (aB (ik L n))/\af w w':=by
 have H:=hd0 h;have HL:=hd0 hL;have HS:=hd0 hs;have pC:=h.many;have c0:w.cell? ⟨m,0,none⟩=some (.int .i64 (n:Int)):=aa h.own 0;have oq:=jw (P:=prog) (ts:=131) (te:=5) underlying131 (by kernel_rfl) n (by omega);have k1:af w (w.alloc (.cells (aQ (List.replicate n 0)) 5)):=(ah.refl _ w).alloc _;have h1:=h.mod k1 id;have c1:=h1.cell 0 (by omega);have c2:=h1.cell 1 (by omega);have c3:=h1.cell 2 (by omega);have c4:=h1.cell 3 (by omega);have c5:=h1.cell 4 (by omega);have c6:=h1.cell 5 (by omega);have c7:=h1.cell 6 (by omega);have c8:=h1.cell 7 (by omega);simp only[Nat.reduceAdd]at c1 c2 c3 c4 c5 c6 c7 c8;clear h k1 h1 hL hs;go_enter func218,ntmps218;go_wp2_with fail;clear c0 c1 c2 c3 c4 c5 c6 c7 c8 oq;have HO:Hid (World.blk (w.alloc (.cells (aQ (List.replicate n 0)) 5)) w.heap.size (aQ (j6 L n 0)) 5):=hd0 (aw _ _ _);have HK:Hid (af w (w.alloc (.cells (aQ (List.replicate n 0)) 5))):=hd0 ((ah.refl _ w).alloc _);generalize (w.alloc (.cells (aQ (List.replicate n 0)) 5))=w0 at*;obtain⟨ob,iq⟩:∃ ob,w.heap.size=ob:=⟨_,rfl⟩
 have yl:=hd0 iq;rw[iq]at HO;rw[iq];clear iq
 go_loopw [17] (fun i wr=>∃ k:Nat,k<=8/\i=.int .i64 (k:Int)/\af w wr/\World.blk wr ob (aQ (j6 L n k)) 5) (fun i _=>8-(intOf i).toNat)
 case atStart=>exact⟨0,by omega,rfl,HK.out,HO.out⟩
 case round=>
  clear HO HK;obtain⟨wq0,rfl⟩:∃ wq0,wq0=wr:=⟨_,rfl⟩
  obtain⟨k,hk,rfl,hK,hO⟩:=hrel;have HK:=hd0 hK;have HO:=hd0 hO;clear hK hO;by_cases aK:k<8
  ·have dR:(k:Int)<8:=by omega
   have hx:=fun W=>Qf (aB (L[0]?.getD [])) (aB (L[1]?.getD [])) (aB (L[2]?.getD [])) (aB (L[3]?.getD [])) (aB (L[4]?.getD [])) (aB (L[5]?.getD [])) (aB (L[6]?.getD [])) (aB (L[7]?.getD [])) W k aK;have hg:[aB (L[0]?.getD []),aB (L[1]?.getD []),aB (L[2]?.getD []),aB (L[3]?.getD []),aB (L[4]?.getD []),aB (L[5]?.getD []),aB (L[6]?.getD []),aB (L[7]?.getD [])].getD k (aB (L[0]?.getD []))=aB (L.getD k []):=by
    have CA:k=0\/k=1\/k=2\/k=3\/k=4\/k=5\/k=6\/k=7:=by omega
    rcases CA with rfl|rfl|rfl|rfl|rfl|rfl|rfl|rfl<;>rfl
   rw[hg]at hx;clear hg;have LI:=zM (L.getD k []) (HS.out k) wq0;have fi:Hid (∀ x∈cq (L.getD k []),x<n):=hd0 (fun x hx=>HL.out k x (oI.1 hx));have uE:Hid ((cq (L.getD k [])).length<=800000):=hd0 (by have:=rT (L.getD k []);have:=HS.out k;omega);have pD:Hid (j6 L n (k+1)=lc k (cq (L.getD k [])) (j6 L n k)):=hd0 rfl;have aW:Hid ((j6 L n k).length=n):=hd0 (kB L n k);have HLI:=hd0 LI;clear LI;generalize j6 L n k=o at*;generalize hl:cq (L.getD k [])=l at*;clear hl;have Cu:L.getD k []=L[k]?.getD []:=rfl;rw[Cu]at HLI hx;clear Cu;generalize L[k]?.getD []=S at*;go_wp2_with fail;refine HLI.out.mono ?_;rintro e wl ⟨v,rfl,ho,hr,yX⟩;obtain⟨a,cap,rfl,hr⟩:=hr;rw[avf]at ho ⊢;have HB:Hid (ob<wq0.heap.size/\w.heap.size<=ob):=hd0 ⟨ak HO.out,by rw[yl.out];exact auP _⟩;have HO1:=hd0 (ab yX HO.out id);have bS:=hd0 (HK.out.keep yX);have sR:=hd0 ho;have Cx:(l.length:Int)<=800000:=by have:=uE.out;omega
   clear yX ho hr hx HO HK HLI;go_wp2_with fail
   go_loopw [24] (fun i wq=>∃ j:Nat,j<=l.length/\i=.int .i64 (j:Int)/\af w wq/\World.blk wq ob (aQ (lc k (l.take j) o)) 5/\aI wq wq0.heap.size (.slice a l.length cap) (eU l)) (fun i _=>l.length-(intOf i).toNat)
   case atStart=>exact⟨0,by omega,rfl,bS.out,HO1.out,sR.out⟩
   case round=>
    clear HO1 bS sR;obtain⟨j,hj,rfl,hK2,hO2,RQ⟩:=hrel;have bw:=hd0 hK2;have zl:=hd0 hO2;have rz:=hd0 RQ;obtain⟨a',Wz,ea,eM⟩:=aY RQ;by_cases CD:j<l.length
    ·have akw:(j:Int)<l.length:=by omega
     obtain⟨b,off,rfl,cj⟩:=eM j (.int .i64 (l[j]:Int)) (by simp[ba,eU,CD]);have ea':a=some ⟨b,off,none⟩:=by injection ea
     subst ea';have adI:Hid (lc k (l.take (j+1)) o=wX k (lc k (l.take j) o) l[j]):=hd0 (G9 k l o j CD);have XB:=fi.out l[j] (avl _);have hlc:(lc k (l.take j) o).length=n:=by rw[tl];exact aW.out
     clear hK2 hO2 RQ ea eM;generalize hx:l[j]=x at*;clear hx;generalize lc k (l.take j) o=dz at*;have hc:∀ X,(wr.ext X).cell? ⟨ob,x,none⟩=some (.int .u8 ((dz.getD x 0).toNat:Int)):=fun X=>by
      rw[(aD wr X).cell (p:=⟨ob,x,none⟩) (ak zl.out) id,aa zl.out x];simp[aQ,gx,auM (show x<dz.length by omega),List.getD]
     have hf:∀ X,(wr.ext X).frozen? ⟨ob,x,none⟩=false:=fun X=>ae (ab (aD wr X) zl.out id) _ rfl;have hxi:(x:Int)<(n:Int):=by omega
     generalize yv:dz.getD x 0=c at*;have Hcv:=hd0 yv;clear yv;go_wp2_with fail;refine rK 8 (by kernel_rfl) (by kernel_rfl) ?_;simp only[avz,avA,avB,avC]
     repeat (quiet_step (fail))
     refine avE ?_;intro _ cL;obtain⟨xq,rfl⟩:=cL;have f1:=hf xq;have c1:=hc xq;go_wp2_with fail;have nX:=aD wr xq;refine⟨⟨j+1,by omega,by go_num,(bw.out.keep nX).setCell (p:=⟨ob,x,none⟩) (.inr HB.out.2) _,?_,?_⟩,by simp[intOf];omega⟩
     ·have h:=ag (ab nX zl.out id) x (.int .u8 (((c|||UInt8.ofNat (2 ^ k)).toNat:Nat):Int));rw[Gl]at h;rw[adI.out];unfold wX;rw[Hcv.out,Y1 c k aK];exact h
     ·exact JF (iB rz.out nX) ((ah.refl (fun b=>b=ob) _).setCell (p:=⟨ob,x,none⟩) (.inl rfl) _) (fun b hb e=>by have:=HB.out.1;omega)
    ·obtain rfl:j=l.length:=by omega
     have ht:l.take l.length=l:=auQ;rw[ht]at zl;have Fy:¬((l.length:Int)<(l.length:Int)):=by omega
     clear hK2 hO2 RQ ea eM;go_wp2_with fail;refine⟨⟨k+1,by omega,by go_num,bw.out,by rw[pD.out];exact zl.out⟩,by simp[intOf];omega⟩
  ·obtain rfl:k=8:=by omega
   have dj:=tX (P:=prog) (ts:=131) (td:=9) underlying131 underlying5 underlying9 n HO.out (kB L n 8);rw[G7]at dj;go_wp2;go_ret;exact⟨rfl,HK.out⟩
end
section
open Go.RowKit Go.Shelf
attribute [local go_sem] auG
def wY (gen used:Nat):ay:=[78,86]++eJ gen 6++eJ used 4++List.replicate 52 0
def eE (d:Dk)(gen used:Nat):Dk:=(d.put 0 (wY gen used)).sync
theorem LT (gen used:Nat):(wY gen used).length=64:=by simp[wY,il]
theorem xc (x n:Nat)(hx:x<=1099511627776)(hn:n<=6)(w:World):
  Calls prog 150 #[.int .i64 (x:Int),.int .i64 (n:Int)] w fun e w'=>e=.returned (aB (eJ x n))/\af w w':=by
 have oq:=jw (P:=prog) (ts:=131) (te:=5) underlying131 (by kernel_rfl) n (by omega);have HX:=hd0 hx;clear hx;go_enter func150,ntmps150;go_wp2_with fail;clear oq;have HO:Hid (World.blk (w.alloc (.cells (aQ (List.replicate n 0)) 5)) w.heap.size (aQ (eJ x 0++List.replicate (n-0) 0)) 5):=hd0 (aw _ _ _);have HK:Hid (af w (w.alloc (.cells (aQ (List.replicate n 0)) 5))):=hd0 ((ah.refl _ w).alloc _);generalize (w.alloc (.cells (aQ (List.replicate n 0)) 5))=w0 at*;obtain⟨ob,iq⟩:∃ ob,w.heap.size=ob:=⟨_,rfl⟩
 have yl:=hd0 iq;rw[iq]at HO;rw[iq];clear iq
 go_loopw [11] (fun i wr=>∃ k:Nat,k<=n/\i=.int .i64 (k:Int)/\af w wr/\World.blk wr ob (aQ (eJ x k++List.replicate (n-k) 0)) 5) (fun i _=>n-(intOf i).toNat)
 case atStart=>exact⟨0,by omega,rfl,HK.out,HO.out⟩
 case round=>
  clear HO HK;obtain⟨k,hk,rfl,hK,hO⟩:=hrel;have HK:=hd0 hK;have HO:=hd0 hO;clear hK hO;by_cases aK:k<n
  ·have dR:(k:Int)<n:=by omega
   have c0:wr.cell? ⟨ob,k,none⟩=some (.int .u8 0):=by
    rw[aa HO.out];have hl:=il x k;simp[aQ,gx,hl,show 0<n-k by omega]
   have f0:wr.frozen? ⟨ob,k,none⟩=false:=ae HO.out _ rfl;have Tp:(8*(k:Int))<=40:=by omega
   have eb:((UInt8.ofNat (x/256 ^ k%256)).toNat:Int)=(x:Int)/2 ^ (8*k)%256:=by
    rw[show(UInt8.ofNat (x/256 ^ k%256)).toNat=x/256 ^ k%256 by simp,show(256:Nat) ^ k=2 ^ (8*k) by rw[Nat.pow_mul]];simp
   have EB:=hd0 eb;clear eb;go_wp2_with fail;refine⟨⟨k+1,by omega,by go_num,HK.out.setCell (p:=⟨ob,k,none⟩) (.inr (by rw[yl.out];exact auP _)) _,?_⟩,by simp[intOf];omega⟩;have h:=ag HO.out k (.int .u8 ((UInt8.ofNat (x/256 ^ k%256)).toNat:Int));rw[acx,EB.out]at h;have e:(eJ x k++List.replicate (n-k) 0).set k (UInt8.ofNat (x/256 ^ k%256))=eJ x (k+1)++List.replicate (n-(k+1)) 0:=by
    rw[wQ,List.set_append,auV (by rw[il];omega),il,Nat.sub_self,show n-k=(n-(k+1))+1 by omega,List.replicate_succ,List.set_cons_zero,avu];rfl
   rw[e]at h;exact h
  ·obtain rfl:k=n:=by omega
   have dj:=tX (P:=prog) (ts:=131) (td:=9) underlying131 underlying5 underlying9 (len:=k) k HO.out (by simp[il]);have e0:eJ x k++List.replicate (k-k) 0=eJ x k:=by simp
   rw[e0]at dj;go_wp2;go_ret;exact⟨rfl,HK.out⟩
def bF (d:Dk):Nat:=(d.size-1)/2
def gP (pd gen:Nat)(text:ay)(lv:Value):Array Value:=#[aq pd,.int .i64 (gen:Int),aB text,lv,.bool false]
abbrev yL (l:List ay):List Value:=l.map fun s=>aB s
structure UV (w:World)(l pd:Nat)(lv:Value)(d:Dk)(gen:Nat)(text:ay)(recs:List ay)(Fd F:Nat->Prop):Prop where
 own:World.blk w l (gP pd gen text lv) 196
 disk:bB w pd d Fd
 list:w.ownsRow 0 9 1 lv recs.length (yL recs)
 fl:F l
 fd:∀ b,Fd b->F b
 fv:∀ b,lv.ownBlock=some b->F b/\¬ Fd b/\b≠l
 nd:¬ Fd l
 many:5<=d.size/\d.size<=16384
 gen:gen<=1099511627776
 eqT:text=lB recs
 room:text.length<=bF d*64
 lt:∀ b,F b->b<w.heap.size
def ld (w:World)(l:Nat)(d:Dk)(gen:Nat)(recs:List ay)(F:Nat->Prop):Prop:=∃ pd lv Fd,UV w l pd lv d gen (lB recs) recs Fd F
theorem UV.same {w w':World}{l pd gen:Nat}{lv:Value}{d:Dk}{text:ay}{recs:List ay}{Fd F:Nat->Prop}(h:UV w l pd lv d gen text recs Fd F)(m:fG F w w')(hs:w.heap.size<=w'.heap.size):UV w' l pd lv d gen text recs Fd F where
 own:=(m l h.fl (h.lt l h.fl)).trans h.own
 disk:=h.disk.same (fun b hb=>m b (h.fd b hb)) hs
 list:=aA h.list (fun b hb=>m b (h.fv b hb).1 (h.lt b (h.fv b hb).1))
 fl:=h.fl
 fd:=h.fd
 fv:=h.fv
 nd:=h.nd
 many:=h.many
 gen:=h.gen
 eqT:=h.eqT
 room:=h.room
 lt b hb:=auW (h.lt b hb) hs
theorem ld.same {w w':World}{l gen:Nat}{d:Dk}{recs:List ay}{F:Nat->Prop}(h:ld w l d gen recs F)(m:fG F w w')(hs:w.heap.size<=w'.heap.size):ld w' l d gen recs F:=by
 obtain⟨pd,lv,Fd,h⟩:=h;exact⟨pd,lv,Fd,h.same m hs⟩
theorem zU {w:World}{l pd gen:Nat}{lv:Value}{d:Dk}{text:ay}{Fd:Nat->Prop}(h:World.blk w l (gP pd gen text lv) 196)(hd:bB w pd d Fd)(hm:5<=d.size):
  Calls prog 123 #[aq l] w fun e w'=>e=.returned (.int .i64 (bF d:Int))/\w'=w:=by
 have c0:w.cell? ⟨l,0,none⟩=some (aq pd):=aa h 0;have S:=hd0 (jB hd);have pC:d.size<=16384:=hd.ok.many;have e2:((bF d:Nat):Int)=((d.size:Int)-1)/2:=by unfold bF;omega
 have e1:IntKind.i64.wrap ((d.size:Int)-1)=(d.size:Int)-1:=fA (by omega);have e3:((d.size:Int)-1).tdiv 2=((d.size:Int)-1)/2:=avW (by omega);have E2:=hd0 e2;clear h e2;generalize hq:d.size=q at*;go_enter func123,ntmps123;go_wp2_with fail;refine S.out.mono ?_;rintro e w1 ⟨rfl,rfl⟩;go_wp2;go_ret;exact⟨by rw[E2.out];rfl,rfl⟩
theorem pT {w:World}{l pd gen:Nat}{lv:Value}{text:ay}(h:World.blk w l (gP pd gen text lv) 196):
  Calls prog 151 #[aq l,.int .i64 0] w fun e w'=>e=.returned (.int .i64 0)/\World.blk w' l (gP pd gen text lv) 196/\ah (fun b=>b=l) w w':=by
 have c4:w.cell? ⟨l,4,none⟩=some (.bool false):=aa h 4;have f4:=ae h ⟨l,4,none⟩ rfl;have HM:=hd0 ((ah.refl (fun b=>b=l) w).setCell (p:=⟨l,4,none⟩) (.inl rfl) (.bool false));have H:=hd0 (ag h 4 (.bool false));clear h;go_enter func151,ntmps151
 go_wp2
 go_ret;exact⟨rfl,H.out,HM.out⟩
theorem Hw {w:World}{l pd gen g:Nat}{lv:Value}{d:Dk}{text:ay}{Fd:Nat->Prop}(h:World.blk w l (gP pd gen text lv) 196)(hd:bB w pd d Fd)(hm:5<=d.size)(hg:g<=1099511627776):
  Calls prog 153 #[aq l,.int .i64 (g:Int)] w fun e w'=>e=.returned (.int .i64 ((1+g%2*bF d:Nat):Int))/\w'=w:=by
 have HH:=hd0 (zU h hd hm);have pC:d.size<=16384:=hd.ok.many;have hh:bF d<=16384:=by unfold bF;omega
 have hr:(g:Int).tmod 2=((g%2:Nat):Int):=by rw[Int.tmod_eq_emod_of_nonneg (by omega)];rfl
 obtain⟨r,hrr⟩:∃ r,g%2=r:=⟨_,rfl⟩
 have tT:r<2:=by omega
 have hgi:(g:Int)%2=(r:Int):=by omega
 rw[hrr]at hr ⊢;generalize bF d=q at*;have hrq:r*q<=16384:=by
  have:r=0\/r=1:=by omega
  rcases this with rfl|rfl<;>simp<;>omega
 have e0:((1+r*q:Nat):Int)=1+(r:Int)*(q:Int):=by simp
 have aoS:(r:Int)*(q:Int)<=16384:=by rw[<-Int.natCast_mul];omega
 have arp:(0:Int)<=(r:Int)*(q:Int):=by rw[<-Int.natCast_mul];omega
 have e1:IntKind.i64.wrap ((r:Int)*(q:Int))=(r:Int)*(q:Int):=fA (by omega);have e2:IntKind.i64.wrap (1+(r:Int)*(q:Int))=1+(r:Int)*(q:Int):=fA (by omega);have E0:=hd0 e0;clear e0 h hg hrr;go_enter func153,ntmps153;go_wp2_with fail;refine HH.out.mono ?_;rintro e w1 ⟨rfl,rfl⟩;go_wp2;go_ret;exact⟨by rw[E0.out];rfl,rfl⟩
end
section
open Go.RowKit Go.Shelf
attribute [local go_sem] auG
theorem zV (n:Nat)(hn:n<=64)(X:World):Calls prog 95 #[.string ⟨#[0]⟩,.int .i64 (n:Int)] X fun e w'=>e=.returned (aB (List.replicate n 0))/\af X w':=by
 refine(Tryz.strings_Repeat ⟨[(0:UInt8)].toArray⟩ n X (by omega) (by show 1*n<=_;omega)).mono ?_;rintro e w' ⟨rfl,hb⟩;refine⟨?_,ah.ofBelow hb⟩;have er:Lib.repeatL (ByteArray.mk [(0:UInt8)].toArray).data.toList n=List.replicate n 0:=JI n;rw[er]
theorem qU {w:World}{l pd gen:Nat}{lv:Value}{d:Dk}{text:ay}{Fd:Nat->Prop}(h:World.blk w l (gP pd gen text lv) 196)(hd:bB w pd d Fd)(hm:5<=d.size)(nd:¬ Fd l)(g2 u2:Nat)(hg:g2<=1099511627776)(hu:u2<=1099511627776):
  Calls prog 155 #[aq l,.int .i64 (g2:Int),.int .i64 (u2:Int)] w fun e w'=>e=.returned (.int .i64 0)/\∃ uG,World.blk w' l (gP pd gen text lv) 196/\bB w' pd (eE d g2 u2) uG/\ah (fun b=>b=l\/Fd b) w w'/\(∀ b,uG b->Fd b\/w.heap.size<=b):=by
 have H:=hd0 h;have HD:=hd0 hd;have ND:=hd0 nd;have HM:=hd0 hm;have P1:=hd0 (xc g2 6 hg (by omega));have P2:=hd0 (xc u2 4 hu (by omega));have ZR:Hid (∀ X,Calls prog 95 #[.string ⟨#[0]⟩,.int .i64 52] X fun e w'=>e=.returned (aB (List.replicate 52 0))/\af X w'):=hd0 (zV 52 (by omega));have vq:=il g2 6;have lw:=il u2 4;have Kh:(List.replicate 52 (0:UInt8)).length=52:=by simp
 have HS:Hid (78::86::(eJ g2 6++(eJ u2 4++List.replicate 52 0))=wY g2 u2):=hd0 (by simp[wY]);have ap0:IntKind.i64.wrap 52=52:=by decide
 have HHD:Hid (eE d g2 u2=(d.put 0 (wY g2 u2)).sync):=hd0 rfl;clear h hd nd hg hu hm;generalize eJ g2 6=a at*;generalize eJ u2 4=b at*;generalize List.replicate 52 (0:UInt8)=z at*;go_enter func155,ntmps155;go_wp2_with fail;refine(P1.out w).mono ?_;rintro e w1 ⟨rfl,hk1⟩;have bS:=hd0 hk1;clear hk1;go_wp2_with fail;refine(P2.out w1).mono ?_;rintro e w2 ⟨rfl,df⟩;have bw:=hd0 (bS.out.keep df);clear df;have c0:w2.cell? ⟨l,0,none⟩=some (aq pd):=(bw.out.cell (p:=⟨l,0,none⟩) (ak H.out) id).trans (aa H.out 0);have hl:l<w2.heap.size:=auW (ak H.out) bw.out.size;go_wp2_with fail;refine iz 1 11 (by kernel_rfl) (by kernel_rfl) (fun _ o _ _ _ h=>by cases o<;>exact h) ?_;simp only[avz,avA,avB,avC];refine fE (fun L hL=>?_)
 go_simp
 first|refine hL _ ?_|refine⟨_,fun _=>rfl,hL _ ?_⟩
 clear hL L;refine kH ?_
 repeat (quiet_step (with_reducible exact bA (ZR.out _)))
 refine avE ?_;intro _ cL;obtain⟨xq,rfl⟩:=cL;have nX:=bw.out.keep (aD w2 xq);have Fx:=hd0 (ab nX H.out id);have HD3:=HD.out.mod nX (fun _ _=>id);have dJ:=hd0 nX;have WR:=kO HD3 0 (by have:=HM.out;omega) (wY g2 u2) (LT _ _);rw[<-HS.out]at WR;have HWR:=hd0 WR;clear nX HD3 WR;go_wp2_with fail;refine HWR.out.mono ?_;rintro e w3 ⟨rfl,Ol,Jw,dm⟩;have AO:=ab dm.mod Fx.out ND.out;have n3:¬ Ol l:=fun hv=>(dm.foot l hv).elim ND.out (fun hge=>by have:=ak Fx.out;omega);have nT:Hid (ah (fun b=>b=l\/Fd b) w w3):=hd0 ((dJ.out.mono (fun _ _ h=>h.elim)).trans (dm.mod.mono (T:=fun b=>b=l\/Fd b) (fun _ _ h=>.inr h)) (fun _ _ h=>h));have FP:Hid (∀ b,Ol b->Fd b\/w.heap.size<=b):=hd0 (fun b hb=>(dm.foot b hb).imp id (fun h=>by have:=dJ.out.size;omega));have VV:=hd0 Jw;have SG:=hd0 AO;have N3:=hd0 n3;clear Jw dm AO n3 HWR Fx c0 hl;go_wp2_with fail;refine(pT SG.out).mono ?_;rintro e w4 ⟨rfl,T6,AH⟩;have Hd4:=hd0 (VV.out.mod AH (fun b hb e=>N3.out (e▸hb)));have ry:Hid (ah (fun b=>b=l\/Fd b) w w4):=hd0 (nT.out.trans (AH.mono (T:=fun b=>b=l\/Fd b) (fun _ _ h=>.inl h)) (fun _ _ h=>h));have c0:w4.cell? ⟨l,0,none⟩=some (aq pd):=aa T6 0;have Z5:=hd0 T6;have SY:=hd0 (pN Hd4.out);clear T6 AH VV SG nT;go_wp2_with fail;refine SY.out.mono ?_;rintro e w5 ⟨rfl,WQ,hd5,mt⟩;have N9:=ab mt.mod Z5.out N3.out;have n5:¬ WQ l:=fun hv=>(mt.foot l hv).elim N3.out (fun hge=>by have:=ak Z5.out;omega);have hs4:=ry.out.size;have Cs:Hid (ah (fun b=>b=l\/Fd b) w w5):=hd0 (ry.out.trans mt.mod (fun i hi h=>(FP.out i h).elim .inr (fun hge=>by omega)));have F8:Hid (∀ b,WQ b->Fd b\/w.heap.size<=b):=hd0 (fun b hb=>(mt.foot b hb).elim (FP.out b) (fun h=>.inr (by omega)));have Hd5:=hd0 hd5;have TP:=hd0 N9;have N5:=hd0 n5;clear hd5 mt N9 n5 SY c0 Hd4 Z5 ry;go_wp2_with fail;refine(pT TP.out).mono ?_;rintro e w6 ⟨rfl,NJ,rB⟩;have Hd6:=hd0 (Hd5.out.mod rB (fun b hb e=>N5.out (e▸hb)));have OD:Hid (ah (fun b=>b=l\/Fd b) w w6):=hd0 (Cs.out.trans (rB.mono (T:=fun b=>b=l\/Fd b) (fun _ _ h=>.inl h)) (fun _ _ h=>h));have Ho6:=hd0 NJ;clear NJ rB;go_wp2;go_ret;exact⟨rfl,WQ,Ho6.out,by rw[HHD.out,<-HS.out];exact Hd6.out,OD.out,F8.out⟩
theorem DN {w:World}{p:Nat}{d:Dk}{F:Nat->Prop}(h:bB w p d F)(hm:5<=d.size)(g:Nat)(hg:g<=1099511627776):
  Calls prog 100 #[aq p,.int .i64 (g:Int)] w fun e w'=>∃ l,e=.returned (.tuple #[aq l,.int .i64 0])/\w.heap.size<=l/\∃ F',ld w' l (eE d g 0) g [] F'/\ec F F' w w':=by
 have SE:=hd0 (jB h);have H:=hd0 h;have pC:d.size<=16384:=h.ok.many;have q1:¬(d.size:Int)<5:=by omega
 have q2:(0:Int)<=(g:Int):=by omega
 have q3:¬(1099511627776:Int)<(g:Int):=by omega
 have HM:=hd0 hm;have HG:=hd0 hg;have HN:=hd0 pC;obtain⟨W,hW⟩:∃ W,w.alloc (.cells (gP p g [] (.slice none 0 0)) 196)=W:=⟨_,rfl⟩
 have hW':w.alloc (.cells #[aq p,.int .i64 (g:Int),.string ⟨#[]⟩,.slice none 0 0,.bool false] 196)=W:=hW;have k0:af w W:=by rw[<-hW];exact(ah.refl _ w).alloc _
 have sT:W.heap.size=w.heap.size+1:=by rw[<-hW];simp
 have o0:World.blk W w.heap.size (gP p g [] (.slice none 0 0)) 196:=by rw[<-hW];exact aw w _ _
 have hnf:¬ F w.heap.size:=fun hv=>by have:=h.lt _ hv;omega
 have HE:=qU o0 (h.mod k0 (fun _ _=>id)) hm hnf g 0 hg (by omega);have HHE:Hid (Calls prog 155 #[aq w.heap.size,.int .i64 (g:Int),.int .i64 0] W fun e w'=>e=.returned (.int .i64 0)/\∃ uG,World.blk w' w.heap.size (gP p g [] (.slice none 0 0)) 196/\bB w' p (eE d g 0) uG/\ah (fun b=>b=w.heap.size\/F b) W w'/\(∀ b,uG b->F b\/W.heap.size<=b)):=hd0 HE;have HK:=hd0 k0;have NF:=hd0 hnf;clear HE hW k0 o0 h hm hg pC hnf;generalize hq:d.size=q at*;have HQ:=hd0 hq;clear hq;go_enter func100,ntmps100;go_wp2_with fail;refine SE.out.mono ?_;rintro e w1 ⟨rfl,rfl⟩;go_wp2_with fail;refine HHE.out.mono ?_;rintro e w2 ⟨rfl,Fd,ho,hd,gX,hf⟩;have Ho:=hd0 ho;have Hd:=hd0 hd;have Hm:=hd0 gX;have Hf:=hd0 hf;clear ho hd gX hf HHE;go_wp2;go_ret2;have jv:=Hm.out.size;have yk:¬ Fd w1.heap.size:=fun hv=>(Hf.out _ hv).elim NF.out (fun hge=>by omega);have cJ:(eE d g 0).size=q:=by unfold eE;rw[dG,fF];exact HQ.out
 refine⟨w1.heap.size,rfl,auP _,fun b=>Fd b\/b=w1.heap.size,⟨p,.slice none 0 0,Fd,?_⟩,?_⟩
 ·exact { own:=Ho.out,disk:=Hd.out,list:=⟨rfl,.inl ⟨rfl,rfl⟩⟩,fl:=.inr rfl,fd:=fun b hb=>.inl hb,fv:=fun b e=>by cases e
          nd:=yk,many:=by rw[cJ];exact⟨HM.out,HN.out⟩,gen:=HG.out,eqT:=rfl,room:=by simp[lB],lt:=fun b hb=>hb.elim (fun h=>Hd.out.lt b h) (fun h=>by omega) }
 ·refine⟨⟨Hm.out.os.trans HK.out.os,Hm.out.tape.trans HK.out.tape,Hm.out.output.trans HK.out.output,by omega,fun b hb hn=>?_⟩,fun b hb=>hb.elim (fun h=>(Hf.out b h).imp id (fun h=>by omega)) (fun h=>.inr (by omega))⟩;rw[Hm.out.block b (by omega) (fun e=>e.elim (fun e=>by omega) hn)];exact HK.out.block b hb id
end
section
open Go.RowKit Go.Shelf
attribute [local go_sem] auG
theorem zW {w:World}{l gen:Nat}{d:Dk}{recs:List ay}{F:Nat->Prop}(h:ld w l d gen recs F):
  Calls prog 63 #[aq l] w fun e w'=>e=.returned (.int .i64 ((bF d*64-(lB recs).length:Nat):Int))/\af w w':=by
 obtain⟨pd,lv,Fd,h⟩:=h;have hh:bF d<=16384:=by have:=h.many;unfold bF;omega
 have hr:=h.room;have c2:∀ x,(w.ext x).cell? ⟨l,2,none⟩=some (aB (lB recs)):=fun x=>((aD w x).cell (p:=⟨l,2,none⟩) (ak h.own) id).trans (aa h.own 2);have HH:Hid (∀ x,Calls prog 123 #[aq l] (w.ext x) fun e w'=>e=.returned (.int .i64 (bF d:Int))/\af (w.ext x) w'):=hd0 (fun x=>(zU (ab (aD w x) h.own id) (h.disk.mod (aD w x) (fun _ _=>id)) h.many.1).mono (by rintro e w' ⟨rfl,rfl⟩;exact⟨rfl,ah.refl _ _⟩));have hl:l<w.heap.size:=ak h.own;clear h;generalize lB recs=t at*;generalize bF d=q at*;have e0:((q*64-t.length:Nat):Int)=(q:Int)*64-(t.length:Int):=by omega
 have e1:IntKind.i64.wrap ((q:Int)*64)=(q:Int)*64:=fA (by omega);have e2:IntKind.i64.wrap ((q:Int)*64-(t.length:Int))=(q:Int)*64-(t.length:Int):=fA (by omega);rw[e0];clear e0;go_enter func63,ntmps63;go_wp2_with fail;refine cO (by kernel_rfl) (by kernel_rfl) ?_
 repeat (quiet_step (with_reducible exact bA (HH.out _)))
 refine avE ?_;intro _ cL;obtain⟨xq,rfl⟩:=cL;go_wp2;go_ret;exact⟨rfl,aD w xq⟩
theorem H5 {w:World}{l gen:Nat}{d:Dk}{recs:List ay}{F:Nat->Prop}(h:ld w l d gen recs F)(g2:Nat)(h1:gen<g2)(h2:g2<=1099511627776):
  Calls prog 143 #[aq l,.int .i64 (g2:Int)] w fun e w'=>e=.returned (.int .i64 0)/\∃ F',ld w' l (eE d g2 0) g2 [] F'/\ec F F' w w':=by
 obtain⟨pd,lv,Fd,h⟩:=h;have H:=hd0 h;have c1:w.cell? ⟨l,1,none⟩=some (.int .i64 (gen:Int)):=aa h.own 1;have c4:w.cell? ⟨l,4,none⟩=some (.bool false):=aa h.own 4;have q1:¬(g2:Int)<=(gen:Int):=by omega
 have q2:¬(1099511627776:Int)<(g2:Int):=by omega
 have HE:=qU h.own h.disk h.many.1 h.nd g2 0 h2 (by omega);have HHE:Hid (Calls prog 155 #[aq l,.int .i64 (g2:Int),.int .i64 0] w fun e w'=>e=.returned (.int .i64 0)/\∃ uG,World.blk w' l (gP pd gen (lB recs) lv) 196/\bB w' pd (eE d g2 0) uG/\ah (fun b=>b=l\/Fd b) w w'/\(∀ b,uG b->Fd b\/w.heap.size<=b)):=hd0 HE;have HG:=hd0 h2;clear HE h h1 h2;go_enter func143,ntmps143;go_wp2_with fail;refine HHE.out.mono ?_;rintro e w2 ⟨rfl,OG,ho,hd,gX,hf⟩;have c1:w2.cell? ⟨l,1,none⟩=some (.int .i64 (gen:Int)):=aa ho 1;have c2:w2.cell? ⟨l,2,none⟩=some (aB (lB recs)):=aa ho 2;have c3:w2.cell? ⟨l,3,none⟩=some lv:=aa ho 3;have f1:=ae ho ⟨l,1,none⟩ rfl;have f2:=ae ho ⟨l,2,none⟩ rfl;have f3:=ae ho ⟨l,3,none⟩ rfl;have Ho:=hd0 ho;have Hd:=hd0 hd;have Hm:=hd0 gX;have Hf:=hd0 hf;clear ho hd gX hf HHE;go_wp2;go_ret;have m7:ah (fun b=>b=l) w2 (((w2.setCell ⟨l,1,none⟩ (.int .i64 (g2:Int))).setCell ⟨l,2,none⟩ (.string ⟨#[]⟩)).setCell ⟨l,3,none⟩ (.slice none 0 0)):=(((ah.refl (fun b=>b=l) w2).setCell (p:=⟨l,1,none⟩) (.inl rfl) _).setCell (p:=⟨l,2,none⟩) (.inl rfl) _).setCell (p:=⟨l,3,none⟩) (.inl rfl) _;have o7:World.blk (((w2.setCell ⟨l,1,none⟩ (.int .i64 (g2:Int))).setCell ⟨l,2,none⟩ (.string ⟨#[]⟩)).setCell ⟨l,3,none⟩ (.slice none 0 0)) l (gP pd g2 [] (.slice none 0 0)) 196:=ag (ag (ag Ho.out 1 _) 2 _) 3 _;generalize ((w2.setCell ⟨l,1,none⟩ (.int .i64 (g2:Int))).setCell ⟨l,2,none⟩ (.string ⟨#[]⟩)).setCell ⟨l,3,none⟩ (.slice none 0 0)=w6 at*;have sT:=Hm.out.size;have jv:=m7.size;have n2:¬ OG l:=fun hv=>(Hf.out l hv).elim H.out.nd (fun hge=>by have:=H.out.lt l H.out.fl;omega);have cJ:(eE d g2 0).size=d.size:=by unfold eE;rw[dG,fF]
 refine⟨rfl,fun b=>F b\/OG b,⟨pd,.slice none 0 0,OG,?_⟩,?_⟩
 ·exact { own:=o7,disk:=Hd.out.mod m7 (fun b hb e=>n2 (e▸hb)),list:=⟨rfl,.inl ⟨rfl,rfl⟩⟩,fl:=.inl H.out.fl,fd:=fun b hb=>.inr hb,fv:=fun b e=>by cases e
          nd:=n2,many:=by rw[cJ];exact H.out.many,gen:=HG.out,eqT:=rfl,room:=by simp[lB],lt:=fun b hb=>hb.elim (fun h=>by have:=H.out.lt b h;omega) (fun h=>by have:=Hd.out.lt b h;omega) }
 ·exact⟨(Hm.out.mono (T:=F) (fun i _ h=>h.elim (fun e=>by subst e;exact H.out.fl) (H.out.fd i))).trans (m7.mono (T:=F) (fun i _ e=>by subst e;exact H.out.fl)) (fun _ _ h=>h),fun b hb=>hb.elim .inl (fun h=>(Hf.out b h).imp (H.out.fd b) id)⟩
end
end Go.Proofs.YtkghpdcloaiflaaGreatDoor
