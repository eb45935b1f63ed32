import Derived.Test.YtkghpdcloaiflaaGreatDoorE16
set_option maxHeartbeats 2000000
set_option maxRecDepth 100000
namespace Go.Proofs.YtkghpdcloaiflaaGreatDoor
open _root_.Go.Proofs.Tryz
section
open Go.RowKit Go.Shelf
attribute [local go_sem] auv
theorem GY (l:List az)(s:az)(h:∀ x∈l,x.length<=1000000)(hs:s.length<=1000000):(l.foldl eH s).length<=1000000:=by
 induction l generalizing s with
 |nil=>exact hs
 |cons x r ih=>
  refine ih (eH s x) (fun y hy=>h y (by simp[hy])) ?_;have:=lS s x;have:=h x (by simp);omega
theorem dy.mem {w:World}{m n:Nat}{L:List az}(h:dy w m n L):∀ x∈L,x.length<=1000000:=fun x hx=>by
 obtain⟨i,hi,rfl⟩:=List.getElem_of_mem hx;have:=h.short i;rw[List.getD,auB hi]at this;exact this
theorem P9 (a0 a1 a2 a3 a4 a5 a6 a7:Value)(W:World)(k:Nat)(hk:k<8):(Instr.index 143 (.agg #[a0,a1,a2,a3,a4,a5,a6,a7]) (.int .i64 (k:Int))).run prog W=.ok ([a0,a1,a2,a3,a4,a5,a6,a7].getD k a0) W:=by
 have CC:k=0\/k=1\/k=2\/k=3\/k=4\/k=5\/k=6\/k=7:=by omega
 rcases CC with rfl|rfl|rfl|rfl|rfl|rfl|rfl|rfl<;>rfl
theorem zQ {w:World}{m n:Nat}{L:List az}(h:dy w m n L):
  Calls prog 127 #[aq m] w fun e w'=>e=.returned (aC (cV L))/\af w w':=by
 have H:=hd0 h;have c0:w.cell? ⟨m,0,none⟩=some (.int .i64 (n:Int)):=aa h.own 0;have c1:=h.cell 0 (by omega);have c2:=h.cell 1 (by omega);have c3:=h.cell 2 (by omega);have c4:=h.cell 3 (by omega);have c5:=h.cell 4 (by omega);have c6:=h.cell 5 (by omega);have c7:=h.cell 6 (by omega);have c8:=h.cell 7 (by omega);simp only[Nat.reduceAdd]at c1 c2 c3 c4 c5 c6 c7 c8;clear h;go_enter func127,ntmps127;go_wp2_with fail;clear c0 c1 c2 c3 c4 c5 c6 c7 c8
 go_loopw [10,3] (fun i v wr=>∃ k:Nat,k<=8/\i=.int .i64 (k:Int)/\v=aC ((L.take k).foldl eH [])/\af w wr) (fun i _ _=>8-(intOf i).toNat)
 case atStart=>exact⟨0,by omega,rfl,rfl,ah.refl _ w⟩
 case round=>
  obtain⟨k,hk,rfl,rfl,hK⟩:=hrel;have HK:=hd0 hK;clear hK;by_cases aL:k<8
  ·have OR:=lT ((L.take k).foldl eH []) (L.getD k []) wr (aux (GY _ _ (fun x hx=>H.out.mem x (auG hx)) (by simp)) (by decide)) (aux (H.out.short k) (by decide));have he:(L.take (k+1)).foldl eH []=eH ((L.take k).foldl eH []) (L.getD k []):=by
    have h8:=H.out.eight;rw[auD,List.foldl_append,List.getD,auB (show k<L.length by omega)];rfl
   have HO:=hd0 OR;have HE:=hd0 he;clear OR he;have dN:(k:Int)<8:=by omega
   have hx:=fun W=>P9 (aC (L[0]?.getD [])) (aC (L[1]?.getD [])) (aC (L[2]?.getD [])) (aC (L[3]?.getD [])) (aC (L[4]?.getD [])) (aC (L[5]?.getD [])) (aC (L[6]?.getD [])) (aC (L[7]?.getD [])) W k aL;have hg:[aC (L[0]?.getD []),aC (L[1]?.getD []),aC (L[2]?.getD []),aC (L[3]?.getD []),aC (L[4]?.getD []),aC (L[5]?.getD []),aC (L[6]?.getD []),aC (L[7]?.getD [])].getD k (aC (L[0]?.getD []))=aC (L.getD k []):=by
    have CC:k=0\/k=1\/k=2\/k=3\/k=4\/k=5\/k=6\/k=7:=by omega
    rcases CC with rfl|rfl|rfl|rfl|rfl|rfl|rfl|rfl<;>rfl
   rw[hg]at hx;clear hg;go_wp2_with fail;refine HO.out.mono ?_;rintro e w1 ⟨rfl,hk1⟩;have bU:=hd0 (HK.out.trans hk1 (fun _ _ h=>h));clear hk1 hx;go_wp2_with fail
   go_roundw
   case rel=>exact⟨k+1,by omega,by go_num,by rw[HE.out];rfl,bU.out⟩
   case measure=>simp[intOf];omega
  ·obtain rfl:k=8:=by omega
   have h8:=H.out.eight;rw[avl (by omega)];go_wp2;go_ret;exact⟨rfl,HK.out⟩
theorem LR {w:World}{m n:Nat}{L:List az}(h:dy w m n L)(h1:1<=n)(hc:(cV L).length<=100000):
  Calls prog 221 #[aq m] w fun e w'=>e=.returned (.int .i64 ((n:Int)-1-(jK (cV L):Int)))/\af w w':=by
 have H:=hd0 h;have c0:w.cell? ⟨m,0,none⟩=some (.int .i64 (n:Int)):=aa h.own 0;have HM:=h.many;have HU:Hid (∀ x,Calls prog 127 #[aq m] (w.ext x) fun e w'=>e=.returned (aC (cV L))/\af (w.ext x) w'):=hd0 (fun x=>zQ (h.mod (ay w x) id));have HC:Hid (∀ X,Calls prog 47 #[aC (cV L)] X fun e w'=>e=.returned (.int .i64 (jK (cV L):Int))/\af X w'):=hd0 (fun X=>zM _ hc X);have sH:jK (cV L)<=800000:=by
  have:=rY (cV L);unfold jK;omega
 have ce:∀ x,(w.ext x).cell? ⟨m,0,none⟩=some (.int .i64 (n:Int)):=fun x=>by rw[(ay w x).cell (p:=⟨m,0,none⟩) (ak c0) id];exact c0
 clear h hc;generalize jK (cV L)=q at*;generalize cV L=U at*;have e1:IntKind.i64.wrap ((n:Int)-1)=(n:Int)-1:=fA (by omega);have e2:IntKind.i64.wrap ((n:Int)-1-(q:Int))=(n:Int)-1-(q:Int):=fA (by omega);go_enter func221,ntmps221;go_wp2_with fail;refine bA (by kernel_rfl) (by kernel_rfl) ?_
 repeat (quiet_step (first|(with_reducible exact aZ (HU.out _))|(with_reducible exact aZ (HC.out _))))
 refine avt ?_;intro _ cf;obtain⟨xq,rfl⟩:=cf;go_wp2;go_ret;exact⟨rfl,ay w xq⟩
theorem LT {w:World}{m n:Nat}{L:List az}(h:dy w m n L)(a b:Nat)(ha:a<8)(hb:b<8):
  Calls prog 54 #[aq m,.int .i64 (a:Int),.int .i64 (b:Int)] w fun e w'=>e=.returned (.tuple #[aC (bQ (L.getD b []) (L.getD a [])),aC (bQ (L.getD a []) (L.getD b [])),.int .i64 0])/\af w w':=by
 obtain⟨W,hW⟩:∃ W,w.alloc (.cells #[.int .i64 (a:Int),.int .i64 (b:Int)] 3)=W:=⟨_,rfl⟩
 have k0:af w W:=by rw[<-hW];exact(ah.refl _ w).alloc _
 have IS:=hd0 (Bg W w.heap.size [a,b] (by simp) (by simp;omega) (by rw[<-hW];exact aw w _ _));have HH:=h.mod k0 id;have ca:∀ x,(W.ext x).cell? ⟨m,1+a,none⟩=some (aC (L.getD a [])):=fun x=>(HH.mod (ay W x) id).cell a ha;have cb:∀ x,(W.ext x).cell? ⟨m,1+b,none⟩=some (aC (L.getD b [])):=fun x=>(HH.mod (ay W x) id).cell b hb;have HK:=hd0 k0;have M1:=hd0 (fun X=>nD (L.getD b []) (L.getD a []) X (aux (h.short b) (by decide)) (aux (h.short a) (by decide)));have M2:=hd0 (fun X=>nD (L.getD a []) (L.getD b []) X (aux (h.short a) (by decide)) (aux (h.short b) (by decide)));have h1:(a:Int)<8:=by omega
 have h2:(b:Int)<8:=by omega
 clear h k0 HH ha hb;generalize L.getD a []=A at*;generalize L.getD b []=B at*;go_enter func54,ntmps54;go_wp2_with fail;refine IS.out.mono ?_;rintro e w1 ⟨rfl,rfl⟩;go_wp2_with fail;refine bA (by kernel_rfl) (by kernel_rfl) ?_
 repeat (quiet_step (fail))
 refine avt ?_;intro _ cf;obtain⟨xq,rfl⟩:=cf;have bU:=hd0 (HK.out.keep (ay w1 xq));go_wp2_with fail;refine(M1.out _).mono ?_;rintro e w2 ⟨rfl,de⟩;have bu:=hd0 (bU.out.keep de);clear de;go_wp2_with fail;refine(M2.out _).mono ?_;rintro e w3 ⟨rfl,dw⟩;have dZ:=hd0 (bu.out.keep dw);clear dw;go_wp2;go_ret3;exact⟨rfl,dZ.out⟩
end
section
open Go.RowKit Go.Shelf
attribute [local go_sem] auv
def xf (p:Nat)(o:az)(b:Nat):az:=o.set b (o.getD b 0|||UInt8.ofNat (2 ^ p))
def ld (p:Nat)(l:List Nat)(o:az):az:=l.foldl (xf p) o
def j3 (L:List az)(n:Nat):Nat->az
 |0=>List.replicate n 0
 |p+1=>ld p (cy (L.getD p [])) (j3 L n p)
theorem tA (p:Nat):∀(l:List Nat) (o:az),(ld p l o).length=o.length
 |[],_=>rfl
 |x::r,o=>by show(ld p r (xf p o x)).length=_;rw[tA p r];simp[xf]
theorem ky (L:List az)(n:Nat):∀ p,(j3 L n p).length=n
 |0=>by simp[j3]
 |p+1=>by rw[j3,tA,ky L n p]
theorem zR (p:Nat):∀(l:List Nat) (o:az) (b:Nat),b<o.length->l.Nodup->(ld p l o).getD b 0=if b∈l then o.getD b 0|||UInt8.ofNat (2 ^ p)else o.getD b 0
 |[],o,b,_,_=>by simp[ld]
 |x::r,o,b,hb,hn=>by
  show(ld p r (xf p o x)).getD b 0=_;rw[List.nodup_cons]at hn;rw[zR p r _ b (by simp[xf];exact hb) hn.2];by_cases hx:b=x
  ·subst hx;rw[auK hn.1,auI (by simp)];simp[xf,List.getD,hb]
  ·have e:(xf p o x).getD b 0=o.getD b 0:=by
    unfold xf;rw[List.getD,List.getElem?_set,auK (fun e=>hx e.symm)];rfl
   rw[e];by_cases hr:b∈r
   ·rw[auI hr,auI (by simp[hr])]
   ·rw[auK hr,auK (by simp[hx,hr])]
theorem UG (p k:Nat)(hp:p<8)(hk:k<8):(UInt8.ofNat (2 ^ p)).toNat.testBit k=decide (k=p):=by
 have key:∀ p k:Fin 8,(UInt8.ofNat (2 ^ p.1)).toNat.testBit k.1=decide (k.1=p.1):=by decide +kernel
 exact key ⟨p,hp⟩ ⟨k,hk⟩
theorem zS (L:List az)(n b k:Nat)(hb:b<n)(hk:k<8):∀ p,p<=8->((j3 L n p).getD b 0).toNat.testBit k=(decide (k<p)&&am (L.getD k []) b)
 |0,_=>by simp[j3,List.getD,hb]
 |p+1,hp=>by
  have ih:=zS L n b k hb hk p (by omega);rw[j3,zR p _ _ b (by rw[ky];exact hb) (vJ _)];by_cases hm:b∈cy (L.getD p [])
  ·rw[auI hm,UInt8.toNat_or,Nat.testBit_or,ih,UG p k (by omega) hk];rw[mw]at hm;by_cases TB:k=p
   ·subst TB;have Wq:am (L[k]?.getD []) b=true:=hm;simp[Wq]
   ·have:(k<p+1)=(k<p):=by simp;omega
    simp only[TB,decide_false,Bool.or_false,this]
  ·rw[auK hm,ih];rw[mw]at hm;by_cases TB:k=p
   ·subst TB;simp at hm ⊢;exact hm
   ·have:(k<p+1)=(k<p):=by simp;omega
    simp only[this]
theorem GZ (L:List az)(n:Nat):j3 L n 8=ig L n:=by
 apply List.ext_getElem?;intro b;by_cases hb:b<n
 ·have h1:b<(j3 L n 8).length:=by rw[ky];exact hb
  have h2:b<(ig L n).length:=by simp[ig];exact hb
  rw[auB h1,auB h2]
  congr 1
  apply vI;intro k hk;have:=zS L n b k hb hk 8 (by omega);rw[List.getD,auB h1]at this;rw[show(j3 L n 8)[b].toNat.testBit k=(decide (k<8)&&am (L.getD k []) b)from this];have e:(ig L n)[b]=UInt8.ofNat ((List.range 8).foldl (fun a p=>if am (L.getD p []) b then a+2 ^ p else a) 0):=by simp[ig]
  rw[e,zt (fun p=>am (L.getD p []) b) k hk];simp[hk]
 ·rw[avu (by rw[ky];omega),avu (by simp[ig];omega)]
theorem G0 (p:Nat)(l:List Nat)(o:az)(j:Nat)(hj:j<l.length):ld p (l.take (j+1)) o=xf p (ld p (l.take j) o) l[j]:=by
 unfold ld;rw[auD,List.foldl_append,auB hj];rfl
theorem YO (c:UInt8)(k:Nat)(hk:k<8):bits BinOp.or IntKind.u8 (c.toNat:Int) (2 ^ k%256)=((c|||UInt8.ofNat (2 ^ k)).toNat:Int):=by
 have key:∀(n:Fin 256) (k:Fin 8),bits BinOp.or IntKind.u8 (n.1:Int) (2 ^ k.1%256)=((UInt8.ofNat n.1|||UInt8.ofNat (2 ^ k.1)).toNat:Int):=by decide +kernel
 have:=key ⟨c.toNat,c.toNat_lt⟩ ⟨k,hk⟩;simpa using this
theorem LU {w:World}{m n:Nat}{L:List az}(h:dy w m n L)(hL:∀ p b,am (L.getD p []) b=true->b<n)(hs:∀ p,(L.getD p []).length<=100000):
  Calls prog 218 #[aq m] w fun e w'=>e=.returned (aC (ig L n))/\af w w':=by
 have H:=hd0 h;have HL:=hd0 hL;have HS:=hd0 hs;have pE:=h.many;have c0:w.cell? ⟨m,0,none⟩=some (.int .i64 (n:Int)):=aa h.own 0;have oz:=jv (P:=prog) (ts:=131) (te:=5) underlying131 (by kernel_rfl) n (by omega);have k1:af w (w.alloc (.cells (aQ (List.replicate n 0)) 5)):=(ah.refl _ w).alloc _;have h1:=h.mod k1 id;have c1:=h1.cell 0 (by omega);have c2:=h1.cell 1 (by omega);have c3:=h1.cell 2 (by omega);have c4:=h1.cell 3 (by omega);have c5:=h1.cell 4 (by omega);have c6:=h1.cell 5 (by omega);have c7:=h1.cell 6 (by omega);have c8:=h1.cell 7 (by omega);simp only[Nat.reduceAdd]at c1 c2 c3 c4 c5 c6 c7 c8;clear h k1 h1 hL hs;go_enter func218,ntmps218;go_wp2_with fail;clear c0 c1 c2 c3 c4 c5 c6 c7 c8 oz;have HO:Hid (World.blk (w.alloc (.cells (aQ (List.replicate n 0)) 5)) w.heap.size (aQ (j3 L n 0)) 5):=hd0 (aw _ _ _);have HK:Hid (af w (w.alloc (.cells (aQ (List.replicate n 0)) 5))):=hd0 ((ah.refl _ w).alloc _);generalize (w.alloc (.cells (aQ (List.replicate n 0)) 5))=w0 at*;obtain⟨ob,ip⟩:∃ ob,w.heap.size=ob:=⟨_,rfl⟩
 have yz:=hd0 ip;rw[ip]at HO;rw[ip];clear ip
 go_loopw [17] (fun i wr=>∃ k:Nat,k<=8/\i=.int .i64 (k:Int)/\af w wr/\World.blk wr ob (aQ (j3 L n k)) 5) (fun i _=>8-(intOf i).toNat)
 case atStart=>exact⟨0,by omega,rfl,HK.out,HO.out⟩
 case round=>
  clear HO HK;obtain⟨wq0,rfl⟩:∃ wq0,wq0=wr:=⟨_,rfl⟩
  obtain⟨k,hk,rfl,hK,hO⟩:=hrel;have HK:=hd0 hK;have HO:=hd0 hO;clear hK hO;by_cases aL:k<8
  ·have dN:(k:Int)<8:=by omega
   have hx:=fun W=>P9 (aC (L[0]?.getD [])) (aC (L[1]?.getD [])) (aC (L[2]?.getD [])) (aC (L[3]?.getD [])) (aC (L[4]?.getD [])) (aC (L[5]?.getD [])) (aC (L[6]?.getD [])) (aC (L[7]?.getD [])) W k aL;have hg:[aC (L[0]?.getD []),aC (L[1]?.getD []),aC (L[2]?.getD []),aC (L[3]?.getD []),aC (L[4]?.getD []),aC (L[5]?.getD []),aC (L[6]?.getD []),aC (L[7]?.getD [])].getD k (aC (L[0]?.getD []))=aC (L.getD k []):=by
    have CC:k=0\/k=1\/k=2\/k=3\/k=4\/k=5\/k=6\/k=7:=by omega
    rcases CC with rfl|rfl|rfl|rfl|rfl|rfl|rfl|rfl<;>rfl
   rw[hg]at hx;clear hg;have LI:=zL (L.getD k []) (HS.out k) wq0;have eG:Hid (∀ x∈cy (L.getD k []),x<n):=hd0 (fun x hx=>HL.out k x (mw.1 hx));have tX:Hid ((cy (L.getD k [])).length<=800000):=hd0 (by have:=rY (L.getD k []);have:=HS.out k;omega);have pH:Hid (j3 L n (k+1)=ld k (cy (L.getD k [])) (j3 L n k)):=hd0 rfl;have aV:Hid ((j3 L n k).length=n):=hd0 (ky L n k);have HLI:=hd0 LI;clear LI;generalize j3 L n k=o at*;generalize hl:cy (L.getD k [])=l at*;clear hl;have Cs:L.getD k []=L[k]?.getD []:=rfl;rw[Cs]at HLI hx;clear Cs;generalize L[k]?.getD []=S at*;go_wp2_with fail;refine HLI.out.mono ?_;rintro e wl ⟨v,rfl,ho,hr,CB⟩;obtain⟨a,cap,rfl,hr⟩:=hr;rw[au4]at ho ⊢;have HB:Hid (ob<wq0.heap.size/\w.heap.size<=ob):=hd0 ⟨ai HO.out,by rw[yz.out];exact auE _⟩;have HO1:=hd0 (ab CB HO.out id);have bU:=hd0 (HK.out.keep CB);have sY:=hd0 ho;have E9:(l.length:Int)<=800000:=by have:=tX.out;omega
   clear CB ho hr hx HO HK HLI;go_wp2_with fail
   go_loopw [24] (fun i wq=>∃ j:Nat,j<=l.length/\i=.int .i64 (j:Int)/\af w wq/\World.blk wq ob (aQ (ld k (l.take j) o)) 5/\aN wq wq0.heap.size (.slice a l.length cap) (gy l)) (fun i _=>l.length-(intOf i).toNat)
   case atStart=>exact⟨0,by omega,rfl,bU.out,HO1.out,sY.out⟩
   case round=>
    clear HO1 bU sY;obtain⟨j,hj,rfl,hK2,hO2,RI⟩:=hrel;have bu:=hd0 hK2;have zi:=hd0 hO2;have rE:=hd0 RI;obtain⟨a',WE,ea,eM⟩:=bd RI;by_cases CD:j<l.length
    ·have akE:(j:Int)<l.length:=by omega
     obtain⟨b,off,rfl,cj⟩:=eM j (.int .i64 (l[j]:Int)) (by simp[bo,gy,CD]);have ea':a=some ⟨b,off,none⟩:=by injection ea
     subst ea';have aeu:Hid (ld k (l.take (j+1)) o=xf k (ld k (l.take j) o) l[j]):=hd0 (G0 k l o j CD);have Yk:=eG.out l[j] (ava _);have hlc:(ld k (l.take j) o).length=n:=by rw[tA];exact aV.out
     clear hK2 hO2 RI ea eM;generalize hx:l[j]=x at*;clear hx;generalize ld k (l.take j) o=dz at*;have hc:∀ X,(wr.ext X).cell? ⟨ob,x,none⟩=some (.int .u8 ((dz.getD x 0).toNat:Int)):=fun X=>by
      rw[(ay wr X).cell (p:=⟨ob,x,none⟩) (ai zi.out) id,aa zi.out x];simp[aQ,gz,auB (show x<dz.length by omega),List.getD]
     have hf:∀ X,(wr.ext X).frozen? ⟨ob,x,none⟩=false:=fun X=>ae (ab (ay wr X) zi.out id) _ rfl;have hxi:(x:Int)<(n:Int):=by omega
     generalize yt:dz.getD x 0=c at*;have Hcv:=hd0 yt;clear yt;go_wp2_with fail;refine rP 8 (by kernel_rfl) (by kernel_rfl) ?_;simp only[avn,avo,avq,avr]
     repeat (quiet_step (fail))
     refine avt ?_;intro _ cf;obtain⟨xq,rfl⟩:=cf;have f1:=hf xq;have c1:=hc xq;go_wp2_with fail;have nY:=ay wr xq;refine⟨⟨j+1,by omega,by go_num,(bu.out.keep nY).setCell (p:=⟨ob,x,none⟩) (.inr HB.out.2) _,?_,?_⟩,by simp[intOf];omega⟩
     ·have h:=ag (ab nY zi.out id) x (.int .u8 (((c|||UInt8.ofNat (2 ^ k)).toNat:Nat):Int));rw[Gi]at h;rw[aeu.out];unfold xf;rw[Hcv.out,YO c k aL];exact h
     ·exact JG (iA rE.out nY) ((ah.refl (fun b=>b=ob) _).setCell (p:=⟨ob,x,none⟩) (.inl rfl) _) (fun b hb e=>by have:=HB.out.1;omega)
    ·obtain rfl:j=l.length:=by omega
     have ht:l.take l.length=l:=auF;rw[ht]at zi;have Fr:¬((l.length:Int)<(l.length:Int)):=by omega
     clear hK2 hO2 RI ea eM;go_wp2_with fail;refine⟨⟨k+1,by omega,by go_num,bu.out,by rw[pH.out];exact zi.out⟩,by simp[intOf];omega⟩
  ·obtain rfl:k=8:=by omega
   have dg:=ua (P:=prog) (ts:=131) (td:=9) underlying131 underlying5 underlying9 n HO.out (ky L n 8);rw[GZ]at dg;go_wp2;go_ret;exact⟨rfl,HK.out⟩
end
section
open Go.RowKit Go.Shelf
attribute [local go_sem] auv
def xg (gen used:Nat):az:=[78,86]++eK gen 6++eK used 4++List.replicate 52 0
def eA (d:Dk)(gen used:Nat):Dk:=(d.put 0 (xg gen used)).sync
theorem LW (gen used:Nat):(xg gen used).length=64:=by simp[xg,ij]
theorem xh (x n:Nat)(hx:x<=1099511627776)(hn:n<=6)(w:World):
  Calls prog 150 #[.int .i64 (x:Int),.int .i64 (n:Int)] w fun e w'=>e=.returned (aC (eK x n))/\af w w':=by
 have oz:=jv (P:=prog) (ts:=131) (te:=5) underlying131 (by kernel_rfl) n (by omega);have HX:=hd0 hx;clear hx;go_enter func150,ntmps150;go_wp2_with fail;clear oz;have HO:Hid (World.blk (w.alloc (.cells (aQ (List.replicate n 0)) 5)) w.heap.size (aQ (eK x 0++List.replicate (n-0) 0)) 5):=hd0 (aw _ _ _);have HK:Hid (af w (w.alloc (.cells (aQ (List.replicate n 0)) 5))):=hd0 ((ah.refl _ w).alloc _);generalize (w.alloc (.cells (aQ (List.replicate n 0)) 5))=w0 at*;obtain⟨ob,ip⟩:∃ ob,w.heap.size=ob:=⟨_,rfl⟩
 have yz:=hd0 ip;rw[ip]at HO;rw[ip];clear ip
 go_loopw [11] (fun i wr=>∃ k:Nat,k<=n/\i=.int .i64 (k:Int)/\af w wr/\World.blk wr ob (aQ (eK x k++List.replicate (n-k) 0)) 5) (fun i _=>n-(intOf i).toNat)
 case atStart=>exact⟨0,by omega,rfl,HK.out,HO.out⟩
 case round=>
  clear HO HK;obtain⟨k,hk,rfl,hK,hO⟩:=hrel;have HK:=hd0 hK;have HO:=hd0 hO;clear hK hO;by_cases aL:k<n
  ·have dN:(k:Int)<n:=by omega
   have c0:wr.cell? ⟨ob,k,none⟩=some (.int .u8 0):=by
    rw[aa HO.out];have hl:=ij x k;simp[aQ,gz,hl,show 0<n-k by omega]
   have f0:wr.frozen? ⟨ob,k,none⟩=false:=ae HO.out _ rfl;have Wg:(8*(k:Int))<=40:=by omega
   have eb:((UInt8.ofNat (x/256 ^ k%256)).toNat:Int)=(x:Int)/2 ^ (8*k)%256:=by
    rw[show(UInt8.ofNat (x/256 ^ k%256)).toNat=x/256 ^ k%256 by simp,show(256:Nat) ^ k=2 ^ (8*k) by rw[Nat.pow_mul]];simp
   have EB:=hd0 eb;clear eb;go_wp2_with fail;refine⟨⟨k+1,by omega,by go_num,HK.out.setCell (p:=⟨ob,k,none⟩) (.inr (by rw[yz.out];exact auE _)) _,?_⟩,by simp[intOf];omega⟩;have h:=ag HO.out k (.int .u8 ((UInt8.ofNat (x/256 ^ k%256)).toNat:Int));rw[acm,EB.out]at h;have e:(eK x k++List.replicate (n-k) 0).set k (UInt8.ofNat (x/256 ^ k%256))=eK x (k+1)++List.replicate (n-(k+1)) 0:=by
    rw[wX,List.set_append,auK (by rw[ij];omega),ij,Nat.sub_self,show n-k=(n-(k+1))+1 by omega,List.replicate_succ,List.set_cons_zero,avi];rfl
   rw[e]at h;exact h
  ·obtain rfl:k=n:=by omega
   have dg:=ua (P:=prog) (ts:=131) (td:=9) underlying131 underlying5 underlying9 (len:=k) k HO.out (by simp[ij]);have e0:eK x k++List.replicate (k-k) 0=eK x k:=by simp
   rw[e0]at dg;go_wp2;go_ret;exact⟨rfl,HK.out⟩
def bG (d:Dk):Nat:=(d.size-1)/2
def gQ (pd gen:Nat)(text:az)(lv:Value):Array Value:=#[aq pd,.int .i64 (gen:Int),aC text,lv,.bool false]
abbrev yJ (l:List az):List Value:=l.map fun s=>aC s
structure UH (w:World)(l pd:Nat)(lv:Value)(d:Dk)(gen:Nat)(text:az)(recs:List az)(Fd F:Nat->Prop):Prop where
 own:World.blk w l (gQ pd gen text lv) 196
 disk:bC w pd d Fd
 list:w.ownsRow 0 9 1 lv recs.length (yJ recs)
 fl:F l
 fd:∀ b,Fd b->F b
 fv:∀ b,lv.ownBlock=some b->F b/\¬ Fd b/\b≠l
 nd:¬ Fd l
 many:5<=d.size/\d.size<=16384
 gen:gen<=1099511627776
 eqT:text=lB recs
 room:text.length<=bG d*64
 lt:∀ b,F b->b<w.heap.size
def le (w:World)(l:Nat)(d:Dk)(gen:Nat)(recs:List az)(F:Nat->Prop):Prop:=∃ pd lv Fd,UH w l pd lv d gen (lB recs) recs Fd F
theorem UH.same {w w':World}{l pd gen:Nat}{lv:Value}{d:Dk}{text:az}{recs:List az}{Fd F:Nat->Prop}(h:UH w l pd lv d gen text recs Fd F)(m:fG F w w')(hs:w.heap.size<=w'.heap.size):UH w' l pd lv d gen text recs Fd F where
 own:=(m l h.fl (h.lt l h.fl)).trans h.own
 disk:=h.disk.same (fun b hb=>m b (h.fd b hb)) hs
 list:=aA h.list (fun b hb=>m b (h.fv b hb).1 (h.lt b (h.fv b hb).1))
 fl:=h.fl
 fd:=h.fd
 fv:=h.fv
 nd:=h.nd
 many:=h.many
 gen:=h.gen
 eqT:=h.eqT
 room:=h.room
 lt b hb:=auL (h.lt b hb) hs
theorem le.same {w w':World}{l gen:Nat}{d:Dk}{recs:List az}{F:Nat->Prop}(h:le w l d gen recs F)(m:fG F w w')(hs:w.heap.size<=w'.heap.size):le w' l d gen recs F:=by
 obtain⟨pd,lv,Fd,h⟩:=h;exact⟨pd,lv,Fd,h.same m hs⟩
theorem zT {w:World}{l pd gen:Nat}{lv:Value}{d:Dk}{text:az}{Fd:Nat->Prop}(h:World.blk w l (gQ pd gen text lv) 196)(hd:bC w pd d Fd)(hm:5<=d.size):
  Calls prog 123 #[aq l] w fun e w'=>e=.returned (.int .i64 (bG d:Int))/\w'=w:=by
 have c0:w.cell? ⟨l,0,none⟩=some (aq pd):=aa h 0;have S:=hd0 (jA hd);have pE:d.size<=16384:=hd.ok.many;have e2:((bG d:Nat):Int)=((d.size:Int)-1)/2:=by unfold bG;omega
 have e1:IntKind.i64.wrap ((d.size:Int)-1)=(d.size:Int)-1:=fA (by omega);have e3:((d.size:Int)-1).tdiv 2=((d.size:Int)-1)/2:=avL (by omega);have E2:=hd0 e2;clear h e2;generalize hq:d.size=q at*;go_enter func123,ntmps123;go_wp2_with fail;refine S.out.mono ?_;rintro e w1 ⟨rfl,rfl⟩;go_wp2;go_ret;exact⟨by rw[E2.out];rfl,rfl⟩
theorem pU {w:World}{l pd gen:Nat}{lv:Value}{text:az}(h:World.blk w l (gQ pd gen text lv) 196):
  Calls prog 151 #[aq l,.int .i64 0] w fun e w'=>e=.returned (.int .i64 0)/\World.blk w' l (gQ pd gen text lv) 196/\ah (fun b=>b=l) w w':=by
 have c4:w.cell? ⟨l,4,none⟩=some (.bool false):=aa h 4;have f4:=ae h ⟨l,4,none⟩ rfl;have HM:=hd0 ((ah.refl (fun b=>b=l) w).setCell (p:=⟨l,4,none⟩) (.inl rfl) (.bool false));have H:=hd0 (ag h 4 (.bool false));clear h;go_enter func151,ntmps151
 go_wp2
 go_ret;exact⟨rfl,H.out,HM.out⟩
theorem G6 {w:World}{l pd gen g:Nat}{lv:Value}{d:Dk}{text:az}{Fd:Nat->Prop}(h:World.blk w l (gQ pd gen text lv) 196)(hd:bC w pd d Fd)(hm:5<=d.size)(hg:g<=1099511627776):
  Calls prog 153 #[aq l,.int .i64 (g:Int)] w fun e w'=>e=.returned (.int .i64 ((1+g%2*bG d:Nat):Int))/\w'=w:=by
 have HH:=hd0 (zT h hd hm);have pE:d.size<=16384:=hd.ok.many;have hh:bG d<=16384:=by unfold bG;omega
 have hr:(g:Int).tmod 2=((g%2:Nat):Int):=by rw[Int.tmod_eq_emod_of_nonneg (by omega)];rfl
 obtain⟨r,hrr⟩:∃ r,g%2=r:=⟨_,rfl⟩
 have tT:r<2:=by omega
 have hgi:(g:Int)%2=(r:Int):=by omega
 rw[hrr]at hr ⊢;generalize bG d=q at*;have hrq:r*q<=16384:=by
  have:r=0\/r=1:=by omega
  rcases this with rfl|rfl<;>simp<;>omega
 have e0:((1+r*q:Nat):Int)=1+(r:Int)*(q:Int):=by simp
 have arY:(r:Int)*(q:Int)<=16384:=by rw[<-Int.natCast_mul];omega
 have app:(0:Int)<=(r:Int)*(q:Int):=by rw[<-Int.natCast_mul];omega
 have e1:IntKind.i64.wrap ((r:Int)*(q:Int))=(r:Int)*(q:Int):=fA (by omega);have e2:IntKind.i64.wrap (1+(r:Int)*(q:Int))=1+(r:Int)*(q:Int):=fA (by omega);have E0:=hd0 e0;clear e0 h hg hrr;go_enter func153,ntmps153;go_wp2_with fail;refine HH.out.mono ?_;rintro e w1 ⟨rfl,rfl⟩;go_wp2;go_ret;exact⟨by rw[E0.out];rfl,rfl⟩
end
section
open Go.RowKit Go.Shelf
attribute [local go_sem] auv
theorem zU (n:Nat)(hn:n<=64)(X:World):Calls prog 95 #[.string ⟨#[0]⟩,.int .i64 (n:Int)] X fun e w'=>e=.returned (aC (List.replicate n 0))/\af X w':=by
 refine(Tryz.strings_Repeat ⟨[(0:UInt8)].toArray⟩ n X (by omega) (by show 1*n<=_;omega)).mono ?_;rintro e w' ⟨rfl,hb⟩;refine⟨?_,ah.ofBelow hb⟩;have er:Lib.repeatL (ByteArray.mk [(0:UInt8)].toArray).data.toList n=List.replicate n 0:=JJ n;rw[er]
theorem qV {w:World}{l pd gen:Nat}{lv:Value}{d:Dk}{text:az}{Fd:Nat->Prop}(h:World.blk w l (gQ pd gen text lv) 196)(hd:bC w pd d Fd)(hm:5<=d.size)(nd:¬ Fd l)(g2 u2:Nat)(hg:g2<=1099511627776)(hu:u2<=1099511627776):
  Calls prog 155 #[aq l,.int .i64 (g2:Int),.int .i64 (u2:Int)] w fun e w'=>e=.returned (.int .i64 0)/\∃ uF,World.blk w' l (gQ pd gen text lv) 196/\bC w' pd (eA d g2 u2) uF/\ah (fun b=>b=l\/Fd b) w w'/\(∀ b,uF b->Fd b\/w.heap.size<=b):=by
 have H:=hd0 h;have HD:=hd0 hd;have ND:=hd0 nd;have HM:=hd0 hm;have P1:=hd0 (xh g2 6 hg (by omega));have P2:=hd0 (xh u2 4 hu (by omega));have ZR:Hid (∀ X,Calls prog 95 #[.string ⟨#[0]⟩,.int .i64 52] X fun e w'=>e=.returned (aC (List.replicate 52 0))/\af X w'):=hd0 (zU 52 (by omega));have vw:=ij g2 6;have lA:=ij u2 4;have Kt:(List.replicate 52 (0:UInt8)).length=52:=by simp
 have HS:Hid (78::86::(eK g2 6++(eK u2 4++List.replicate 52 0))=xg g2 u2):=hd0 (by simp[xg]);have aon:IntKind.i64.wrap 52=52:=by decide
 have HHD:Hid (eA d g2 u2=(d.put 0 (xg g2 u2)).sync):=hd0 rfl;clear h hd nd hg hu hm;generalize eK g2 6=a at*;generalize eK u2 4=b at*;generalize List.replicate 52 (0:UInt8)=z at*;go_enter func155,ntmps155;go_wp2_with fail;refine(P1.out w).mono ?_;rintro e w1 ⟨rfl,hk1⟩;have bU:=hd0 hk1;clear hk1;go_wp2_with fail;refine(P2.out w1).mono ?_;rintro e w2 ⟨rfl,de⟩;have bu:=hd0 (bU.out.keep de);clear de;have c0:w2.cell? ⟨l,0,none⟩=some (aq pd):=(bu.out.cell (p:=⟨l,0,none⟩) (ai H.out) id).trans (aa H.out 0);have hl:l<w2.heap.size:=auL (ai H.out) bu.out.size;go_wp2_with fail;refine iy 1 11 (by kernel_rfl) (by kernel_rfl) (fun _ o _ _ _ h=>by cases o<;>exact h) ?_;simp only[avn,avo,avq,avr];refine fE (fun L hL=>?_)
 go_simp
 first|refine hL _ ?_|refine⟨_,fun _=>rfl,hL _ ?_⟩
 clear hL L;refine kH ?_
 repeat (quiet_step (with_reducible exact aZ (ZR.out _)))
 refine avt ?_;intro _ cf;obtain⟨xq,rfl⟩:=cf;have nY:=bu.out.keep (ay w2 xq);have Oe:=hd0 (ab nY H.out id);have HD3:=HD.out.mod nY (fun _ _=>id);have dZ:=hd0 nY;have WR:=kP HD3 0 (by have:=HM.out;omega) (xg g2 u2) (LW _ _);rw[<-HS.out]at WR;have HWR:=hd0 WR;clear nY HD3 WR;go_wp2_with fail;refine HWR.out.mono ?_;rintro e w3 ⟨rfl,NL,I5,dw⟩;have AD:=ab dw.mod Oe.out ND.out;have n3:¬ NL l:=fun hv=>(dw.foot l hv).elim ND.out (fun hge=>by have:=ai Oe.out;omega);have nW:Hid (ah (fun b=>b=l\/Fd b) w w3):=hd0 ((dZ.out.mono (fun _ _ h=>h.elim)).trans (dw.mod.mono (T:=fun b=>b=l\/Fd b) (fun _ _ h=>.inr h)) (fun _ _ h=>h));have F8:Hid (∀ b,NL b->Fd b\/w.heap.size<=b):=hd0 (fun b hb=>(dw.foot b hb).imp id (fun h=>by have:=dZ.out.size;omega));have V4:=hd0 I5;have SJ:=hd0 AD;have N3:=hd0 n3;clear I5 dw AD n3 HWR Oe c0 hl;go_wp2_with fail;refine(pU SJ.out).mono ?_;rintro e w4 ⟨rfl,TL,AG⟩;have Hd4:=hd0 (V4.out.mod AG (fun b hb e=>N3.out (e▸hb)));have rH:Hid (ah (fun b=>b=l\/Fd b) w w4):=hd0 (nW.out.trans (AG.mono (T:=fun b=>b=l\/Fd b) (fun _ _ h=>.inl h)) (fun _ _ h=>h));have c0:w4.cell? ⟨l,0,none⟩=some (aq pd):=aa TL 0;have Z8:=hd0 TL;have SY:=hd0 (pO Hd4.out);clear TL AG V4 SJ nW;go_wp2_with fail;refine SY.out.mono ?_;rintro e w5 ⟨rfl,Wh,hd5,mt⟩;have NJ:=ab mt.mod Z8.out N3.out;have n5:¬ Wh l:=fun hv=>(mt.foot l hv).elim N3.out (fun hge=>by have:=ai Z8.out;omega);have hs4:=rH.out.size;have Cr:Hid (ah (fun b=>b=l\/Fd b) w w5):=hd0 (rH.out.trans mt.mod (fun i hi h=>(F8.out i h).elim .inr (fun hge=>by omega)));have FL:Hid (∀ b,Wh b->Fd b\/w.heap.size<=b):=hd0 (fun b hb=>(mt.foot b hb).elim (F8.out b) (fun h=>.inr (by omega)));have Hd5:=hd0 hd5;have TU:=hd0 NJ;have N5:=hd0 n5;clear hd5 mt NJ n5 SY c0 Hd4 Z8 rH;go_wp2_with fail;refine(pU TU.out).mono ?_;rintro e w6 ⟨rfl,NN,rF⟩;have ZK:=hd0 (Hd5.out.mod rF (fun b hb e=>N5.out (e▸hb)));have OE:Hid (ah (fun b=>b=l\/Fd b) w w6):=hd0 (Cr.out.trans (rF.mono (T:=fun b=>b=l\/Fd b) (fun _ _ h=>.inl h)) (fun _ _ h=>h));have Ho6:=hd0 NN;clear NN rF;go_wp2;go_ret;exact⟨rfl,Wh,Ho6.out,by rw[HHD.out,<-HS.out];exact ZK.out,OE.out,FL.out⟩
theorem DN {w:World}{p:Nat}{d:Dk}{F:Nat->Prop}(h:bC w p d F)(hm:5<=d.size)(g:Nat)(hg:g<=1099511627776):
  Calls prog 100 #[aq p,.int .i64 (g:Int)] w fun e w'=>∃ l,e=.returned (.tuple #[aq l,.int .i64 0])/\w.heap.size<=l/\∃ F',le w' l (eA d g 0) g [] F'/\d6 F F' w w':=by
 have SE:=hd0 (jA h);have H:=hd0 h;have pE:d.size<=16384:=h.ok.many;have q1:¬(d.size:Int)<5:=by omega
 have q2:(0:Int)<=(g:Int):=by omega
 have q3:¬(1099511627776:Int)<(g:Int):=by omega
 have HM:=hd0 hm;have HG:=hd0 hg;have HN:=hd0 pE;obtain⟨W,hW⟩:∃ W,w.alloc (.cells (gQ p g [] (.slice none 0 0)) 196)=W:=⟨_,rfl⟩
 have hW':w.alloc (.cells #[aq p,.int .i64 (g:Int),.string ⟨#[]⟩,.slice none 0 0,.bool false] 196)=W:=hW;have k0:af w W:=by rw[<-hW];exact(ah.refl _ w).alloc _
 have sQ:W.heap.size=w.heap.size+1:=by rw[<-hW];simp
 have o0:World.blk W w.heap.size (gQ p g [] (.slice none 0 0)) 196:=by rw[<-hW];exact aw w _ _
 have hnf:¬ F w.heap.size:=fun hv=>by have:=h.lt _ hv;omega
 have HE:=qV o0 (h.mod k0 (fun _ _=>id)) hm hnf g 0 hg (by omega);have HHE:Hid (Calls prog 155 #[aq w.heap.size,.int .i64 (g:Int),.int .i64 0] W fun e w'=>e=.returned (.int .i64 0)/\∃ uF,World.blk w' w.heap.size (gQ p g [] (.slice none 0 0)) 196/\bC w' p (eA d g 0) uF/\ah (fun b=>b=w.heap.size\/F b) W w'/\(∀ b,uF b->F b\/W.heap.size<=b)):=hd0 HE;have HK:=hd0 k0;have NF:=hd0 hnf;clear HE hW k0 o0 h hm hg pE hnf;generalize hq:d.size=q at*;have HQ:=hd0 hq;clear hq;go_enter func100,ntmps100;go_wp2_with fail;refine SE.out.mono ?_;rintro e w1 ⟨rfl,rfl⟩;go_wp2_with fail;refine HHE.out.mono ?_;rintro e w2 ⟨rfl,Fd,ho,hd,gV,hf⟩;have Ho:=hd0 ho;have Hd:=hd0 hd;have Hm:=hd0 gV;have Hf:=hd0 hf;clear ho hd gV hf HHE;go_wp2;go_ret2;have kp:=Hm.out.size;have yy:¬ Fd w1.heap.size:=fun hv=>(Hf.out _ hv).elim NF.out (fun hge=>by omega);have cK:(eA d g 0).size=q:=by unfold eA;rw[dF,fF];exact HQ.out
 refine⟨w1.heap.size,rfl,auE _,fun b=>Fd b\/b=w1.heap.size,⟨p,.slice none 0 0,Fd,?_⟩,?_⟩
 ·exact { own:=Ho.out,disk:=Hd.out,list:=⟨rfl,.inl ⟨rfl,rfl⟩⟩,fl:=.inr rfl,fd:=fun b hb=>.inl hb,fv:=fun b e=>by cases e
          nd:=yy,many:=by rw[cK];exact⟨HM.out,HN.out⟩,gen:=HG.out,eqT:=rfl,room:=by simp[lB],lt:=fun b hb=>hb.elim (fun h=>Hd.out.lt b h) (fun h=>by omega) }
 ·refine⟨⟨Hm.out.os.trans HK.out.os,Hm.out.tape.trans HK.out.tape,Hm.out.output.trans HK.out.output,by omega,fun b hb hn=>?_⟩,fun b hb=>hb.elim (fun h=>(Hf.out b h).imp id (fun h=>by omega)) (fun h=>.inr (by omega))⟩;rw[Hm.out.block b (by omega) (fun e=>e.elim (fun e=>by omega) hn)];exact HK.out.block b hb id
end
section
open Go.RowKit Go.Shelf
attribute [local go_sem] auv
theorem zV {w:World}{l gen:Nat}{d:Dk}{recs:List az}{F:Nat->Prop}(h:le w l d gen recs F):
  Calls prog 63 #[aq l] w fun e w'=>e=.returned (.int .i64 ((bG d*64-(lB recs).length:Nat):Int))/\af w w':=by
 obtain⟨pd,lv,Fd,h⟩:=h;have hh:bG d<=16384:=by have:=h.many;unfold bG;omega
 have hr:=h.room;have c2:∀ x,(w.ext x).cell? ⟨l,2,none⟩=some (aC (lB recs)):=fun x=>((ay w x).cell (p:=⟨l,2,none⟩) (ai h.own) id).trans (aa h.own 2);have HH:Hid (∀ x,Calls prog 123 #[aq l] (w.ext x) fun e w'=>e=.returned (.int .i64 (bG d:Int))/\af (w.ext x) w'):=hd0 (fun x=>(zT (ab (ay w x) h.own id) (h.disk.mod (ay w x) (fun _ _=>id)) h.many.1).mono (by rintro e w' ⟨rfl,rfl⟩;exact⟨rfl,ah.refl _ _⟩));have hl:l<w.heap.size:=ai h.own;clear h;generalize lB recs=t at*;generalize bG d=q at*;have e0:((q*64-t.length:Nat):Int)=(q:Int)*64-(t.length:Int):=by omega
 have e1:IntKind.i64.wrap ((q:Int)*64)=(q:Int)*64:=fA (by omega);have e2:IntKind.i64.wrap ((q:Int)*64-(t.length:Int))=(q:Int)*64-(t.length:Int):=fA (by omega);rw[e0];clear e0;go_enter func63,ntmps63;go_wp2_with fail;refine bA (by kernel_rfl) (by kernel_rfl) ?_
 repeat (quiet_step (with_reducible exact aZ (HH.out _)))
 refine avt ?_;intro _ cf;obtain⟨xq,rfl⟩:=cf;go_wp2;go_ret;exact⟨rfl,ay w xq⟩
theorem G7 {w:World}{l gen:Nat}{d:Dk}{recs:List az}{F:Nat->Prop}(h:le w l d gen recs F)(g2:Nat)(h1:gen<g2)(h2:g2<=1099511627776):
  Calls prog 143 #[aq l,.int .i64 (g2:Int)] w fun e w'=>e=.returned (.int .i64 0)/\∃ F',le w' l (eA d g2 0) g2 [] F'/\d6 F F' w w':=by
 obtain⟨pd,lv,Fd,h⟩:=h;have H:=hd0 h;have c1:w.cell? ⟨l,1,none⟩=some (.int .i64 (gen:Int)):=aa h.own 1;have c4:w.cell? ⟨l,4,none⟩=some (.bool false):=aa h.own 4;have q1:¬(g2:Int)<=(gen:Int):=by omega
 have q2:¬(1099511627776:Int)<(g2:Int):=by omega
 have HE:=qV h.own h.disk h.many.1 h.nd g2 0 h2 (by omega);have HHE:Hid (Calls prog 155 #[aq l,.int .i64 (g2:Int),.int .i64 0] w fun e w'=>e=.returned (.int .i64 0)/\∃ uF,World.blk w' l (gQ pd gen (lB recs) lv) 196/\bC w' pd (eA d g2 0) uF/\ah (fun b=>b=l\/Fd b) w w'/\(∀ b,uF b->Fd b\/w.heap.size<=b)):=hd0 HE;have HG:=hd0 h2;clear HE h h1 h2;go_enter func143,ntmps143;go_wp2_with fail;refine HHE.out.mono ?_;rintro e w2 ⟨rfl,Ot,ho,hd,gV,hf⟩;have c1:w2.cell? ⟨l,1,none⟩=some (.int .i64 (gen:Int)):=aa ho 1;have c2:w2.cell? ⟨l,2,none⟩=some (aC (lB recs)):=aa ho 2;have c3:w2.cell? ⟨l,3,none⟩=some lv:=aa ho 3;have f1:=ae ho ⟨l,1,none⟩ rfl;have f2:=ae ho ⟨l,2,none⟩ rfl;have f3:=ae ho ⟨l,3,none⟩ rfl;have Ho:=hd0 ho;have Hd:=hd0 hd;have Hm:=hd0 gV;have Hf:=hd0 hf;clear ho hd gV hf HHE;go_wp2;go_ret;have m7:ah (fun b=>b=l) w2 (((w2.setCell ⟨l,1,none⟩ (.int .i64 (g2:Int))).setCell ⟨l,2,none⟩ (.string ⟨#[]⟩)).setCell ⟨l,3,none⟩ (.slice none 0 0)):=(((ah.refl (fun b=>b=l) w2).setCell (p:=⟨l,1,none⟩) (.inl rfl) _).setCell (p:=⟨l,2,none⟩) (.inl rfl) _).setCell (p:=⟨l,3,none⟩) (.inl rfl) _;have o7:World.blk (((w2.setCell ⟨l,1,none⟩ (.int .i64 (g2:Int))).setCell ⟨l,2,none⟩ (.string ⟨#[]⟩)).setCell ⟨l,3,none⟩ (.slice none 0 0)) l (gQ pd g2 [] (.slice none 0 0)) 196:=ag (ag (ag Ho.out 1 _) 2 _) 3 _;generalize ((w2.setCell ⟨l,1,none⟩ (.int .i64 (g2:Int))).setCell ⟨l,2,none⟩ (.string ⟨#[]⟩)).setCell ⟨l,3,none⟩ (.slice none 0 0)=w6 at*;have sQ:=Hm.out.size;have kp:=m7.size;have n2:¬ Ot l:=fun hv=>(Hf.out l hv).elim H.out.nd (fun hge=>by have:=H.out.lt l H.out.fl;omega);have cK:(eA d g2 0).size=d.size:=by unfold eA;rw[dF,fF]
 refine⟨rfl,fun b=>F b\/Ot b,⟨pd,.slice none 0 0,Ot,?_⟩,?_⟩
 ·exact { own:=o7,disk:=Hd.out.mod m7 (fun b hb e=>n2 (e▸hb)),list:=⟨rfl,.inl ⟨rfl,rfl⟩⟩,fl:=.inl H.out.fl,fd:=fun b hb=>.inr hb,fv:=fun b e=>by cases e
          nd:=n2,many:=by rw[cK];exact H.out.many,gen:=HG.out,eqT:=rfl,room:=by simp[lB],lt:=fun b hb=>hb.elim (fun h=>by have:=H.out.lt b h;omega) (fun h=>by have:=Hd.out.lt b h;omega) }
 ·exact⟨(Hm.out.mono (T:=F) (fun i _ h=>h.elim (fun e=>by subst e;exact H.out.fl) (H.out.fd i))).trans (m7.mono (T:=F) (fun i _ e=>by subst e;exact H.out.fl)) (fun _ _ h=>h),fun b hb=>hb.elim .inl (fun h=>(Hf.out b h).imp (H.out.fd b) id)⟩
end
end Go.Proofs.YtkghpdcloaiflaaGreatDoor
