import Derived.Test.YtkghpdcloaiflaaGreatDoorH24
set_option maxHeartbeats 2000000
set_option maxRecDepth 100000
namespace Go.Proofs.YtkghpdcloaiflaaGreatDoor
open _root_.Go.Proofs.Tryz
variable {P:Program}{Q:Exit->Act->World->Prop}{a:Act}{aF:Array Oper}{b:Nat}{k:Int}{o:Oper}{rest:List Oper}{w w':World}
section
open Go.RowKit
abbrev kP (x:Nt):Value:=.agg #[.int .i64 x.num,.bool x.dir,.int .i64 x.links,.string ⟨x.data.toArray⟩]
def gt (x:Nt):List Value:=[.int .i64 x.num,.bool x.dir,.int .i64 x.links,.string ⟨x.data.toArray⟩]
theorem fP:∀ x,(gt x).length=4:=λ_=>rfl
theorem QS:(prog.info? 351).map (λi=>(i.zero,i.size,i.bytes))=some (some (.agg #[.string ⟨#[]⟩,.int .i64 0]),2,24):=kr7
theorem QT:∀ p,∀ u∈Iq p,u.oneCell'=true:=by
 intro p u hu;simp only[Iq,aws,List.not_mem_nil,or_false]at hu;rcases hu with rfl|rfl<;>rfl
theorem Et {l:Nm}(h:∀ p∈l,aJ p.1=true/\1<=p.2/\p.2<=65535):∀ was,(∀ s,was=some s->∀ p∈l,bytesBefore s p.1=true)->eV l->fS was l=true:=by
 induction l with
 |nil=>intro _ _ _;rfl
 |cons p r ih=>
  intro was hw hs;obtain⟨h1,h2⟩:=aw9.1 hs;rw[fS,awo];obtain⟨a,b,c⟩:=h p sp7;refine⟨?_,ih (λq hq=>h q (by simp[hq])) _ (λs e q hq=>by cases e;exact h1 q hq) h2⟩
  cases was with
  |none=>simp[vY,a,b,c]
  |some s=>simp[vY,a,b,c,hw s rfl p sp7]
theorem mU.ents {T:Tr}{d:Int->Nat}{off:Int->Int}(hw:mU T d off){n:Nd}(hn:n∈T):oD n.names=true:=by
 obtain⟨h1,h2⟩:=hw.names n hn;rw[oD,awo,awt];refine⟨by omega,Et (λp hp=>?_) none (λs e=>by cases e) (hw.snames n hn)⟩;obtain⟨_,m,hm,e⟩:=hw.closed n hn p hp;have:=hw.nums m hm;exact⟨h2 p hp,J,J⟩
theorem Eu (l:Nm)(v:Value)(w:World)(cq:ms Iq 2 w v l)(hl:l.length<=1000000000)(hs:∀ p∈l,p.1.length<=1000000000/\-9223372036854775808<=p.2/\p.2<=9223372036854775807)(bZ:oD l=true):
  Calls prog 258 #[v] w λe w'=>e=.returned (.tuple #[.string ⟨(lQ l).toArray⟩,.int .i64 0])/\af w w':=by
 obtain⟨HR,Hl,HS⟩:=K3 cq hl hs;have Ho:Hid (rQ l=.tuple #[.string ⟨(lQ l).toArray⟩,.int .i64 0]):=Z (by rw[rQ,awd bZ]);clear cq hl hs bZ;go_enter func258,ntmps258;go_wp2_with fail;refine(QO _).mono ?_;rintro e w1 ⟨rfl,hk⟩;obtain⟨Xw,HK⟩:=K2 (fO HR.o hk) hk;clear hk;go_wp2_with fail;refine(QR l v w1 Xw.o Hl.o HS.o).mono ?_;rintro e w2 ⟨rfl,hk⟩;have bJ:=Z (HK.keep hk);clear hk;rw[Ho.o];go_wp2;go_ret2;exact⟨rfl,bJ.o⟩
section
variable {w:World}{p tb:Nat}{T:Tr}{A M:Int->Nat}{role:Nat->dE}{d:Int->Nat}{off:Int->Int}
theorem QU (h:aS w p T tb A M role)(hw:mU T d off){n:Nd}(hg:T.get k=some n)(hd:n.dir=true):
  Calls prog 257 #[.pointer (some ⟨A k,0,none⟩)] w λe w'=>∃ v,e=.returned v/\io w' w.heap.size v (n.names.map (·.1))/\af w w':=by
 obtain⟨hm,hk⟩:=(aG hw.sorted).1 hg;have c4:w.cell? ⟨A k,4,none⟩=some (.map (if n.dir=true then some (M k)else none)):=h.cell hw.sorted hg 4;have hN:=Z (h.names n hm hd);rw[hk]at hN;rw[awd hd]at c4;obtain⟨HS,Hl⟩:=K2 (hw.snames n hm) (hw.names n hm).1;clear h hw hg hd hm hk;go_enter func257,ntmps257;go_wp2_with fail;refine(Mp _ _).mono ?_;rintro e w1 ⟨rfl,rfl⟩;go_wp2_with fail;refine(Er (M k) n.names w hN.o HS.o (by have:=Hl.o;omega)).mono ?_;rintro e w1 ⟨v,rfl,ho,hk⟩;obtain⟨HO,HK⟩:=K2 ho hk;clear ho hk;go_wp2;go_ret;exact⟨_,rfl,HO.o,HK.o⟩
theorem QV (h:aS w p T tb A M role)(hw:mU T d off){n:Nd}(hg:T.get k=some n):
  Calls prog 205 #[.pointer (some ⟨A k,0,none⟩)] w λe w'=>e=.returned (kP n.told)/\af w w':=by
 obtain⟨hm,hk⟩:=(aG hw.sorted).1 hg;have c0:w.cell? ⟨A k,0,none⟩=some (.int .i64 n.num):=h.cell hw.sorted hg 0;have c1:w.cell? ⟨A k,1,none⟩=some (.bool n.dir):=h.cell hw.sorted hg 1;have c2:w.cell? ⟨A k,2,none⟩=some (.int .i64 n.links):=h.cell hw.sorted hg 2;have c3:w.cell? ⟨A k,3,none⟩=some (.string ⟨n.data.toArray⟩):=h.cell hw.sorted hg 3;have aP:=am c0;simp only at aP;obtain⟨HT,HW,Hg⟩:=K3 h hw hg;clear h hw hg hm hk;go_enter func205,ntmps205;go_wp2_with fail
 go_region
 all_goals
  have HX:Hid (World.blk ((w.alloc (.cells #[.int .i64 0,.bool false,.int .i64 0,.string ⟨#[]⟩] 221)).alloc (.cells #[.int .i64 n.num,.bool n.dir,.int .i64 n.links,.string ⟨n.data.toArray⟩] 221)).drew (w.heap.size+1) #[.int .i64 n.num,.bool n.dir,.int .i64 n.links,.string ⟨n.data.toArray⟩] 221):=Z (CQ (aV sp7 _ _));have HZ:Hid (World.blk ((w.alloc (.cells #[.int .i64 0,.bool false,.int .i64 0,.string ⟨#[]⟩] 221)).alloc (.cells #[.int .i64 n.num,.bool n.dir,.int .i64 n.links,.string ⟨n.data.toArray⟩] 221)).drew w.heap.size #[.int .i64 0,.bool false,.int .i64 0,.string ⟨#[]⟩] 221):=Z (CQ (aE (av _ _ _) _));have HK:Hid (af w ((w.alloc (.cells #[.int .i64 0,.bool false,.int .i64 0,.string ⟨#[]⟩] 221)).alloc (.cells #[.int .i64 n.num,.bool n.dir,.int .i64 n.links,.string ⟨n.data.toArray⟩] 221)).drew):=Z ((((ai.refl _ w).alloc _).alloc _).drew);generalize ((w.alloc (.cells #[.int .i64 0,.bool false,.int .i64 0,.string ⟨#[]⟩] 221)).alloc (.cells #[.int .i64 n.num,.bool n.dir,.int .i64 n.links,.string ⟨n.data.toArray⟩] 221)).drew=w1 at*;have sE:=Z (HT.keep HK.o);have d1:w1.cell? ⟨A k,1,none⟩=some (.bool n.dir):=sE.cell HW.sorted Hg.o 1;obtain⟨N,hN⟩:∃ N,w.heap.size=N:=⟨_,rfl⟩
  rw[hN]at HX HZ aP;rw[hN];have HN:=Z hN;clear hN c0 c1 c2 c3;obtain⟨hm,hk⟩:=(aG HW.sorted).1 Hg.o;have Hm:=Z (And.intro hm hk);clear hm hk
  cases hd:n.dir with
  |false=>
   rw[hd]at d1 HX;have Ht:Hid (n.told=⟨n.num,false,n.links,n.data⟩):=Z (by simp[Nd.told,hd]);clear hd;have x0:w1.cell? ⟨N+1,0,none⟩=some (.int .i64 n.num):=aa HX.o 0;have x1:w1.cell? ⟨N+1,1,none⟩=some (.bool false):=aa HX.o 1;have x2:w1.cell? ⟨N+1,2,none⟩=some (.int .i64 n.links):=aa HX.o 2;have x3:w1.cell? ⟨N+1,3,none⟩=some (.string ⟨n.data.toArray⟩):=aa HX.o 3;have y0:w1.frozen? ⟨N,0,none⟩=false:=ae HZ.o _ rfl;have y1:w1.frozen? ⟨N,1,none⟩=false:=ae HZ.o _ rfl;have y2:w1.frozen? ⟨N,2,none⟩=false:=ae HZ.o _ rfl;have y3:w1.frozen? ⟨N,3,none⟩=false:=ae HZ.o _ rfl;have z0:w1.cell? ⟨N,0,none⟩=some (.int .i64 0):=aa HZ.o 0;have z1:w1.cell? ⟨N,1,none⟩=some (.bool false):=aa HZ.o 1;have z2:w1.cell? ⟨N,2,none⟩=some (.int .i64 0):=aa HZ.o 2;have z3:w1.cell? ⟨N,3,none⟩=some (.string ⟨#[]⟩):=aa HZ.o 3;go_wp2_with fail;have hB:=ah (ah (ah (ah HZ.o 0 (.int .i64 n.num)) 1 (.bool false)) 2 (.int .i64 n.links)) 3 (.string ⟨n.data.toArray⟩);have k2:=(((HK.setCell (p:=⟨N,0,none⟩) (.inr (by rw[HN.o];exact av9 _)) (.int .i64 n.num)).setCell (p:=⟨N,1,none⟩) (.inr (by rw[HN.o];exact av9 _)) (.bool false)).setCell (p:=⟨N,2,none⟩) (.inr (by rw[HN.o];exact av9 _)) (.int .i64 n.links)).setCell (p:=⟨N,3,none⟩) (.inr (by rw[HN.o];exact av9 _)) (.string ⟨n.data.toArray⟩);have bJ:=Z k2;generalize ((((w1.setCell ⟨N,0,none⟩ (.int .i64 n.num)).setCell ⟨N,1,none⟩ (.bool false)).setCell ⟨N,2,none⟩ (.int .i64 n.links)).setCell ⟨N,3,none⟩ (.string ⟨n.data.toArray⟩))=w2 at*;have q0:w2.cell? ⟨N,0,none⟩=some (.int .i64 n.num):=aa hB 0;have q1:w2.cell? ⟨N,1,none⟩=some (.bool false):=aa hB 1;have q2:w2.cell? ⟨N,2,none⟩=some (.int .i64 n.links):=aa hB 2;have q3:w2.cell? ⟨N,3,none⟩=some (.string ⟨n.data.toArray⟩):=aa hB 3;exact awC (v:=kP ⟨n.num,false,n.links,n.data⟩) (by simp[results,Tryz.results205,go_sem,q0,q1,q2,q3]) rfl ⟨by rw[Ht.o],bJ.o⟩
  |true=>
   rw[hd]at d1 HX;have Ht:Hid (n.told=⟨n.num,true,n.links,lQ n.names⟩):=Z (by simp[Nd.told,hd]);have Hd:=Z hd;clear hd;go_wp2_with fail;refine(QU sE.o HW.o Hg.o Hd.o).mono ?_;rintro e w2 ⟨lv,rfl,ho,hk⟩;obtain⟨lg,Y3,sC,ru,bJ⟩:=K5 (ab hk HX.o id) (ab hk HZ.o id) (sE.keep hk) (Db ho) (HK.keep hk);have le:=hk.size;clear ho hk HX HZ sE HK d1;obtain⟨a,cap,iA⟩:=tg ru.o;rw[oq,awz]at iA;subst iA;have hN1:N+1<w2.heap.size:=ak lg.o;have AE:n.names.length<=60:=(HW.names n Hm.1).1;have ajn:(n.names.length:Int)<=9223372036854775807:=J
   go_wp2_with fail
   go_loopw [4,31] (λv i wr=>∃ j:Nat,j<=n.names.length/\i=.int .i64 (j:Int)/\af w2 wr/\dX Iq 2 351 wr w2.heap.size v (n.names.take j)) (λ_ i _=>n.names.length-(intOf i).toNat)
   case atStart=>exact⟨0,J,rfl,ai.refl _ _,rfl,.inl ⟨rfl,rfl⟩⟩
   case round=>
    obtain⟨j,hj,rfl,hK,hV⟩:=hrel;obtain⟨ez,HV⟩:=K2 hK hV;have Cr:=hK.size;have Uw:=Z (sC.keep hK);clear hK hV;by_cases Cn:j<n.names.length
    ·obtain⟨x,hx⟩:∃ x,n.names[j]?=some x:=⟨_,av6 Cn⟩
     have Hx:=Z hx;obtain⟨b,o,rfl,Se⟩:=QJ ru.o (j:=j) (x:=.string ⟨x.1.toArray⟩) (by simp[uG,hx]);have cs:wr.cell? ⟨b,o+j,none⟩=some (.string ⟨x.1.toArray⟩):=by rw[ez.cell (p:=⟨b,o+j,none⟩) (am Se) id];exact Se
     have c4:wr.cell? ⟨A k,4,none⟩=some (.map (if n.dir=true then some (M k)else none)):=Uw.cell HW.sorted Hg.o 4;rw[awd Hd.o]at c4;have eA:=Uw.names n Hm.1 Hd.o;rw[Hm.2]at eA;have TZ:x.1.length<=16:=by
      have:=(HW.names n Hm.1).2 x (av7 hx);simp only[aJ,awo,awt]at this;exact this.1.1.2
     have r1:=iC.look1 eA underlying244 underlying9 underlying3 (Em wr) x.1 J;have hgx:bM x.1 n.names=some x.2:=(cV (HW.snames n Hm.1)).2 (av7 hx);rw[hgx]at r1;simp only[awG]at r1;obtain⟨v2,w3,hr,ho,dK,db⟩:=qh (f:=Iq) (x:=x) (P:=prog) underlying348 QS rfl dc7 Ef w2.heap.size u4 (n.names.take j) wr w2 HV.o (QT x) (by rw[awc];unfold maxLen;omega) (by rw[awc];omega) Cr ez.o (av9 _);obtain⟨Hr,Ho,Hk2⟩:=K3 hr ho dK;clear hx Se eA hgx hr ho dK db;go_wp2_with ((at_builtin;refine aB Hr.o rfl rfl rfl rfl ?_));refine⟨⟨j+1,J,by go_num,Hk2.o,by rw[iZ Hx.o];exact Ho.o⟩,by simp[intOf];omega⟩
    ·obtain rfl:j=n.names.length:=J
     rw[awa]at HV;have Ji:=Z (cg Ef HV.o);go_wp2_with fail;refine(Eu n.names _ wr Ji.o J (λq hq=>?_) (HW.ents Hm.1)).mono ?_
     ·have h1:=(HW.names n Hm.1).2 q hq;simp only[aJ,awo,awt]at h1;obtain⟨_,m,hm,e⟩:=HW.closed n Hm.1 q hq;have h2:=HW.nums m hm;have h3:=h1.1.1.2;omega
     rintro e w4 ⟨rfl,jE⟩;obtain⟨Cp,TL,pO⟩:=K3 (ab jE (ab ez.o lg.o id) id) (ab jE (ab ez.o Y3.o id) id) ((bJ.keep ez.o).keep jE);clear jE lg Y3 ez HV Ji;have x0:w4.cell? ⟨N+1,0,none⟩=some (.int .i64 n.num):=aa Cp.o 0;have x1:w4.cell? ⟨N+1,1,none⟩=some (.bool true):=aa Cp.o 1;have x2:w4.cell? ⟨N+1,2,none⟩=some (.int .i64 n.links):=aa Cp.o 2;have x3:w4.cell? ⟨N+1,3,none⟩=some (.string ⟨n.data.toArray⟩):=aa Cp.o 3;have y0:w4.frozen? ⟨N,0,none⟩=false:=ae TL.o _ rfl;have y1:w4.frozen? ⟨N,1,none⟩=false:=ae TL.o _ rfl;have y2:w4.frozen? ⟨N,2,none⟩=false:=ae TL.o _ rfl;have y3:w4.frozen? ⟨N,3,none⟩=false:=ae TL.o _ rfl;have y4:w4.frozen? ⟨N+1,3,none⟩=false:=ae Cp.o _ rfl;have z0:w4.cell? ⟨N,0,none⟩=some (.int .i64 0):=aa TL.o 0;have z1:w4.cell? ⟨N,1,none⟩=some (.bool false):=aa TL.o 1;have z2:w4.cell? ⟨N,2,none⟩=some (.int .i64 0):=aa TL.o 2;have z3:w4.cell? ⟨N,3,none⟩=some (.string ⟨#[]⟩):=aa TL.o 3;go_wp2_with fail;have hB:=ah (ah (ah (ah (aZ TL.o ⟨N+1,3,none⟩ sp7 (.string ⟨(lQ n.names).toArray⟩)) 0 (.int .i64 n.num)) 1 (.bool true)) 2 (.int .i64 n.links)) 3 (.string ⟨(lQ n.names).toArray⟩);have k2:=((((pO.setCell (p:=⟨N+1,3,none⟩) (.inr (by rw[HN.o];simp)) (.string ⟨(lQ n.names).toArray⟩)).setCell (p:=⟨N,0,none⟩) (.inr (by rw[HN.o];exact av9 _)) (.int .i64 n.num)).setCell (p:=⟨N,1,none⟩) (.inr (by rw[HN.o];exact av9 _)) (.bool true)).setCell (p:=⟨N,2,none⟩) (.inr (by rw[HN.o];exact av9 _)) (.int .i64 n.links)).setCell (p:=⟨N,3,none⟩) (.inr (by rw[HN.o];exact av9 _)) (.string ⟨(lQ n.names).toArray⟩);have nD:=Z k2;generalize (((((w4.setCell ⟨N+1,3,none⟩ (.string ⟨(lQ n.names).toArray⟩)).setCell ⟨N,0,none⟩ (.int .i64 n.num)).setCell ⟨N,1,none⟩ (.bool true)).setCell ⟨N,2,none⟩ (.int .i64 n.links)).setCell ⟨N,3,none⟩ (.string ⟨(lQ n.names).toArray⟩))=w5 at*;have q0:w5.cell? ⟨N,0,none⟩=some (.int .i64 n.num):=aa hB 0;have q1:w5.cell? ⟨N,1,none⟩=some (.bool true):=aa hB 1;have q2:w5.cell? ⟨N,2,none⟩=some (.int .i64 n.links):=aa hB 2;have q3:w5.cell? ⟨N,3,none⟩=some (.string ⟨(lQ n.names).toArray⟩):=aa hB 3;exact awC (v:=kP ⟨n.num,true,n.links,lQ n.names⟩) (by simp[results,Tryz.results205,go_sem,q0,q1,q2,q3]) rfl ⟨by rw[Ht.o],nD.o⟩
end
theorem Mr:(prog.info? 221).map (λi=>(i.zero,i.size,i.bytes))=some (some (.agg #[.int .i64 0,.bool false,.int .i64 0,.string ⟨#[]⟩]),4,40):=kr7
theorem Ms:∀ p,∀ u∈gt p,u.oneCell'=true:=by
 intro p u hu;simp only[gt,aws,List.not_mem_nil,or_false]at hu;rcases hu with rfl|rfl|rfl|rfl<;>rfl
section
variable {w:World}{p tb:Nat}{T:Tr}{A M:Int->Nat}{role:Nat->dE}{d:Int->Nat}{off:Int->Int}
theorem ti (h:aS w p T tb A M role)(hw:mU T d off):
  Calls prog 125 #[.pointer (some ⟨p,0,none⟩)] w λe w'=>∃ v,e=.returned v/\dX gt 4 221 w' w.heap.size v (aw T)/\af w w':=by
 have c0:w.cell? ⟨p,0,none⟩=some (.map (some tb)):=aa h.tree 0;obtain⟨HT,HW⟩:=K2 h hw;clear h hw;go_enter func125,ntmps125;go_wp2_with fail;refine(Mq _ _).mono ?_;rintro e w1 ⟨rfl,rfl⟩;go_wp2_with fail;have iD:(da T A).map (·.1)=T.map (·.num):=by simp[da]
 have AE:=HW.many;refine(Es tb (da T A) w HT.of (by rw[iD];exact qH.1 HW.sorted) (by simp[da];omega)).mono ?_;rintro e w1 ⟨lv,rfl,ho,hk⟩;rw[iD]at ho;obtain⟨HR,HK⟩:=K2 (bh ho) hk;have cJ:=hk.size;have sE:=Z (HT.keep hk);obtain⟨a,cap,iA⟩:=tg HR.o;rw[fK,awz]at iA;subst iA;have ajn:(T.length:Int)<=9223372036854775807:=J
 clear ho hk iD c0;go_wp2_with fail
 go_loopw [3,13] (λv i wr=>∃ j:Nat,j<=T.length/\i=.int .i64 (j:Int)/\af w1 wr/\dX gt 4 221 wr w1.heap.size v (aw (T.take j))) (λ_ i _=>T.length-(intOf i).toNat)
 case atStart=>exact⟨0,J,rfl,ai.refl _ _,rfl,.inl ⟨rfl,rfl⟩⟩
 case round=>
  obtain⟨j,hj,rfl,hK,hV⟩:=hrel;obtain⟨ez,HV⟩:=K2 hK hV;have Cr:=hK.size;have Uw:=Z (sE.keep hK);clear hK hV;by_cases Cn:j<T.length
  ·obtain⟨x,hx⟩:∃ x,T[j]?=some x:=⟨_,av6 Cn⟩
   have Hx:=Z hx;obtain⟨b,o,rfl,Se⟩:=QJ HR.o (j:=j) (x:=.int .i64 x.num) (by simp[bu,hx]);have cs:wr.cell? ⟨b,o+j,none⟩=some (.int .i64 x.num):=by rw[ez.cell (p:=⟨b,o+j,none⟩) (am Se) id];exact Se
   have c0:wr.cell? ⟨p,0,none⟩=some (.map (some tb)):=aa Uw.tree 0;have hg:T.get x.num=some x:=(aG HW.sorted).2 ⟨av7 hx,rfl⟩;have hb:=HW.nums x (av7 hx);have r1:=Uw.look1 HW.sorted hg J;have Hg:=Z hg;clear hx Se hg hb;go_wp2_with fail;refine(QV Uw.o HW.o Hg.o).mono ?_;rintro e w4 ⟨rfl,jE⟩;have hs4:=jE.size;obtain⟨v2,w3,hr,ho,dK,db⟩:=qh (f:=gt) (x:=x.told) (P:=prog) underlying97 Mr rfl dc7 fP w1.heap.size u3 (aw (T.take j)) w4 w1 (gY HV.o jE) (Ms x.told) (by simp[aw];unfold maxLen;omega) (by simp[aw];omega) J (ez.keep jE) (av9 _);obtain⟨Hr,Ho,Hk2⟩:=K3 hr ho dK;clear hr ho dK db jE r1 cs c0;go_wp2_with ((at_builtin;refine aB Hr.o rfl rfl rfl rfl ?_));refine⟨⟨j+1,J,by go_num,Hk2.o,by rw[iZ Hx.o];simp only[aw,List.map_append,av3,List.map_nil];exact Ho.o⟩,by simp[intOf];omega⟩
  ·obtain rfl:j=T.length:=J
   rw[awa]at HV;go_wp2;go_ret;exact⟨_,rfl,eS HV.o cJ,HK.keep ez.o⟩
end
theorem lC {m x v:Operand}{t:TypeId}{mv xv vv:Value}
  (bN:(Instr.mapUpdate t mv xv vv).run P w=.ok () w') (O0:o.guard=none) (ho:o.op=Op.mapUpdate t m x v) (hm:a.eval m=mv) (hx:a.eval x=xv) (hv:a.eval v=vv)
  (h:wpList P aF Q rest (a.put o.dst undef) w'):wpList P aF Q (o::rest) a w:=by
 refine wpList_plain O0 λK' hK'=>?_;unfold Oper.wp;simp[execOp,ho,hm,hx,hv,bN,Result.andThen];exact hK' _ _ h
theorem iC.made' {tk te:TypeId}(h:b=w.heap.size)(_u:Unit):iC P tk te (w.alloc (.map #[] 0)) b []:=h▸iC.made w
theorem oQ {tm tk te:TypeId}{l:Nm}{m x v:Operand}(eA:iC P tk te w b l)(ht:P.underlying tm=some (.map tk te))(hk:P.underlying tk=some .string)(he:P.underlying te=some (.int .i64))(s:List UInt8)(hs:s.length<=140737488355328)(k:Int)(tP:-9223372036854775808<=k/\k<=9223372036854775807)(hl:l.length<140737488355328)
  (O0:o.guard=none) (ho:o.op=Op.mapUpdate tm m x v) (hm:a.eval m=.map (some b)) (hx:a.eval x=.string ⟨s.toArray⟩) (hv:a.eval v=.int .i64 k)
  (h:∀ w',iC P tk te w' b (ee bytesBefore s k l)->ai (·=b) w w'->wpList P aF Q rest (a.put o.dst undef) w'):wpList P aF Q (o::rest) a w:=by
 obtain⟨w',bN,h1,h2⟩:=iC.store eA ht hk he s hs k tP hl;exact lC bN O0 ho hm hx hv (h w' h1 h2)
theorem iu {tm tk te:TypeId}{l:List (Int×Nat)}{m x v:Operand}(eA:dJ P tk w b l)(ht:P.underlying tm=some (.map tk te))(hk:P.underlying tk=some (.int .i64))(k:Int)(tP:-9223372036854775808<=k/\k<=9223372036854775807)(n:Nat)(hl:l.length<140737488355328)
  (O0:o.guard=none) (ho:o.op=Op.mapUpdate tm m x v) (hm:a.eval m=.map (some b)) (hx:a.eval x=.int .i64 k) (hv:a.eval v=.pointer (some ⟨n,0,none⟩))
  (h:∀ w',dJ P tk w' b (ee (λa b=>decide (a<b)) k n l)->ai (·=b) w w'->wpList P aF Q rest (a.put o.dst undef) w'):wpList P aF Q (o::rest) a w:=by
 obtain⟨w',bN,h1,h2⟩:=dJ.store eA ht hk k tP n hl;exact lC bN O0 ho hm hx hv (h w' h1 h2)
section
variable {w w':World}{p tb:Nat}{T:Tr}{A M:Int->Nat}{role:Nat->dE}{d:Int->Nat}{off:Int->Int}
theorem VN (h:aS w p T tb A M role){n:Nd}(hg:n∈T)(hk:n.num=k)(hd:n.dir=true):p≠M k/\tb≠M k/\(∀ m∈T,A m.num≠M k)/\(∀ m∈T,m.dir=true->m.num≠k->M m.num≠M k):=by
 have hr:=h.rnames n hg hd;rw[hk]at hr;refine⟨λe=>?_,λe=>?_,λm hm e=>?_,λm hm oe rx e=>?_⟩
 ·rw[<-e,h.rtree]at hr;cases hr
 ·rw[<-e,h.rof]at hr;cases hr
 ·rw[<-e,h.rnode m hm]at hr;cases hr
 ·rw[<-e,h.rnames m hm oe]at hr;injection hr with e1;exact rx e1
theorem xm (h:aS w p T tb A M role)(hs:dQ T){n:Nd}{f:Nm->Nm}(hg:T.get k=some n)(hd:n.dir=true)(m:ai (·=M k) w w')(hn:It w' (M k) (f n.names)):aS w' p (T.named k f) tb A M role:=by
 obtain⟨hm,hk⟩:=(aG hs).1 hg;obtain⟨n1,n2,n3,n4⟩:=VN h hm hk hd;have gx:∀ x∈T.named k f,∃ y∈T,y.num=x.num/\y.dir=x.dir/\(∀ a,kO x a=kO y a)/\((y.num≠k/\x.names=y.names)\/(y=n/\x.names=f n.names)):=by
  intro x hx;obtain⟨y,hy,rfl⟩:=A1.1 hx;refine⟨y,hy,?_⟩;by_cases e:y.num=k
  ·rw[awd (awJ.2 e)];have e2:=pB hs hy hm J;exact⟨rfl,rfl,λ_=>rfl,.inr ⟨e2,by rw[<-e2]⟩⟩
  ·rw[awf (by simpa using e)];exact⟨rfl,rfl,λ_=>rfl,.inl ⟨e,rfl⟩⟩
 refine⟨ab m h.tree n1,h.rtree,?_,h.rof,?_,?_,?_,?_,λb hb=>awg (h.lt b hb) m.size⟩
 ·have e:da (T.named k f) A=da T A:=by
   have e1:(T.named k f).map (·.num)=T.map (·.num):=rN (f:=λn=>{ n with names:=f n.names }) λ_=>rfl;have e2:∀ L:Tr,da L A=(L.map (·.num)).map λi=>(i,A i):=λL=>by simp[da]
   rw[e2,e2,e1]
  rw[e];exact h.of.mod m n2
 ·intro x hx;obtain⟨y,hy,e1,e2,e3,_⟩:=gx x hx;rw[e3,<-e1];exact ab m (h.node y hy) (n3 y hy)
 ·intro x hx;obtain⟨y,hy,e1,_⟩:=gx x hx;rw[<-e1];exact h.rnode y hy
 ·intro x hx qo;obtain⟨y,hy,e1,e2,e3,⟨e4,e5⟩|⟨e4,e5⟩⟩:=gx x hx
  ·rw[e5,<-e1];exact(h.names y hy (e2.trans qo)).mod m (n4 y hy (e2.trans qo) e4)
  ·rw[e5,<-e1,e4,hk];exact hn
 ·intro x hx qo;obtain⟨y,hy,e1,e2,_⟩:=gx x hx;rw[<-e1];exact h.rnames y hy (e2.trans qo)
theorem Mt {n0:Nd}{a:Nat}(hn:∀ m∈T,m.num≠n0.num):da (Tr.add n0 T) (λk=>if k=n0.num then a else A k)=ee (λa b=>decide (a<b)) n0.num a (da T A):=by
 have e1:∀ L:Tr,(∀ m∈L,m.num≠n0.num)->da L (λk=>if k=n0.num then a else A k)=da L A:=λL hL=>by
  unfold da;exact aww λm hm=>by show(m.num,if m.num=n0.num then a else A m.num)=_;rw[awf (hL m hm)]
 have e2:iO n0.num (da T A)=da T A:=List.filter_eq_self.2 λq hq=>by
  obtain⟨m,hm,rfl⟩:=awB.1 hq;rw[axl (hn m hm)];rfl
 unfold ee;rw[e2];clear e2
 induction T with
 |nil=>simp[Tr.add,da,jH]
 |cons y r ih=>
  have hr:∀ m∈r,m.num≠n0.num:=λm hm=>hn m (by simp[hm]);have hy:da (y::r) A=(y.num,A y.num)::da r A:=rfl;rw[hy];unfold Tr.add jH;by_cases h:n0.num<y.num
  ·rw[awd h,awd (by simpa using h),<-hy,<-e1 _ hn];show(n0.num,if n0.num=n0.num then a else A n0.num)::_=_;rw[awd rfl];rfl
  ·rw[awf h,awf (by simpa using h),<-ih hr];show(y.num,if y.num=n0.num then a else A y.num)::_=_;rw[awf (hn y sp7)];rfl
theorem rR (h:aS w p T tb A M role){n0:Nd}{a m:Nat}(hn:∀ x∈T,x.num≠n0.num)(dV:ai (·=tb) w w')(ha:w.heap.size<=a)(hm:w.heap.size<=m)(ham:a≠m)(ha2:a<w'.heap.size)(db:n0.dir=true->m<w'.heap.size)
  (OE:QE w' tb (ee (λa b=>decide (a<b)) n0.num a (da T A))) (nW:World.blk w' a (kO n0 m) 246) (abo:n0.dir=true->It w' m n0.names):
  aS w' p (Tr.add n0 T) tb (λk=>if k=n0.num then a else A k) (λk=>if k=n0.num then m else M k) (λb=>if b=a then .node n0.num else if b=m/\n0.dir=true then .names n0.num else role b):=by
 have old:∀ b,role b≠.none->(if b=a then dE.node n0.num else if b=m/\n0.dir=true then .names n0.num else role b)=role b:=λb hb=>by
  have:=h.lt b hb;rw[awf J,awf (λe=>J)]
 have hp:role p≠.none:=by rw[h.rtree];exact dE.noConfusion
 have ht:role tb≠.none:=by rw[h.rof];exact dE.noConfusion
 have UJ:p≠tb:=λe=>by have:=h.rtree;rw[e,h.rof]at this;cases this
 refine⟨ab dV h.tree UJ,by rw[old p hp];exact h.rtree,by rw[Mt hn];exact OE,by rw[old tb ht];exact h.rof,?_,?_,?_,?_,?_⟩
 ·intro x hx;rcases dc.1 hx with rfl|hx
  ·rw[awd rfl,awd rfl];exact nW
  ·rw[awf (hn x hx),awf (hn x hx)];exact ab dV (h.node x hx) (λe=>by have:=h.rnode x hx;rw[e,h.rof]at this;cases this)
 ·intro x hx;rcases dc.1 hx with rfl|hx
  ·rw[awd rfl,awd rfl]
  ·rw[awf (hn x hx)];show(if A x.num=a then _ else _)=_;rw[old _ (by rw[h.rnode x hx];exact dE.noConfusion)];exact h.rnode x hx
 ·intro x hx qo;rcases dc.1 hx with rfl|hx
  ·rw[awd rfl];exact abo qo
  ·rw[awf (hn x hx)];exact(h.names x hx qo).mod dV (λe=>by have:=h.rnames x hx qo;rw[e,h.rof]at this;cases this)
 ·intro x hx qo;rcases dc.1 hx with rfl|hx
  ·rw[awd rfl,awf (λe=>ham e.symm),awd ⟨rfl,qo⟩]
  ·rw[awf (hn x hx)];show(if M x.num=a then _ else _)=_;rw[old _ (by rw[h.rnames x hx qo];exact dE.noConfusion)];exact h.rnames x hx qo
 ·intro b hb;by_cases e:b=a
  ·rw[e];exact ha2
  ·by_cases e2:b=m/\n0.dir=true
   ·rw[e2.1];exact db e2.2
   ·rw[awf e,awf e2]at hb;exact awg (h.lt b hb) dV.size
end
def eM (w w':World)(p tb:Nat)(role:Nat->dE)(T':Tr):Prop:=
 ∃ A' M' jQ,aS w' p T' tb A' M' jQ/\(∀ b,jQ b≠.none->role b≠.none\/w.heap.size<=b)/\ai (λb=>role b≠.none) w w'
theorem eM.same {p tb:Nat}{T:Tr}{A M:Int->Nat}{role:Nat->dE}(h:aS w p T tb A M role)(k:af w w'):eM w w' p tb role T:=
 ⟨A,M,role,h.keep k,λ_ hb=>.inl hb,k.mono (λ_ _ h=>h.elim)⟩
end
end Go.Proofs.YtkghpdcloaiflaaGreatDoor
