import Derived.Test.YtkghpdcloaiflaaGreatDoorE24
set_option maxHeartbeats 2000000
set_option maxRecDepth 100000
namespace Go.Proofs.YtkghpdcloaiflaaGreatDoor
open _root_.Go.Proofs.Tryz
section
open Go.RowKit
abbrev lp (x:Nt):Value:=.agg #[.int .i64 x.num,.bool x.dir,.int .i64 x.links,.string ⟨x.data.toArray⟩]
def gG (x:Nt):List Value:=[.int .i64 x.num,.bool x.dir,.int .i64 x.links,.string ⟨x.data.toArray⟩]
theorem fV:∀ x,(gG x).length=4:=fun _=>rfl
theorem Qw:(prog.info? 351).map (fun i=>(i.zero,i.size,i.bytes))=some (some (.agg #[.string ⟨#[]⟩,.int .i64 0]),2,24):=by kernel_rfl
theorem Qx:∀ p,∀ u∈H8 p,u.oneCell'=true:=by
 intro p u hu;simp only[H8,auX,List.not_mem_nil,or_false]at hu;rcases hu with rfl|rfl<;>rfl
theorem Eg {l:Nm}(h:∀ p∈l,aG p.1=true/\1<=p.2/\p.2<=65535):∀ was,(∀ s,was=some s->∀ p∈l,bytesBefore s p.1=true)->fq l->gd was l=true:=by
 induction l with
 |nil=>intro _ _ _;rfl
 |cons p r ih=>
  intro was hw hs;obtain⟨h1,h2⟩:=avF.1 hs;rw[gd,auT];obtain⟨a,b,c⟩:=h p (by simp);refine⟨?_,ih (fun q hq=>h q (by simp[hq])) _ (fun s e q hq=>by cases e;exact h1 q hq) h2⟩
  cases was with
  |none=>simp[wn,a,b,c]
  |some s=>simp[wn,a,b,c,hw s rfl p (by simp)]
theorem ne.ents {T:Tr}{d:Int->Nat}{off:Int->Int}(hw:ne T d off){n:Nd}(hn:n∈T):oX n.names=true:=by
 obtain⟨h1,h2⟩:=hw.names n hn;rw[oX,auT,auY];refine⟨by omega,Eg (fun p hp=>?_) none (fun s e=>by cases e) (hw.snames n hn)⟩;obtain⟨_,m,hm,e⟩:=hw.closed n hn p hp;have:=hw.nums m hm;exact⟨h2 p hp,by omega,by omega⟩
theorem Eh (l:Nm)(v:Value)(w:World)(cJ:jS H8 2 w v l)(hl:l.length<=1000000000)(hs:∀ p∈l,p.1.length<=1000000000/\-9223372036854775808<=p.2/\p.2<=9223372036854775807)(cq:oX l=true):
  Calls prog 258 #[v] w fun e w'=>e=.returned (.tuple #[.string ⟨(mg l).toArray⟩,.int .i64 0])/\af w w':=by
 have HR:=hd0 cJ;have Hl:=hd0 hl;have HS:=hd0 hs;have Ho:Hid (sq l=.tuple #[.string ⟨(mg l).toArray⟩,.int .i64 0]):=hd0 (by rw[sq,auI cq]);clear cJ hl hs cq;go_enter func258,ntmps258;go_wp2_with fail;refine(Qs _).mono ?_;rintro e w1 ⟨rfl,hk⟩;have Wn:=hd0 (eZ HR.out hk);have HK:=hd0 hk;clear hk;go_wp2_with fail;refine(Qv l v w1 Wn.out Hl.out HS.out).mono ?_;rintro e w2 ⟨rfl,hk⟩;have bu:=hd0 (HK.out.keep hk);clear hk;rw[Ho.out];go_wp2;go_ret2;exact⟨rfl,bu.out⟩
section
variable {w:World}{p tb:Nat}{T:Tr}{A M:Int->Nat}{role:Nat->cT}{d:Int->Nat}{off:Int->Int}
theorem Qy (h:aI w p T tb A M role)(hw:ne T d off){k:Int}{n:Nd}(hg:T.get k=some n)(hd:n.dir=true):
  Calls prog 257 #[.pointer (some ⟨A k,0,none⟩)] w fun e w'=>∃ v,e=.returned v/\iz w' w.heap.size v (n.names.map (·.1))/\af w w':=by
 obtain⟨hm,hk⟩:=(ax hw.sorted).1 hg;have c4:w.cell? ⟨A k,4,none⟩=some (.map (if n.dir=true then some (M k)else none)):=h.cell hw.sorted hg 4;have hN:=hd0 (h.names n hm hd);rw[hk]at hN;rw[auI hd]at c4;have HS:=hd0 (hw.snames n hm);have Hl:=hd0 (hw.names n hm).1;clear h hw hg hd hm hk;go_enter func257,ntmps257;go_wp2_with fail;refine(Mk _ _).mono ?_;rintro e w1 ⟨rfl,rfl⟩;go_wp2_with fail;refine(Ed (M k) n.names w hN.out HS.out (by have:=Hl.out;omega)).mono ?_;rintro e w1 ⟨v,rfl,ho,hk⟩;have HO:=hd0 ho;have HK:=hd0 hk;clear ho hk;go_wp2;go_ret;exact⟨_,rfl,HO.out,HK.out⟩
theorem Qz (h:aI w p T tb A M role)(hw:ne T d off){k:Int}{n:Nd}(hg:T.get k=some n):
  Calls prog 205 #[.pointer (some ⟨A k,0,none⟩)] w fun e w'=>e=.returned (lp n.told)/\af w w':=by
 obtain⟨hm,hk⟩:=(ax hw.sorted).1 hg;have c0:w.cell? ⟨A k,0,none⟩=some (.int .i64 n.num):=h.cell hw.sorted hg 0;have c1:w.cell? ⟨A k,1,none⟩=some (.bool n.dir):=h.cell hw.sorted hg 1;have c2:w.cell? ⟨A k,2,none⟩=some (.int .i64 n.links):=h.cell hw.sorted hg 2;have c3:w.cell? ⟨A k,3,none⟩=some (.string ⟨n.data.toArray⟩):=h.cell hw.sorted hg 3;have aL:=ak c0;simp only at aL;have HT:=hd0 h;have HW:=hd0 hw;have Hg:=hd0 hg;clear h hw hg hm hk;go_enter func205,ntmps205;go_wp2_with fail
 go_region
 all_goals
  have HX:Hid (World.blk ((w.alloc (.cells #[.int .i64 0,.bool false,.int .i64 0,.string ⟨#[]⟩] 221)).alloc (.cells #[.int .i64 n.num,.bool n.dir,.int .i64 n.links,.string ⟨n.data.toArray⟩] 221)).drew (w.heap.size+1) #[.int .i64 n.num,.bool n.dir,.int .i64 n.links,.string ⟨n.data.toArray⟩] 221):=hd0 (CJ (ba (by simp) _ _));have HZ:Hid (World.blk ((w.alloc (.cells #[.int .i64 0,.bool false,.int .i64 0,.string ⟨#[]⟩] 221)).alloc (.cells #[.int .i64 n.num,.bool n.dir,.int .i64 n.links,.string ⟨n.data.toArray⟩] 221)).drew w.heap.size #[.int .i64 0,.bool false,.int .i64 0,.string ⟨#[]⟩] 221):=hd0 (CJ (aH (aw _ _ _) _));have HK:Hid (af w ((w.alloc (.cells #[.int .i64 0,.bool false,.int .i64 0,.string ⟨#[]⟩] 221)).alloc (.cells #[.int .i64 n.num,.bool n.dir,.int .i64 n.links,.string ⟨n.data.toArray⟩] 221)).drew):=hd0 ((((ah.refl _ w).alloc _).alloc _).drew);generalize ((w.alloc (.cells #[.int .i64 0,.bool false,.int .i64 0,.string ⟨#[]⟩] 221)).alloc (.cells #[.int .i64 n.num,.bool n.dir,.int .i64 n.links,.string ⟨n.data.toArray⟩] 221)).drew=w1 at*;have iN:=hd0 (HT.out.keep HK.out);have d1:w1.cell? ⟨A k,1,none⟩=some (.bool n.dir):=iN.out.cell HW.out.sorted Hg.out 1;obtain⟨N,hN⟩:∃ N,w.heap.size=N:=⟨_,rfl⟩
  rw[hN]at HX HZ aL;rw[hN];have HN:=hd0 hN;clear hN c0 c1 c2 c3;obtain⟨hm,hk⟩:=(ax HW.out.sorted).1 Hg.out;have Hm:=hd0 (And.intro hm hk);clear hm hk
  cases hd:n.dir with
  |false=>
   rw[hd]at d1 HX;have Ht:Hid (n.told=⟨n.num,false,n.links,n.data⟩):=hd0 (by simp[Nd.told,hd]);clear hd;have x0:w1.cell? ⟨N+1,0,none⟩=some (.int .i64 n.num):=aa HX.out 0;have x1:w1.cell? ⟨N+1,1,none⟩=some (.bool false):=aa HX.out 1;have x2:w1.cell? ⟨N+1,2,none⟩=some (.int .i64 n.links):=aa HX.out 2;have x3:w1.cell? ⟨N+1,3,none⟩=some (.string ⟨n.data.toArray⟩):=aa HX.out 3;have y0:w1.frozen? ⟨N,0,none⟩=false:=ae HZ.out _ rfl;have y1:w1.frozen? ⟨N,1,none⟩=false:=ae HZ.out _ rfl;have y2:w1.frozen? ⟨N,2,none⟩=false:=ae HZ.out _ rfl;have y3:w1.frozen? ⟨N,3,none⟩=false:=ae HZ.out _ rfl;have z0:w1.cell? ⟨N,0,none⟩=some (.int .i64 0):=aa HZ.out 0;have z1:w1.cell? ⟨N,1,none⟩=some (.bool false):=aa HZ.out 1;have z2:w1.cell? ⟨N,2,none⟩=some (.int .i64 0):=aa HZ.out 2;have z3:w1.cell? ⟨N,3,none⟩=some (.string ⟨#[]⟩):=aa HZ.out 3;go_wp2_with fail;have hB:=ag (ag (ag (ag HZ.out 0 (.int .i64 n.num)) 1 (.bool false)) 2 (.int .i64 n.links)) 3 (.string ⟨n.data.toArray⟩);have k2:=(((HK.out.setCell (p:=⟨N,0,none⟩) (.inr (by rw[HN.out];exact auE _)) (.int .i64 n.num)).setCell (p:=⟨N,1,none⟩) (.inr (by rw[HN.out];exact auE _)) (.bool false)).setCell (p:=⟨N,2,none⟩) (.inr (by rw[HN.out];exact auE _)) (.int .i64 n.links)).setCell (p:=⟨N,3,none⟩) (.inr (by rw[HN.out];exact auE _)) (.string ⟨n.data.toArray⟩);have bu:=hd0 k2;generalize ((((w1.setCell ⟨N,0,none⟩ (.int .i64 n.num)).setCell ⟨N,1,none⟩ (.bool false)).setCell ⟨N,2,none⟩ (.int .i64 n.links)).setCell ⟨N,3,none⟩ (.string ⟨n.data.toArray⟩))=w2 at*;have q0:w2.cell? ⟨N,0,none⟩=some (.int .i64 n.num):=aa hB 0;have q1:w2.cell? ⟨N,1,none⟩=some (.bool false):=aa hB 1;have q2:w2.cell? ⟨N,2,none⟩=some (.int .i64 n.links):=aa hB 2;have q3:w2.cell? ⟨N,3,none⟩=some (.string ⟨n.data.toArray⟩):=aa hB 3;exact au7 (v:=lp ⟨n.num,false,n.links,n.data⟩) (by simp[results,Tryz.results205,go_sem,q0,q1,q2,q3]) rfl ⟨by rw[Ht.out],bu.out⟩
  |true=>
   rw[hd]at d1 HX;have Ht:Hid (n.told=⟨n.num,true,n.links,mg n.names⟩):=hd0 (by simp[Nd.told,hd]);have Hd:=hd0 hd;clear hd;go_wp2_with fail;refine(Qy iN.out HW.out Hg.out Hd.out).mono ?_;rintro e w2 ⟨lv,rfl,ho,hk⟩;have lE:=hd0 (ab hk HX.out id);have HZ2:=hd0 (ab hk HZ.out id);have mR:=hd0 (iN.out.keep hk);have rE:=hd0 (oO ho);have bu:=hd0 (HK.out.keep hk);have lJ:=hk.size;clear ho hk HX HZ iN HK d1;obtain⟨a,cap,eU⟩:=mJ rE.out;rw[kO,au4]at eU;subst eU;have hN1:N+1<w2.heap.size:=ai lE.out;have sW:n.names.length<=60:=(HW.out.names n Hm.out.1).1;have ako:(n.names.length:Int)<=9223372036854775807:=by omega
   go_wp2_with fail
   go_loopw [4,31] (fun v i wr=>∃ j:Nat,j<=n.names.length/\i=.int .i64 (j:Int)/\af w2 wr/\dU H8 2 351 wr w2.heap.size v (n.names.take j)) (fun _ i _=>n.names.length-(intOf i).toNat)
   case atStart=>exact⟨0,by omega,rfl,ah.refl _ _,rfl,.inl ⟨rfl,rfl⟩⟩
   case round=>
    obtain⟨j,hj,rfl,hK,hV⟩:=hrel;have dZ:=hd0 hK;have HV:=hd0 hV;have BY:=hK.size;have AF:=hd0 (mR.out.keep hK);clear hK hV;by_cases Co:j<n.names.length
    ·obtain⟨x,hx⟩:∃ x,n.names[j]?=some x:=⟨_,auB Co⟩
     have Hx:=hd0 hx;obtain⟨b,o,rfl,NP⟩:=Qp rE.out (j:=j) (x:=.string ⟨x.1.toArray⟩) (by simp[uI,hx]);have cs:wr.cell? ⟨b,o+j,none⟩=some (.string ⟨x.1.toArray⟩):=by rw[dZ.out.cell (p:=⟨b,o+j,none⟩) (ak NP) id];exact NP
     have c4:wr.cell? ⟨A k,4,none⟩=some (.map (if n.dir=true then some (M k)else none)):=AF.out.cell HW.out.sorted Hg.out 4;rw[auI Hd.out]at c4;have cw:=AF.out.names n Hm.out.1 Hd.out;rw[Hm.out.2]at cw;have RT:x.1.length<=16:=by
      have:=(HW.out.names n Hm.out.1).2 x (auC hx);simp only[aG,auT,auY]at this;exact this.1.1.2
     have r1:=fu.look1 cw underlying244 underlying9 underlying3 (D9 wr) x.1 (by omega);have TE:bF x.1 n.names=some x.2:=(cC (HW.out.snames n Hm.out.1)).2 (auC hx);rw[TE]at r1;simp only[avb]at r1;obtain⟨v2,w3,hr,ho,de,gV⟩:=qs (f:=H8) (x:=x) (P:=prog) underlying348 Qw rfl (by decide) DX w2.heap.size u4 (n.names.take j) wr w2 HV.out (Qx x) (by rw[auH];unfold maxLen;omega) (by rw[auH];omega) BY dZ.out (auE _);have Hr:=hd0 hr;have Ho:=hd0 ho;have WA:=hd0 de;clear hx NP cw TE hr ho de gV;go_wp2_with ((at_builtin;refine aB Hr.out rfl rfl rfl rfl ?_));refine⟨⟨j+1,by omega,by go_num,WA.out,by rw[kG Hx.out];exact Ho.out⟩,by simp[intOf];omega⟩
    ·obtain rfl:j=n.names.length:=by omega
     rw[auF]at HV;have Jw:=hd0 (bZ DX HV.out);go_wp2_with fail;refine(Eh n.names _ wr Jw.out (by omega) (fun q hq=>?_) (HW.out.ents Hm.out.1)).mono ?_
     ·have h1:=(HW.out.names n Hm.out.1).2 q hq;simp only[aG,auT,auY]at h1;obtain⟨_,m,hm,e⟩:=HW.out.closed n Hm.out.1 q hq;have h2:=HW.out.nums m hm;have h3:=h1.1.1.2;omega
     rintro e w4 ⟨rfl,iT⟩;have B3:=hd0 (ab iT (ab dZ.out lE.out id) id);have Wl:=hd0 (ab iT (ab dZ.out HZ2.out id) id);have ou:=hd0 ((bu.out.keep dZ.out).keep iT);clear iT lE HZ2 dZ HV Jw;have x0:w4.cell? ⟨N+1,0,none⟩=some (.int .i64 n.num):=aa B3.out 0;have x1:w4.cell? ⟨N+1,1,none⟩=some (.bool true):=aa B3.out 1;have x2:w4.cell? ⟨N+1,2,none⟩=some (.int .i64 n.links):=aa B3.out 2;have x3:w4.cell? ⟨N+1,3,none⟩=some (.string ⟨n.data.toArray⟩):=aa B3.out 3;have y0:w4.frozen? ⟨N,0,none⟩=false:=ae Wl.out _ rfl;have y1:w4.frozen? ⟨N,1,none⟩=false:=ae Wl.out _ rfl;have y2:w4.frozen? ⟨N,2,none⟩=false:=ae Wl.out _ rfl;have y3:w4.frozen? ⟨N,3,none⟩=false:=ae Wl.out _ rfl;have y4:w4.frozen? ⟨N+1,3,none⟩=false:=ae B3.out _ rfl;have z0:w4.cell? ⟨N,0,none⟩=some (.int .i64 0):=aa Wl.out 0;have z1:w4.cell? ⟨N,1,none⟩=some (.bool false):=aa Wl.out 1;have z2:w4.cell? ⟨N,2,none⟩=some (.int .i64 0):=aa Wl.out 2;have z3:w4.cell? ⟨N,3,none⟩=some (.string ⟨#[]⟩):=aa Wl.out 3;go_wp2_with fail;have hB:=ag (ag (ag (ag (bE Wl.out ⟨N+1,3,none⟩ (by simp) (.string ⟨(mg n.names).toArray⟩)) 0 (.int .i64 n.num)) 1 (.bool true)) 2 (.int .i64 n.links)) 3 (.string ⟨(mg n.names).toArray⟩);have k2:=((((ou.out.setCell (p:=⟨N+1,3,none⟩) (.inr (by rw[HN.out];simp)) (.string ⟨(mg n.names).toArray⟩)).setCell (p:=⟨N,0,none⟩) (.inr (by rw[HN.out];exact auE _)) (.int .i64 n.num)).setCell (p:=⟨N,1,none⟩) (.inr (by rw[HN.out];exact auE _)) (.bool true)).setCell (p:=⟨N,2,none⟩) (.inr (by rw[HN.out];exact auE _)) (.int .i64 n.links)).setCell (p:=⟨N,3,none⟩) (.inr (by rw[HN.out];exact auE _)) (.string ⟨(mg n.names).toArray⟩);have lZ:=hd0 k2;generalize (((((w4.setCell ⟨N+1,3,none⟩ (.string ⟨(mg n.names).toArray⟩)).setCell ⟨N,0,none⟩ (.int .i64 n.num)).setCell ⟨N,1,none⟩ (.bool true)).setCell ⟨N,2,none⟩ (.int .i64 n.links)).setCell ⟨N,3,none⟩ (.string ⟨(mg n.names).toArray⟩))=w5 at*;have q0:w5.cell? ⟨N,0,none⟩=some (.int .i64 n.num):=aa hB 0;have q1:w5.cell? ⟨N,1,none⟩=some (.bool true):=aa hB 1;have q2:w5.cell? ⟨N,2,none⟩=some (.int .i64 n.links):=aa hB 2;have q3:w5.cell? ⟨N,3,none⟩=some (.string ⟨(mg n.names).toArray⟩):=aa hB 3;exact au7 (v:=lp ⟨n.num,true,n.links,mg n.names⟩) (by simp[results,Tryz.results205,go_sem,q0,q1,q2,q3]) rfl ⟨by rw[Ht.out],lZ.out⟩
end
end
section
open Go.RowKit
theorem Mm:(prog.info? 221).map (fun i=>(i.zero,i.size,i.bytes))=some (some (.agg #[.int .i64 0,.bool false,.int .i64 0,.string ⟨#[]⟩]),4,40):=by kernel_rfl
theorem Mn:∀ p,∀ u∈gG p,u.oneCell'=true:=by
 intro p u hu;simp only[gG,auX,List.not_mem_nil,or_false]at hu;rcases hu with rfl|rfl|rfl|rfl<;>rfl
section
variable {w:World}{p tb:Nat}{T:Tr}{A M:Int->Nat}{role:Nat->cT}{d:Int->Nat}{off:Int->Int}
theorem tF (h:aI w p T tb A M role)(hw:ne T d off):
  Calls prog 125 #[.pointer (some ⟨p,0,none⟩)] w fun e w'=>∃ v,e=.returned v/\dU gG 4 221 w' w.heap.size v (ar T)/\af w w':=by
 have c0:w.cell? ⟨p,0,none⟩=some (.map (some tb)):=aa h.tree 0;have HT:=hd0 h;have HW:=hd0 hw;clear h hw;go_enter func125,ntmps125;go_wp2_with fail;refine(Ml _ _).mono ?_;rintro e w1 ⟨rfl,rfl⟩;go_wp2_with fail;have dC:(cm T A).map (·.1)=T.map (·.num):=by simp[cm]
 have sW:=HW.out.many;refine(Ef tb (cm T A) w HT.out.of (by rw[dC];exact qO.1 HW.out.sorted) (by simp[cm];omega)).mono ?_;rintro e w1 ⟨lv,rfl,ho,hk⟩;rw[dC]at ho;have HR:=hd0 (bd ho);have HK:=hd0 hk;have cK:=hk.size;have iN:=hd0 (HT.out.keep hk);obtain⟨a,cap,eU⟩:=mJ HR.out;rw[fR,au4]at eU;subst eU;have ako:(T.length:Int)<=9223372036854775807:=by omega
 clear ho hk dC c0;go_wp2_with fail
 go_loopw [3,13] (fun v i wr=>∃ j:Nat,j<=T.length/\i=.int .i64 (j:Int)/\af w1 wr/\dU gG 4 221 wr w1.heap.size v (ar (T.take j))) (fun _ i _=>T.length-(intOf i).toNat)
 case atStart=>exact⟨0,by omega,rfl,ah.refl _ _,rfl,.inl ⟨rfl,rfl⟩⟩
 case round=>
  obtain⟨j,hj,rfl,hK,hV⟩:=hrel;have dZ:=hd0 hK;have HV:=hd0 hV;have BY:=hK.size;have AF:=hd0 (iN.out.keep hK);clear hK hV;by_cases Co:j<T.length
  ·obtain⟨x,hx⟩:∃ x,T[j]?=some x:=⟨_,auB Co⟩
   have Hx:=hd0 hx;obtain⟨b,o,rfl,NP⟩:=Qp HR.out (j:=j) (x:=.int .i64 x.num) (by simp[bo,hx]);have cs:wr.cell? ⟨b,o+j,none⟩=some (.int .i64 x.num):=by rw[dZ.out.cell (p:=⟨b,o+j,none⟩) (ak NP) id];exact NP
   have c0:wr.cell? ⟨p,0,none⟩=some (.map (some tb)):=aa AF.out.tree 0;have hg:T.get x.num=some x:=(ax HW.out.sorted).2 ⟨auC hx,rfl⟩;have hb:=HW.out.nums x (auC hx);have r1:=AF.out.look1 HW.out.sorted hg (by omega);have Hg:=hd0 hg;clear hx NP hg hb;go_wp2_with fail;refine(Qz AF.out HW.out Hg.out).mono ?_;rintro e w4 ⟨rfl,iT⟩;have hs4:=iT.size;obtain⟨v2,w3,hr,ho,de,gV⟩:=qs (f:=gG) (x:=x.told) (P:=prog) underlying97 Mm rfl (by decide) fV w1.heap.size u3 (ar (T.take j)) w4 w1 (il HV.out iT) (Mn x.told) (by simp[ar];unfold maxLen;omega) (by simp[ar];omega) (by omega) (dZ.out.keep iT) (auE _);have Hr:=hd0 hr;have Ho:=hd0 ho;have WA:=hd0 de;clear hr ho de gV iT r1 cs c0;go_wp2_with ((at_builtin;refine aB Hr.out rfl rfl rfl rfl ?_));refine⟨⟨j+1,by omega,by go_num,WA.out,by rw[kG Hx.out];simp only[ar,List.map_append,auy,List.map_nil];exact Ho.out⟩,by simp[intOf];omega⟩
  ·obtain rfl:j=T.length:=by omega
   rw[auF]at HV;go_wp2;go_ret;exact⟨_,rfl,eX HV.out cK,HK.out.keep dZ.out⟩
end
end
section
open Go.RowKit
theorem iG {P:Program}{w w':World}{aD:Array Oper}{rest:List Oper}{o:Oper}{a:Act}{Q:Exit->Act->World->Prop}{m x v:Operand}{t:TypeId}{mv xv vv:Value}
  (bi:(Instr.mapUpdate t mv xv vv).run P w=.ok () w') (Cs:o.guard=none) (ho:o.op=Op.mapUpdate t m x v) (hm:a.eval m=mv) (hx:a.eval x=xv) (hv:a.eval v=vv)
  (h:wpList P aD Q rest (a.put o.dst undef) w'):wpList P aD Q (o::rest) a w:=by
 refine wpList_plain Cs fun K' hK'=>?_;unfold Oper.wp;simp[execOp,ho,hm,hx,hv,bi,Result.andThen];exact hK' _ _ h
theorem lV {P:Program}{w w':World}{aD:Array Oper}{rest:List Oper}{o:Oper}{a:Act}{Q:Exit->Act->World->Prop}{m x:Operand}{t k:TypeId}{mv xv:Value}
  (bi:(Builtin.delete_ #[t,k] o.type #[mv,xv]).run P w=.ok (.tuple #[]) w') (Cs:o.guard=none) (ho:o.op=Op.call { callee:=Callee.builtin Builtin.delete,args:=#[m,x],argTypes:=#[t,k] }) (hm:a.eval m=mv) (hx:a.eval x=xv)
  (h:wpList P aD Q rest (a.put o.dst (.tuple #[])) w'):wpList P aD Q (o::rest) a w:=by
 refine wpList_plain Cs fun K' hK'=>?_;unfold Oper.wp;simp[execOp,ho,resolve,invoke,builtin,hm,hx,bi,Result.andThen];exact hK' _ _ h
theorem fu.made' {P:Program}{tk te:TypeId}{b:Nat}{w:World}(h:b=w.heap.size)(_u:Unit):fu P tk te (w.alloc (.map #[] 0)) b []:=h▸fu.made w
theorem jV {P:Program}{tm tk te:TypeId}{w:World}{b:Nat}{l:Nm}{aD:Array Oper}{rest:List Oper}{o:Oper}{a:Act}{Q:Exit->Act->World->Prop}{m x:Operand}(cw:fu P tk te w b l)(ht:P.underlying tm=some (.map tk te))(hk:P.underlying tk=some .string)(s:List UInt8)(hs:s.length<=140737488355328)
  (Cs:o.guard=none) (ho:o.op=Op.call { callee:=Callee.builtin Builtin.delete,args:=#[m,x],argTypes:=#[tm,tk] }) (hm:a.eval m=.map (some b)) (hx:a.eval x=.string ⟨s.toArray⟩)
  (h:∀ w',fu P tk te w' b (gm s l)->ah (·=b) w w'->wpList P aD Q rest (a.put o.dst (.tuple #[])) w'):wpList P aD Q (o::rest) a w:=by
 obtain⟨w',bi,h1,h2⟩:=fu.drop cw ht hk s hs o.type;exact lV bi Cs ho hm hx (h w' h1 h2)
theorem uK {P:Program}{tm tk te:TypeId}{w:World}{b:Nat}{l:List (Int×Nat)}{aD:Array Oper}{rest:List Oper}{o:Oper}{a:Act}{Q:Exit->Act->World->Prop}{m x:Operand}(cw:dG P tk w b l)(ht:P.underlying tm=some (.map tk te))(hk:P.underlying tk=some (.int .i64))(k:Int)(sR:-9223372036854775808<=k/\k<=9223372036854775807)
  (Cs:o.guard=none) (ho:o.op=Op.call { callee:=Callee.builtin Builtin.delete,args:=#[m,x],argTypes:=#[tm,tk] }) (hm:a.eval m=.map (some b)) (hx:a.eval x=.int .i64 k)
  (h:∀ w',dG P tk w' b (gm k l)->ah (·=b) w w'->wpList P aD Q rest (a.put o.dst (.tuple #[])) w'):wpList P aD Q (o::rest) a w:=by
 obtain⟨w',bi,h1,h2⟩:=dG.drop cw ht hk k sR o.type;exact lV bi Cs ho hm hx (h w' h1 h2)
theorem lq {P:Program}{tm tk te:TypeId}{w:World}{b:Nat}{l:Nm}{aD:Array Oper}{rest:List Oper}{o:Oper}{a:Act}{Q:Exit->Act->World->Prop}{m x v:Operand}(cw:fu P tk te w b l)(ht:P.underlying tm=some (.map tk te))(hk:P.underlying tk=some .string)(he:P.underlying te=some (.int .i64))(s:List UInt8)(hs:s.length<=140737488355328)(k:Int)(sR:-9223372036854775808<=k/\k<=9223372036854775807)(hl:l.length<140737488355328)
  (Cs:o.guard=none) (ho:o.op=Op.mapUpdate tm m x v) (hm:a.eval m=.map (some b)) (hx:a.eval x=.string ⟨s.toArray⟩) (hv:a.eval v=.int .i64 k)
  (h:∀ w',fu P tk te w' b (em bytesBefore s k l)->ah (·=b) w w'->wpList P aD Q rest (a.put o.dst undef) w'):wpList P aD Q (o::rest) a w:=by
 obtain⟨w',bi,h1,h2⟩:=fu.store cw ht hk he s hs k sR hl;exact iG bi Cs ho hm hx hv (h w' h1 h2)
theorem iH {P:Program}{tm tk te:TypeId}{w:World}{b:Nat}{l:List (Int×Nat)}{aD:Array Oper}{rest:List Oper}{o:Oper}{a:Act}{Q:Exit->Act->World->Prop}{m x v:Operand}(cw:dG P tk w b l)(ht:P.underlying tm=some (.map tk te))(hk:P.underlying tk=some (.int .i64))(k:Int)(sR:-9223372036854775808<=k/\k<=9223372036854775807)(n:Nat)(hl:l.length<140737488355328)
  (Cs:o.guard=none) (ho:o.op=Op.mapUpdate tm m x v) (hm:a.eval m=.map (some b)) (hx:a.eval x=.int .i64 k) (hv:a.eval v=.pointer (some ⟨n,0,none⟩))
  (h:∀ w',dG P tk w' b (em (fun a b=>decide (a<b)) k n l)->ah (·=b) w w'->wpList P aD Q rest (a.put o.dst undef) w'):wpList P aD Q (o::rest) a w:=by
 obtain⟨w',bi,h1,h2⟩:=dG.store cw ht hk k sR n hl;exact iG bi Cs ho hm hx hv (h w' h1 h2)
section
variable {w w':World}{p tb:Nat}{T:Tr}{A M:Int->Nat}{role:Nat->cT}{d:Int->Nat}{off:Int->Int}
theorem UQ {w:World}(h:aI w p T tb A M role){k:Int}{n:Nd}(hg:n∈T)(hk:n.num=k)(hd:n.dir=true):p≠M k/\tb≠M k/\(∀ m∈T,A m.num≠M k)/\(∀ m∈T,m.dir=true->m.num≠k->M m.num≠M k):=by
 have hr:=h.rnames n hg hd;rw[hk]at hr;refine⟨fun e=>?_,fun e=>?_,fun m hm e=>?_,fun m hm oA oz e=>?_⟩
 ·rw[<-e,h.rtree]at hr;cases hr
 ·rw[<-e,h.rof]at hr;cases hr
 ·rw[<-e,h.rnode m hm]at hr;cases hr
 ·rw[<-e,h.rnames m hm oA]at hr;injection hr with e1;exact oz e1
theorem gR (h:aI w p T tb A M role)(hs:df T){k:Int}{n:Nd}{f:Nm->Nm}(hg:T.get k=some n)(hd:n.dir=true)(m:ah (·=M k) w w')(hn:Ic w' (M k) (f n.names)):aI w' p (T.named k f) tb A M role:=by
 obtain⟨hm,hk⟩:=(ax hs).1 hg;obtain⟨n1,n2,n3,n4⟩:=UQ h hm hk hd;have eG:∀ x∈T.named k f,∃ y∈T,y.num=x.num/\y.dir=x.dir/\(∀ a,jT x a=jT y a)/\((y.num≠k/\x.names=y.names)\/(y=n/\x.names=f n.names)):=by
  intro x hx;obtain⟨y,hy,rfl⟩:=vf.1 hx;refine⟨y,hy,?_⟩;by_cases e:y.num=k
  ·rw[auI (ave.2 e)];have e2:=lR hs hy hm (by omega);exact⟨rfl,rfl,fun _=>rfl,.inr ⟨e2,by rw[<-e2]⟩⟩
  ·rw[auK (by simpa using e)];exact⟨rfl,rfl,fun _=>rfl,.inl ⟨e,rfl⟩⟩
 refine⟨ab m h.tree n1,h.rtree,?_,h.rof,?_,?_,?_,?_,fun b hb=>auL (h.lt b hb) m.size⟩
 ·have e:cm (T.named k f) A=cm T A:=by
   have e1:(T.named k f).map (·.num)=T.map (·.num):=oY (f:=fun n=>{ n with names:=f n.names }) fun _=>rfl;have e2:∀ L:Tr,cm L A=(L.map (·.num)).map fun i=>(i,A i):=fun L=>by simp[cm]
   rw[e2,e2,e1]
  rw[e];exact h.of.mod m n2
 ·intro x hx;obtain⟨y,hy,e1,e2,e3,_⟩:=eG x hx;rw[e3,<-e1];exact ab m (h.node y hy) (n3 y hy)
 ·intro x hx;obtain⟨y,hy,e1,_⟩:=eG x hx;rw[<-e1];exact h.rnode y hy
 ·intro x hx nh;obtain⟨y,hy,e1,e2,e3,⟨e4,e5⟩|⟨e4,e5⟩⟩:=eG x hx
  ·rw[e5,<-e1];exact(h.names y hy (e2.trans nh)).mod m (n4 y hy (e2.trans nh) e4)
  ·rw[e5,<-e1,e4,hk];exact hn
 ·intro x hx nh;obtain⟨y,hy,e1,e2,_⟩:=eG x hx;rw[<-e1];exact h.rnames y hy (e2.trans nh)
theorem QA {w:World}(h:aI w p T tb A M role){k:Int}{n:Nd}(hg:n∈T)(hk:n.num=k):p≠A k/\tb≠A k/\(∀ m∈T,m.num≠k->A m.num≠A k)/\(∀ m∈T,m.dir=true->M m.num≠A k):=by
 have hr:=h.rnode n hg;rw[hk]at hr;refine⟨fun e=>?_,fun e=>?_,fun m hm oz e=>?_,fun m hm oA e=>?_⟩
 ·rw[<-e,h.rtree]at hr;cases hr
 ·rw[<-e,h.rof]at hr;cases hr
 ·rw[<-e,h.rnode m hm]at hr;injection hr with e1;exact oz e1
 ·rw[<-e,h.rnames m hm oA]at hr;cases hr
theorem mK (h:aI w p T tb A M role)(hs:df T){k:Int}{n:Nd}{f:Nd->Nd}(hf:∀ n,(f n).num=n.num/\(f n).dir=n.dir/\(f n).names=n.names)(hg:T.get k=some n)(m:ah (·=A k) w w')
  (hn:World.blk w' (A k) (jT (f n) (M k)) 246):aI w' p (T.upd k f) tb A M role:=by
 obtain⟨hm,hk⟩:=(ax hs).1 hg;obtain⟨n1,n2,n3,n4⟩:=QA h hm hk;have eG:∀ x∈T.upd k f,∃ y∈T,y.num=x.num/\y.dir=x.dir/\x.names=y.names/\((y.num≠k/\x=y)\/(y=n/\x=f n)):=by
  intro x hx;obtain⟨y,hy,rfl⟩:=vf.1 hx;refine⟨y,hy,?_⟩;by_cases e:y.num=k
  ·rw[auI (ave.2 e)];have e2:=lR hs hy hm (by omega);exact⟨(hf y).1.symm,(hf y).2.1.symm,(hf y).2.2,.inr ⟨e2,by rw[e2]⟩⟩
  ·rw[auK (by simpa using e)];exact⟨rfl,rfl,rfl,.inl ⟨e,rfl⟩⟩
 refine⟨ab m h.tree n1,h.rtree,?_,h.rof,?_,?_,?_,?_,fun b hb=>auL (h.lt b hb) m.size⟩
 ·have e:cm (T.upd k f) A=cm T A:=by
   have e1:(T.upd k f).map (·.num)=T.map (·.num):=oY fun n=>(hf n).1;have e2:∀ L:Tr,cm L A=(L.map (·.num)).map fun i=>(i,A i):=fun L=>by simp[cm]
   rw[e2,e2,e1]
  rw[e];exact h.of.mod m n2
 ·intro x hx;obtain⟨y,hy,e1,e2,e3,⟨e4,e5⟩|⟨e4,e5⟩⟩:=eG x hx
  ·rw[e5];exact ab m (h.node y hy) (n3 y hy e4)
  ·rw[e5,(hf n).1,hk];exact hn
 ·intro x hx;obtain⟨y,hy,e1,_⟩:=eG x hx;rw[<-e1];exact h.rnode y hy
 ·intro x hx nh;obtain⟨y,hy,e1,e2,e3,_⟩:=eG x hx;rw[e3,<-e1];exact(h.names y hy (e2.trans nh)).mod m (n4 y hy (e2.trans nh))
 ·intro x hx nh;obtain⟨y,hy,e1,e2,_⟩:=eG x hx;rw[<-e1];exact h.rnames y hy (e2.trans nh)
theorem Mo {n0:Nd}{a:Nat}(hn:∀ m∈T,m.num≠n0.num):cm (Tr.add n0 T) (fun k=>if k=n0.num then a else A k)=em (fun a b=>decide (a<b)) n0.num a (cm T A):=by
 have e1:∀ L:Tr,(∀ m∈L,m.num≠n0.num)->cm L (fun k=>if k=n0.num then a else A k)=cm L A:=fun L hL=>by
  unfold cm;exact au1 fun m hm=>by show(m.num,if m.num=n0.num then a else A m.num)=_;rw[auK (hL m hm)]
 have e2:gm n0.num (cm T A)=cm T A:=List.filter_eq_self.2 fun q hq=>by
  obtain⟨m,hm,rfl⟩:=au6.1 hq;rw[avR (hn m hm)];rfl
 unfold em;rw[e2];clear e2
 induction T with
 |nil=>simp[Tr.add,cm,jN]
 |cons y r ih=>
  have hr:∀ m∈r,m.num≠n0.num:=fun m hm=>hn m (by simp[hm]);have hy:cm (y::r) A=(y.num,A y.num)::cm r A:=rfl;rw[hy];unfold Tr.add jN;by_cases h:n0.num<y.num
  ·rw[auI h,auI (by simpa using h),<-hy,<-e1 _ hn];show(n0.num,if n0.num=n0.num then a else A n0.num)::_=_;rw[auI rfl];rfl
  ·rw[auK h,auK (by simpa using h),<-ih hr];show(y.num,if y.num=n0.num then a else A y.num)::_=_;rw[auK (hn y (by simp))];rfl
theorem If {j:Int}:cm (T.drop j) A=gm j (cm T A):=by
 unfold cm Tr.drop gm;rw[List.filter_map];rfl
theorem sr (h:aI w p T tb A M role){n0:Nd}{a m:Nat}(hn:∀ x∈T,x.num≠n0.num)(dh:ah (·=tb) w w')(ha:w.heap.size<=a)(hm:w.heap.size<=m)(ham:a≠m)(ha2:a<w'.heap.size)(gV:n0.dir=true->m<w'.heap.size)
  (KM:Mj w' tb (em (fun a b=>decide (a<b)) n0.num a (cm T A))) (ow:World.blk w' a (jT n0 m) 246) (aax:n0.dir=true->Ic w' m n0.names):
  aI w' p (Tr.add n0 T) tb (fun k=>if k=n0.num then a else A k) (fun k=>if k=n0.num then m else M k) (fun b=>if b=a then .node n0.num else if b=m/\n0.dir=true then .names n0.num else role b):=by
 have old:∀ b,role b≠.none->(if b=a then cT.node n0.num else if b=m/\n0.dir=true then .names n0.num else role b)=role b:=fun b hb=>by
  have:=h.lt b hb;rw[auK (by omega),auK (fun e=>by omega)]
 have hp:role p≠.none:=by rw[h.rtree];exact cT.noConfusion
 have ht:role tb≠.none:=by rw[h.rof];exact cT.noConfusion
 have OB:p≠tb:=fun e=>by have:=h.rtree;rw[e,h.rof]at this;cases this
 refine⟨ab dh h.tree OB,by rw[old p hp];exact h.rtree,by rw[Mo hn];exact KM,by rw[old tb ht];exact h.rof,?_,?_,?_,?_,?_⟩
 ·intro x hx;rcases dj.1 hx with rfl|hx
  ·rw[auI rfl,auI rfl];exact ow
  ·rw[auK (hn x hx),auK (hn x hx)];exact ab dh (h.node x hx) (fun e=>by have:=h.rnode x hx;rw[e,h.rof]at this;cases this)
 ·intro x hx;rcases dj.1 hx with rfl|hx
  ·rw[auI rfl,auI rfl]
  ·rw[auK (hn x hx)];show(if A x.num=a then _ else _)=_;rw[old _ (by rw[h.rnode x hx];exact cT.noConfusion)];exact h.rnode x hx
 ·intro x hx nh;rcases dj.1 hx with rfl|hx
  ·rw[auI rfl];exact aax nh
  ·rw[auK (hn x hx)];exact(h.names x hx nh).mod dh (fun e=>by have:=h.rnames x hx nh;rw[e,h.rof]at this;cases this)
 ·intro x hx nh;rcases dj.1 hx with rfl|hx
  ·rw[auI rfl,auK (fun e=>ham e.symm),auI ⟨rfl,nh⟩]
  ·rw[auK (hn x hx)];show(if M x.num=a then _ else _)=_;rw[old _ (by rw[h.rnames x hx nh];exact cT.noConfusion)];exact h.rnames x hx nh
 ·intro b hb;by_cases e:b=a
  ·rw[e];exact ha2
  ·by_cases e2:b=m/\n0.dir=true
   ·rw[e2.1];exact gV e2.2
   ·rw[auK e,auK e2]at hb;exact auL (h.lt b hb) dh.size
theorem Mp (h:aI w p T tb A M role){j:Int}(dh:ah (·=tb) w w')(KM:Mj w' tb (gm j (cm T A))):aI w' p (T.drop j) tb A M role:=by
 have OB:p≠tb:=fun e=>by have:=h.rtree;rw[e,h.rof]at this;cases this
 refine⟨ab dh h.tree OB,h.rtree,by rw[If];exact KM,h.rof,?_,fun x hx=>h.rnode x (cQ.1 hx).1,?_,fun x hx=>h.rnames x (cQ.1 hx).1,fun b hb=>auL (h.lt b hb) dh.size⟩
 ·intro x hx;have hx:=(cQ.1 hx).1;exact ab dh (h.node x hx) (fun e=>by have:=h.rnode x hx;rw[e,h.rof]at this;cases this)
 ·intro x hx nh;have hx:=(cQ.1 hx).1;exact(h.names x hx nh).mod dh (fun e=>by have:=h.rnames x hx nh;rw[e,h.rof]at this;cases this)
end
def bD (w w':World)(p tb:Nat)(role:Nat->cT)(T':Tr):Prop:=
 ∃ A' M' j4,aI w' p T' tb A' M' j4/\(∀ b,j4 b≠.none->role b≠.none\/w.heap.size<=b)/\ah (fun b=>role b≠.none) w w'
theorem bD.same {w w':World}{p tb:Nat}{T:Tr}{A M:Int->Nat}{role:Nat->cT}(h:aI w p T tb A M role)(k:af w w'):bD w w' p tb role T:=
 ⟨A,M,role,h.keep k,fun _ hb=>.inl hb,k.mono (fun _ _ h=>h.elim)⟩
end
end Go.Proofs.YtkghpdcloaiflaaGreatDoor
