import Derived.Test.YtkghpdcloaiflaaGreatDoorC24
set_option maxHeartbeats 2000000
set_option maxRecDepth 100000
namespace Go.Proofs.YtkghpdcloaiflaaGreatDoor
open _root_.Go.Proofs.Tryz
section
open Go.RowKit
abbrev kY (x:Nt):Value:=.agg #[.int .i64 x.num,.bool x.dir,.int .i64 x.links,.string ⟨x.data.toArray⟩]
def gx (x:Nt):List Value:=[.int .i64 x.num,.bool x.dir,.int .i64 x.links,.string ⟨x.data.toArray⟩]
theorem fP:∀ x,(gx x).length=4:=fun _=>rfl
theorem Qa:(prog.info? 351).map (fun i=>(i.zero,i.size,i.bytes))=some (some (.agg #[.string ⟨#[]⟩,.int .i64 0]),2,24):=by kernel_rfl
theorem Qb:∀ p,∀ u∈GK p,u.oneCell'=true:=by
 intro p u hu;simp only[GK,at9,List.not_mem_nil,or_false]at hu;rcases hu with rfl|rfl<;>rfl
theorem DH {l:Nm}(h:∀ p∈l,aH p.1=true/\1<=p.2/\p.2<=65535):∀ was,(∀ s,was=some s->∀ p∈l,bytesBefore s p.1=true)->eU l->fT was l=true:=by
 induction l with
 |nil=>intro _ _ _;rfl
 |cons p r ih=>
  intro was hw hs;obtain⟨h1,h2⟩:=auQ.1 hs;rw[fT,at2];obtain⟨a,b,c⟩:=h p (by simp);refine⟨?_,ih (fun q hq=>h q (by simp[hq])) _ (fun s e q hq=>by cases e;exact h1 q hq) h2⟩
  cases was with
  |none=>simp[vL,a,b,c]
  |some s=>simp[vL,a,b,c,hw s rfl p (by simp)]
theorem mR.ents {T:Tr}{d:Int->Nat}{off:Int->Int}(hw:mR T d off){n:Nd}(hn:n∈T):oI n.names=true:=by
 obtain⟨h1,h2⟩:=hw.names n hn;rw[oI,at2,aua];refine⟨by omega,DH (fun p hp=>?_) none (fun s e=>by cases e) (hw.snames n hn)⟩;obtain⟨_,m,hm,e⟩:=hw.closed n hn p hp;have:=hw.nums m hm;exact⟨h2 p hp,by omega,by omega⟩
theorem DJ (l:Nm)(v:Value)(w:World)(cH:jY GK 2 w v l)(hl:l.length<=1000000000)(hs:∀ p∈l,p.1.length<=1000000000/\-9223372036854775808<=p.2/\p.2<=9223372036854775807)(cC:oI l=true):
  Calls prog 258 #[v] w fun e w'=>e=.returned (.tuple #[.string ⟨(l6 l).toArray⟩,.int .i64 0])/\af w w':=by
 have HR:=hd0 cH;have Hl:=hd0 hl;have HS:=hd0 hs;have Ho:Hid (rH l=.tuple #[.string ⟨(l6 l).toArray⟩,.int .i64 0]):=hd0 (by rw[rH,atP cC]);clear cH hl hs cC;go_enter func258,ntmps258;go_wp2_with fail;refine(P5 _).mono ?_;rintro e w1 ⟨rfl,hk⟩;have U6:=hd0 (eO HR.out hk);have HK:=hd0 hk;clear hk;go_wp2_with fail;refine(P9 l v w1 U6.out Hl.out HS.out).mono ?_;rintro e w2 ⟨rfl,hk⟩;have bu:=hd0 (HK.out.keep hk);clear hk;rw[Ho.out];go_wp2;go_ret2;exact⟨rfl,bu.out⟩
section
variable {w:World}{p tb:Nat}{T:Tr}{A M:Int->Nat}{role:Nat->cU}{d:Int->Nat}{off:Int->Int}
theorem Qc (h:aI w p T tb A M role)(hw:mR T d off){k:Int}{n:Nd}(hg:T.get k=some n)(hd:n.dir=true):
  Calls prog 257 #[.pointer (some ⟨A k,0,none⟩)] w fun e w'=>∃ v,e=.returned v/\im w' w.heap.size v (n.names.map (·.1))/\af w w':=by
 obtain⟨hm,hk⟩:=(ax hw.sorted).1 hg;have c4:w.cell? ⟨A k,4,none⟩=some (.map (if n.dir=true then some (M k)else none)):=h.cell hw.sorted hg 4;have hN:=hd0 (h.names n hm hd);rw[hk]at hN;rw[atP hd]at c4;have HS:=hd0 (hw.snames n hm);have Hl:=hd0 (hw.names n hm).1;clear h hw hg hd hm hk;go_enter func257,ntmps257;go_wp2_with fail;refine(LJ _ _).mono ?_;rintro e w1 ⟨rfl,rfl⟩;go_wp2_with fail;refine(DE (M k) n.names w hN.out HS.out (by have:=Hl.out;omega)).mono ?_;rintro e w1 ⟨v,rfl,ho,hk⟩;have HO:=hd0 ho;have HK:=hd0 hk;clear ho hk;go_wp2;go_ret;exact⟨_,rfl,HO.out,HK.out⟩
theorem Qd (h:aI w p T tb A M role)(hw:mR T d off){k:Int}{n:Nd}(hg:T.get k=some n):
  Calls prog 205 #[.pointer (some ⟨A k,0,none⟩)] w fun e w'=>e=.returned (kY n.told)/\af w w':=by
 obtain⟨hm,hk⟩:=(ax hw.sorted).1 hg;have c0:w.cell? ⟨A k,0,none⟩=some (.int .i64 n.num):=h.cell hw.sorted hg 0;have c1:w.cell? ⟨A k,1,none⟩=some (.bool n.dir):=h.cell hw.sorted hg 1;have c2:w.cell? ⟨A k,2,none⟩=some (.int .i64 n.links):=h.cell hw.sorted hg 2;have c3:w.cell? ⟨A k,3,none⟩=some (.string ⟨n.data.toArray⟩):=h.cell hw.sorted hg 3;have aM:=am c0;simp only at aM;have HT:=hd0 h;have HW:=hd0 hw;have Hg:=hd0 hg;clear h hw hg hm hk;go_enter func205,ntmps205;go_wp2_with fail
 go_region
 all_goals
  have HX:Hid (World.blk ((w.alloc (.cells #[.int .i64 0,.bool false,.int .i64 0,.string ⟨#[]⟩] 221)).alloc (.cells #[.int .i64 n.num,.bool n.dir,.int .i64 n.links,.string ⟨n.data.toArray⟩] 221)).drew (w.heap.size+1) #[.int .i64 n.num,.bool n.dir,.int .i64 n.links,.string ⟨n.data.toArray⟩] 221):=hd0 (Cf (aY (by simp) _ _));have HZ:Hid (World.blk ((w.alloc (.cells #[.int .i64 0,.bool false,.int .i64 0,.string ⟨#[]⟩] 221)).alloc (.cells #[.int .i64 n.num,.bool n.dir,.int .i64 n.links,.string ⟨n.data.toArray⟩] 221)).drew w.heap.size #[.int .i64 0,.bool false,.int .i64 0,.string ⟨#[]⟩] 221):=hd0 (Cf (aG (aw _ _ _) _));have HK:Hid (af w ((w.alloc (.cells #[.int .i64 0,.bool false,.int .i64 0,.string ⟨#[]⟩] 221)).alloc (.cells #[.int .i64 n.num,.bool n.dir,.int .i64 n.links,.string ⟨n.data.toArray⟩] 221)).drew):=hd0 ((((ah.refl _ w).alloc _).alloc _).drew);generalize ((w.alloc (.cells #[.int .i64 0,.bool false,.int .i64 0,.string ⟨#[]⟩] 221)).alloc (.cells #[.int .i64 n.num,.bool n.dir,.int .i64 n.links,.string ⟨n.data.toArray⟩] 221)).drew=w1 at*;have iD:=hd0 (HT.out.keep HK.out);have d1:w1.cell? ⟨A k,1,none⟩=some (.bool n.dir):=iD.out.cell HW.out.sorted Hg.out 1;obtain⟨N,hN⟩:∃ N,w.heap.size=N:=⟨_,rfl⟩
  rw[hN]at HX HZ aM;rw[hN];have HN:=hd0 hN;clear hN c0 c1 c2 c3;obtain⟨hm,hk⟩:=(ax HW.out.sorted).1 Hg.out;have Hm:=hd0 (And.intro hm hk);clear hm hk
  cases hd:n.dir with
  |false=>
   rw[hd]at d1 HX;have Ht:Hid (n.told=⟨n.num,false,n.links,n.data⟩):=hd0 (by simp[Nd.told,hd]);clear hd;have x0:w1.cell? ⟨N+1,0,none⟩=some (.int .i64 n.num):=aa HX.out 0;have x1:w1.cell? ⟨N+1,1,none⟩=some (.bool false):=aa HX.out 1;have x2:w1.cell? ⟨N+1,2,none⟩=some (.int .i64 n.links):=aa HX.out 2;have x3:w1.cell? ⟨N+1,3,none⟩=some (.string ⟨n.data.toArray⟩):=aa HX.out 3;have y0:w1.frozen? ⟨N,0,none⟩=false:=ae HZ.out _ rfl;have y1:w1.frozen? ⟨N,1,none⟩=false:=ae HZ.out _ rfl;have y2:w1.frozen? ⟨N,2,none⟩=false:=ae HZ.out _ rfl;have y3:w1.frozen? ⟨N,3,none⟩=false:=ae HZ.out _ rfl;have z0:w1.cell? ⟨N,0,none⟩=some (.int .i64 0):=aa HZ.out 0;have z1:w1.cell? ⟨N,1,none⟩=some (.bool false):=aa HZ.out 1;have z2:w1.cell? ⟨N,2,none⟩=some (.int .i64 0):=aa HZ.out 2;have z3:w1.cell? ⟨N,3,none⟩=some (.string ⟨#[]⟩):=aa HZ.out 3;go_wp2_with fail;have hB:=ag (ag (ag (ag HZ.out 0 (.int .i64 n.num)) 1 (.bool false)) 2 (.int .i64 n.links)) 3 (.string ⟨n.data.toArray⟩);have k2:=(((HK.out.setCell (p:=⟨N,0,none⟩) (.inr (by rw[HN.out];exact atL _)) (.int .i64 n.num)).setCell (p:=⟨N,1,none⟩) (.inr (by rw[HN.out];exact atL _)) (.bool false)).setCell (p:=⟨N,2,none⟩) (.inr (by rw[HN.out];exact atL _)) (.int .i64 n.links)).setCell (p:=⟨N,3,none⟩) (.inr (by rw[HN.out];exact atL _)) (.string ⟨n.data.toArray⟩);have bu:=hd0 k2;generalize ((((w1.setCell ⟨N,0,none⟩ (.int .i64 n.num)).setCell ⟨N,1,none⟩ (.bool false)).setCell ⟨N,2,none⟩ (.int .i64 n.links)).setCell ⟨N,3,none⟩ (.string ⟨n.data.toArray⟩))=w2 at*;have q0:w2.cell? ⟨N,0,none⟩=some (.int .i64 n.num):=aa hB 0;have q1:w2.cell? ⟨N,1,none⟩=some (.bool false):=aa hB 1;have q2:w2.cell? ⟨N,2,none⟩=some (.int .i64 n.links):=aa hB 2;have q3:w2.cell? ⟨N,3,none⟩=some (.string ⟨n.data.toArray⟩):=aa hB 3;exact auj (v:=kY ⟨n.num,false,n.links,n.data⟩) (by simp[results,Tryz.results205,go_sem,q0,q1,q2,q3]) rfl ⟨by rw[Ht.out],bu.out⟩
  |true=>
   rw[hd]at d1 HX;have Ht:Hid (n.told=⟨n.num,true,n.links,l6 n.names⟩):=hd0 (by simp[Nd.told,hd]);have Hd:=hd0 hd;clear hd;go_wp2_with fail;refine(Qc iD.out HW.out Hg.out Hd.out).mono ?_;rintro e w2 ⟨lv,rfl,ho,hk⟩;have ly:=hd0 (ab hk HX.out id);have HZ2:=hd0 (ab hk HZ.out id);have mQ:=hd0 (iD.out.keep hk);have rj:=hd0 (oz ho);have bu:=hd0 (HK.out.keep hk);have lD:=hk.size;clear ho hk HX HZ iD HK d1;obtain⟨a,cap,ib⟩:=mB rj.out;rw[kB,aug]at ib;subst ib;have hN1:N+1<w2.heap.size:=ai ly.out;have sC:n.names.length<=60:=(HW.out.names n Hm.out.1).1;have aib:(n.names.length:Int)<=9223372036854775807:=by omega
   go_wp2_with fail
   go_loopw [4,31] (fun v i wr=>∃ j:Nat,j<=n.names.length/\i=.int .i64 (j:Int)/\af w2 wr/\dQ GK 2 351 wr w2.heap.size v (n.names.take j)) (fun _ i _=>n.names.length-(intOf i).toNat)
   case atStart=>exact⟨0,by omega,rfl,ah.refl _ _,rfl,.inl ⟨rfl,rfl⟩⟩
   case round=>
    obtain⟨j,hj,rfl,hK,hV⟩:=hrel;have dT:=hd0 hK;have HV:=hd0 hV;have BH:=hK.size;have Ah:=hd0 (mQ.out.keep hK);clear hK hV;by_cases Bq:j<n.names.length
    ·obtain⟨x,hx⟩:∃ x,n.names[j]?=some x:=⟨_,atI Bq⟩
     have Hx:=hd0 hx;obtain⟨b,o,rfl,NI⟩:=P0 rj.out (j:=j) (x:=.string ⟨x.1.toArray⟩) (by simp[ul,hx]);have cs:wr.cell? ⟨b,o+j,none⟩=some (.string ⟨x.1.toArray⟩):=by rw[dT.out.cell (p:=⟨b,o+j,none⟩) (am NI) id];exact NI
     have c4:wr.cell? ⟨A k,4,none⟩=some (.map (if n.dir=true then some (M k)else none)):=Ah.out.cell HW.out.sorted Hg.out 4;rw[atP Hd.out]at c4;have cm:=Ah.out.names n Hm.out.1 Hd.out;rw[Hm.out.2]at cm;have Rp:x.1.length<=16:=by
      have:=(HW.out.names n Hm.out.1).2 x (atJ hx);simp only[aH,at2,aua]at this;exact this.1.1.2
     have r1:=eZ.look1 cm underlying244 underlying9 underlying3 (DA wr) x.1 (by omega);have SZ:bD x.1 n.names=some x.2:=(cq (HW.out.snames n Hm.out.1)).2 (atJ hx);rw[SZ]at r1;simp only[aun]at r1;obtain⟨v2,w3,hr,ho,dc,gO⟩:=qa (f:=GK) (x:=x) (P:=prog) underlying348 Qa rfl (by decide) Dt w2.heap.size u4 (n.names.take j) wr w2 HV.out (Qb x) (by rw[atO];unfold maxLen;omega) (by rw[atO];omega) BH dT.out (atL _);have Hr:=hd0 hr;have Ho:=hd0 ho;have U4:=hd0 dc;clear hx NI cm SZ hr ho dc gO;go_wp2_with ((at_builtin;refine aA Hr.out rfl rfl rfl rfl ?_));refine⟨⟨j+1,by omega,by go_num,U4.out,by rw[kp Hx.out];exact Ho.out⟩,by simp[intOf];omega⟩
    ·obtain rfl:j=n.names.length:=by omega
     rw[atM]at HV;have Is:=hd0 (cf Dt HV.out);go_wp2_with fail;refine(DJ n.names _ wr Is.out (by omega) (fun q hq=>?_) (HW.out.ents Hm.out.1)).mono ?_
     ·have h1:=(HW.out.names n Hm.out.1).2 q hq;simp only[aH,at2,aua]at h1;obtain⟨_,m,hm,e⟩:=HW.out.closed n Hm.out.1 q hq;have h2:=HW.out.nums m hm;have h3:=h1.1.1.2;omega
     rintro e w4 ⟨rfl,je⟩;have Bp:=hd0 (ab je (ab dT.out ly.out id) id);have Vp:=hd0 (ab je (ab dT.out HZ2.out id) id);have lw:=hd0 ((bu.out.keep dT.out).keep je);clear je ly HZ2 dT HV Is;have x0:w4.cell? ⟨N+1,0,none⟩=some (.int .i64 n.num):=aa Bp.out 0;have x1:w4.cell? ⟨N+1,1,none⟩=some (.bool true):=aa Bp.out 1;have x2:w4.cell? ⟨N+1,2,none⟩=some (.int .i64 n.links):=aa Bp.out 2;have x3:w4.cell? ⟨N+1,3,none⟩=some (.string ⟨n.data.toArray⟩):=aa Bp.out 3;have y0:w4.frozen? ⟨N,0,none⟩=false:=ae Vp.out _ rfl;have y1:w4.frozen? ⟨N,1,none⟩=false:=ae Vp.out _ rfl;have y2:w4.frozen? ⟨N,2,none⟩=false:=ae Vp.out _ rfl;have y3:w4.frozen? ⟨N,3,none⟩=false:=ae Vp.out _ rfl;have y4:w4.frozen? ⟨N+1,3,none⟩=false:=ae Bp.out _ rfl;have z0:w4.cell? ⟨N,0,none⟩=some (.int .i64 0):=aa Vp.out 0;have z1:w4.cell? ⟨N,1,none⟩=some (.bool false):=aa Vp.out 1;have z2:w4.cell? ⟨N,2,none⟩=some (.int .i64 0):=aa Vp.out 2;have z3:w4.cell? ⟨N,3,none⟩=some (.string ⟨#[]⟩):=aa Vp.out 3;go_wp2_with fail;have hB:=ag (ag (ag (ag (bC Vp.out ⟨N+1,3,none⟩ (by simp) (.string ⟨(l6 n.names).toArray⟩)) 0 (.int .i64 n.num)) 1 (.bool true)) 2 (.int .i64 n.links)) 3 (.string ⟨(l6 n.names).toArray⟩);have k2:=((((lw.out.setCell (p:=⟨N+1,3,none⟩) (.inr (by rw[HN.out];simp)) (.string ⟨(l6 n.names).toArray⟩)).setCell (p:=⟨N,0,none⟩) (.inr (by rw[HN.out];exact atL _)) (.int .i64 n.num)).setCell (p:=⟨N,1,none⟩) (.inr (by rw[HN.out];exact atL _)) (.bool true)).setCell (p:=⟨N,2,none⟩) (.inr (by rw[HN.out];exact atL _)) (.int .i64 n.links)).setCell (p:=⟨N,3,none⟩) (.inr (by rw[HN.out];exact atL _)) (.string ⟨(l6 n.names).toArray⟩);have j7:=hd0 k2;generalize (((((w4.setCell ⟨N+1,3,none⟩ (.string ⟨(l6 n.names).toArray⟩)).setCell ⟨N,0,none⟩ (.int .i64 n.num)).setCell ⟨N,1,none⟩ (.bool true)).setCell ⟨N,2,none⟩ (.int .i64 n.links)).setCell ⟨N,3,none⟩ (.string ⟨(l6 n.names).toArray⟩))=w5 at*;have q0:w5.cell? ⟨N,0,none⟩=some (.int .i64 n.num):=aa hB 0;have q1:w5.cell? ⟨N,1,none⟩=some (.bool true):=aa hB 1;have q2:w5.cell? ⟨N,2,none⟩=some (.int .i64 n.links):=aa hB 2;have q3:w5.cell? ⟨N,3,none⟩=some (.string ⟨(l6 n.names).toArray⟩):=aa hB 3;exact auj (v:=kY ⟨n.num,true,n.links,l6 n.names⟩) (by simp[results,Tryz.results205,go_sem,q0,q1,q2,q3]) rfl ⟨by rw[Ht.out],j7.out⟩
end
end
section
open Go.RowKit
theorem LL:(prog.info? 221).map (fun i=>(i.zero,i.size,i.bytes))=some (some (.agg #[.int .i64 0,.bool false,.int .i64 0,.string ⟨#[]⟩]),4,40):=by kernel_rfl
theorem LM:∀ p,∀ u∈gx p,u.oneCell'=true:=by
 intro p u hu;simp only[gx,at9,List.not_mem_nil,or_false]at hu;rcases hu with rfl|rfl|rfl|rfl<;>rfl
section
variable {w:World}{p tb:Nat}{T:Tr}{A M:Int->Nat}{role:Nat->cU}{d:Int->Nat}{off:Int->Int}
theorem sU (h:aI w p T tb A M role)(hw:mR T d off):
  Calls prog 125 #[.pointer (some ⟨p,0,none⟩)] w fun e w'=>∃ v,e=.returned v/\dQ gx 4 221 w' w.heap.size v (ar T)/\af w w':=by
 have c0:w.cell? ⟨p,0,none⟩=some (.map (some tb)):=aa h.tree 0;have HT:=hd0 h;have HW:=hd0 hw;clear h hw;go_enter func125,ntmps125;go_wp2_with fail;refine(LK _ _).mono ?_;rintro e w1 ⟨rfl,rfl⟩;go_wp2_with fail;have dy:(cg T A).map (·.1)=T.map (·.num):=by simp[cg]
 have sC:=HW.out.many;refine(DG tb (cg T A) w HT.out.of (by rw[dy];exact qz.1 HW.out.sorted) (by simp[cg];omega)).mono ?_;rintro e w1 ⟨lv,rfl,ho,hk⟩;rw[dy]at ho;have HR:=hd0 (aZ ho);have HK:=hd0 hk;have cA:=hk.size;have iD:=hd0 (HT.out.keep hk);obtain⟨a,cap,ib⟩:=mB HR.out;rw[fL,aug]at ib;subst ib;have aib:(T.length:Int)<=9223372036854775807:=by omega
 clear ho hk dy c0;go_wp2_with fail
 go_loopw [3,13] (fun v i wr=>∃ j:Nat,j<=T.length/\i=.int .i64 (j:Int)/\af w1 wr/\dQ gx 4 221 wr w1.heap.size v (ar (T.take j))) (fun _ i _=>T.length-(intOf i).toNat)
 case atStart=>exact⟨0,by omega,rfl,ah.refl _ _,rfl,.inl ⟨rfl,rfl⟩⟩
 case round=>
  obtain⟨j,hj,rfl,hK,hV⟩:=hrel;have dT:=hd0 hK;have HV:=hd0 hV;have BH:=hK.size;have Ah:=hd0 (iD.out.keep hK);clear hK hV;by_cases Bq:j<T.length
  ·obtain⟨x,hx⟩:∃ x,T[j]?=some x:=⟨_,atI Bq⟩
   have Hx:=hd0 hx;obtain⟨b,o,rfl,NI⟩:=P0 HR.out (j:=j) (x:=.int .i64 x.num) (by simp[bi,hx]);have cs:wr.cell? ⟨b,o+j,none⟩=some (.int .i64 x.num):=by rw[dT.out.cell (p:=⟨b,o+j,none⟩) (am NI) id];exact NI
   have c0:wr.cell? ⟨p,0,none⟩=some (.map (some tb)):=aa Ah.out.tree 0;have hg:T.get x.num=some x:=(ax HW.out.sorted).2 ⟨atJ hx,rfl⟩;have hb:=HW.out.nums x (atJ hx);have r1:=Ah.out.look1 HW.out.sorted hg (by omega);have Hg:=hd0 hg;clear hx NI hg hb;go_wp2_with fail;refine(Qd Ah.out HW.out Hg.out).mono ?_;rintro e w4 ⟨rfl,je⟩;have hs4:=je.size;obtain⟨v2,w3,hr,ho,dc,gO⟩:=qa (f:=gx) (x:=x.told) (P:=prog) underlying97 LL rfl (by decide) fP w1.heap.size u3 (ar (T.take j)) w4 w1 (gZ HV.out je) (LM x.told) (by simp[ar];unfold maxLen;omega) (by simp[ar];omega) (by omega) (dT.out.keep je) (atL _);have Hr:=hd0 hr;have Ho:=hd0 ho;have U4:=hd0 dc;clear hr ho dc gO je r1 cs c0;go_wp2_with ((at_builtin;refine aA Hr.out rfl rfl rfl rfl ?_));refine⟨⟨j+1,by omega,by go_num,U4.out,by rw[kp Hx.out];simp only[ar,List.map_append,atF,List.map_nil];exact Ho.out⟩,by simp[intOf];omega⟩
  ·obtain rfl:j=T.length:=by omega
   rw[atM]at HV;go_wp2;go_ret;exact⟨_,rfl,eL HV.out cA,HK.out.keep dT.out⟩
end
end
section
open Go.RowKit
theorem iw {P:Program}{w w':World}{aC:Array Oper}{rest:List Oper}{o:Oper}{a:Act}{Q:Exit->Act->World->Prop}{m x v:Operand}{t:TypeId}{mv xv vv:Value}
  (bh:(Instr.mapUpdate t mv xv vv).run P w=.ok () w') (Cc:o.guard=none) (ho:o.op=Op.mapUpdate t m x v) (hm:a.eval m=mv) (hx:a.eval x=xv) (hv:a.eval v=vv)
  (h:wpList P aC Q rest (a.put o.dst undef) w'):wpList P aC Q (o::rest) a w:=by
 refine wpList_plain Cc fun K' hK'=>?_;unfold Oper.wp;simp[execOp,ho,hm,hx,hv,bh,Result.andThen];exact hK' _ _ h
theorem lO {P:Program}{w w':World}{aC:Array Oper}{rest:List Oper}{o:Oper}{a:Act}{Q:Exit->Act->World->Prop}{m x:Operand}{t k:TypeId}{mv xv:Value}
  (bh:(Builtin.delete_ #[t,k] o.type #[mv,xv]).run P w=.ok (.tuple #[]) w') (Cc:o.guard=none) (ho:o.op=Op.call { callee:=Callee.builtin Builtin.delete,args:=#[m,x],argTypes:=#[t,k] }) (hm:a.eval m=mv) (hx:a.eval x=xv)
  (h:wpList P aC Q rest (a.put o.dst (.tuple #[])) w'):wpList P aC Q (o::rest) a w:=by
 refine wpList_plain Cc fun K' hK'=>?_;unfold Oper.wp;simp[execOp,ho,resolve,invoke,builtin,hm,hx,bh,Result.andThen];exact hK' _ _ h
theorem eZ.made' {P:Program}{tk te:TypeId}{b:Nat}{w:World}(h:b=w.heap.size)(_u:Unit):eZ P tk te (w.alloc (.map #[] 0)) b []:=h▸eZ.made w
theorem jI {P:Program}{tm tk te:TypeId}{w:World}{b:Nat}{l:Nm}{aC:Array Oper}{rest:List Oper}{o:Oper}{a:Act}{Q:Exit->Act->World->Prop}{m x:Operand}(cm:eZ P tk te w b l)(ht:P.underlying tm=some (.map tk te))(hk:P.underlying tk=some .string)(s:List UInt8)(hs:s.length<=140737488355328)
  (Cc:o.guard=none) (ho:o.op=Op.call { callee:=Callee.builtin Builtin.delete,args:=#[m,x],argTypes:=#[tm,tk] }) (hm:a.eval m=.map (some b)) (hx:a.eval x=.string ⟨s.toArray⟩)
  (h:∀ w',eZ P tk te w' b (fZ s l)->ah (·=b) w w'->wpList P aC Q rest (a.put o.dst (.tuple #[])) w'):wpList P aC Q (o::rest) a w:=by
 obtain⟨w',bh,h1,h2⟩:=eZ.drop cm ht hk s hs o.type;exact lO bh Cc ho hm hx (h w' h1 h2)
theorem un {P:Program}{tm tk te:TypeId}{w:World}{b:Nat}{l:List (Int×Nat)}{aC:Array Oper}{rest:List Oper}{o:Oper}{a:Act}{Q:Exit->Act->World->Prop}{m x:Operand}(cm:dC P tk w b l)(ht:P.underlying tm=some (.map tk te))(hk:P.underlying tk=some (.int .i64))(k:Int)(rZ:-9223372036854775808<=k/\k<=9223372036854775807)
  (Cc:o.guard=none) (ho:o.op=Op.call { callee:=Callee.builtin Builtin.delete,args:=#[m,x],argTypes:=#[tm,tk] }) (hm:a.eval m=.map (some b)) (hx:a.eval x=.int .i64 k)
  (h:∀ w',dC P tk w' b (fZ k l)->ah (·=b) w w'->wpList P aC Q rest (a.put o.dst (.tuple #[])) w'):wpList P aC Q (o::rest) a w:=by
 obtain⟨w',bh,h1,h2⟩:=dC.drop cm ht hk k rZ o.type;exact lO bh Cc ho hm hx (h w' h1 h2)
theorem kZ {P:Program}{tm tk te:TypeId}{w:World}{b:Nat}{l:Nm}{aC:Array Oper}{rest:List Oper}{o:Oper}{a:Act}{Q:Exit->Act->World->Prop}{m x v:Operand}(cm:eZ P tk te w b l)(ht:P.underlying tm=some (.map tk te))(hk:P.underlying tk=some .string)(he:P.underlying te=some (.int .i64))(s:List UInt8)(hs:s.length<=140737488355328)(k:Int)(rZ:-9223372036854775808<=k/\k<=9223372036854775807)(hl:l.length<140737488355328)
  (Cc:o.guard=none) (ho:o.op=Op.mapUpdate tm m x v) (hm:a.eval m=.map (some b)) (hx:a.eval x=.string ⟨s.toArray⟩) (hv:a.eval v=.int .i64 k)
  (h:∀ w',eZ P tk te w' b (ee bytesBefore s k l)->ah (·=b) w w'->wpList P aC Q rest (a.put o.dst undef) w'):wpList P aC Q (o::rest) a w:=by
 obtain⟨w',bh,h1,h2⟩:=eZ.store cm ht hk he s hs k rZ hl;exact iw bh Cc ho hm hx hv (h w' h1 h2)
theorem iy {P:Program}{tm tk te:TypeId}{w:World}{b:Nat}{l:List (Int×Nat)}{aC:Array Oper}{rest:List Oper}{o:Oper}{a:Act}{Q:Exit->Act->World->Prop}{m x v:Operand}(cm:dC P tk w b l)(ht:P.underlying tm=some (.map tk te))(hk:P.underlying tk=some (.int .i64))(k:Int)(rZ:-9223372036854775808<=k/\k<=9223372036854775807)(n:Nat)(hl:l.length<140737488355328)
  (Cc:o.guard=none) (ho:o.op=Op.mapUpdate tm m x v) (hm:a.eval m=.map (some b)) (hx:a.eval x=.int .i64 k) (hv:a.eval v=.pointer (some ⟨n,0,none⟩))
  (h:∀ w',dC P tk w' b (ee (fun a b=>decide (a<b)) k n l)->ah (·=b) w w'->wpList P aC Q rest (a.put o.dst undef) w'):wpList P aC Q (o::rest) a w:=by
 obtain⟨w',bh,h1,h2⟩:=dC.store cm ht hk k rZ n hl;exact iw bh Cc ho hm hx hv (h w' h1 h2)
section
variable {w w':World}{p tb:Nat}{T:Tr}{A M:Int->Nat}{role:Nat->cU}{d:Int->Nat}{off:Int->Int}
theorem Uj {w:World}(h:aI w p T tb A M role){k:Int}{n:Nd}(hg:n∈T)(hk:n.num=k)(hd:n.dir=true):p≠M k/\tb≠M k/\(∀ m∈T,A m.num≠M k)/\(∀ m∈T,m.dir=true->m.num≠k->M m.num≠M k):=by
 have hr:=h.rnames n hg hd;rw[hk]at hr;refine⟨fun e=>?_,fun e=>?_,fun m hm e=>?_,fun m hm nY nV e=>?_⟩
 ·rw[<-e,h.rtree]at hr;cases hr
 ·rw[<-e,h.rof]at hr;cases hr
 ·rw[<-e,h.rnode m hm]at hr;cases hr
 ·rw[<-e,h.rnames m hm nY]at hr;injection hr with e1;exact nV e1
theorem gK (h:aI w p T tb A M role)(hs:dd T){k:Int}{n:Nd}{f:Nm->Nm}(hg:T.get k=some n)(hd:n.dir=true)(m:ah (·=M k) w w')(hn:GN w' (M k) (f n.names)):aI w' p (T.named k f) tb A M role:=by
 obtain⟨hm,hk⟩:=(ax hs).1 hg;obtain⟨n1,n2,n3,n4⟩:=Uj h hm hk hd;have eR:∀ x∈T.named k f,∃ y∈T,y.num=x.num/\y.dir=x.dir/\(∀ a,jG x a=jG y a)/\((y.num≠k/\x.names=y.names)\/(y=n/\x.names=f n.names)):=by
  intro x hx;obtain⟨y,hy,rfl⟩:=uI.1 hx;refine⟨y,hy,?_⟩;by_cases e:y.num=k
  ·rw[atP (auq.2 e)];have e2:=lL hs hy hm (by omega);exact⟨rfl,rfl,fun _=>rfl,.inr ⟨e2,by rw[<-e2]⟩⟩
  ·rw[atR (by simpa using e)];exact⟨rfl,rfl,fun _=>rfl,.inl ⟨e,rfl⟩⟩
 refine⟨ab m h.tree n1,h.rtree,?_,h.rof,?_,?_,?_,?_,fun b hb=>atS (h.lt b hb) m.size⟩
 ·have e:cg (T.named k f) A=cg T A:=by
   have e1:(T.named k f).map (·.num)=T.map (·.num):=oJ (f:=fun n=>{ n with names:=f n.names }) fun _=>rfl;have e2:∀ L:Tr,cg L A=(L.map (·.num)).map fun i=>(i,A i):=fun L=>by simp[cg]
   rw[e2,e2,e1]
  rw[e];exact h.of.mod m n2
 ·intro x hx;obtain⟨y,hy,e1,e2,e3,_⟩:=eR x hx;rw[e3,<-e1];exact ab m (h.node y hy) (n3 y hy)
 ·intro x hx;obtain⟨y,hy,e1,_⟩:=eR x hx;rw[<-e1];exact h.rnode y hy
 ·intro x hx mT;obtain⟨y,hy,e1,e2,e3,⟨e4,e5⟩|⟨e4,e5⟩⟩:=eR x hx
  ·rw[e5,<-e1];exact(h.names y hy (e2.trans mT)).mod m (n4 y hy (e2.trans mT) e4)
  ·rw[e5,<-e1,e4,hk];exact hn
 ·intro x hx mT;obtain⟨y,hy,e1,e2,_⟩:=eR x hx;rw[<-e1];exact h.rnames y hy (e2.trans mT)
theorem Qe {w:World}(h:aI w p T tb A M role){k:Int}{n:Nd}(hg:n∈T)(hk:n.num=k):p≠A k/\tb≠A k/\(∀ m∈T,m.num≠k->A m.num≠A k)/\(∀ m∈T,m.dir=true->M m.num≠A k):=by
 have hr:=h.rnode n hg;rw[hk]at hr;refine⟨fun e=>?_,fun e=>?_,fun m hm nV e=>?_,fun m hm nY e=>?_⟩
 ·rw[<-e,h.rtree]at hr;cases hr
 ·rw[<-e,h.rof]at hr;cases hr
 ·rw[<-e,h.rnode m hm]at hr;injection hr with e1;exact nV e1
 ·rw[<-e,h.rnames m hm nY]at hr;cases hr
theorem mC (h:aI w p T tb A M role)(hs:dd T){k:Int}{n:Nd}{f:Nd->Nd}(hf:∀ n,(f n).num=n.num/\(f n).dir=n.dir/\(f n).names=n.names)(hg:T.get k=some n)(m:ah (·=A k) w w')
  (hn:World.blk w' (A k) (jG (f n) (M k)) 246):aI w' p (T.upd k f) tb A M role:=by
 obtain⟨hm,hk⟩:=(ax hs).1 hg;obtain⟨n1,n2,n3,n4⟩:=Qe h hm hk;have eR:∀ x∈T.upd k f,∃ y∈T,y.num=x.num/\y.dir=x.dir/\x.names=y.names/\((y.num≠k/\x=y)\/(y=n/\x=f n)):=by
  intro x hx;obtain⟨y,hy,rfl⟩:=uI.1 hx;refine⟨y,hy,?_⟩;by_cases e:y.num=k
  ·rw[atP (auq.2 e)];have e2:=lL hs hy hm (by omega);exact⟨(hf y).1.symm,(hf y).2.1.symm,(hf y).2.2,.inr ⟨e2,by rw[e2]⟩⟩
  ·rw[atR (by simpa using e)];exact⟨rfl,rfl,rfl,.inl ⟨e,rfl⟩⟩
 refine⟨ab m h.tree n1,h.rtree,?_,h.rof,?_,?_,?_,?_,fun b hb=>atS (h.lt b hb) m.size⟩
 ·have e:cg (T.upd k f) A=cg T A:=by
   have e1:(T.upd k f).map (·.num)=T.map (·.num):=oJ fun n=>(hf n).1;have e2:∀ L:Tr,cg L A=(L.map (·.num)).map fun i=>(i,A i):=fun L=>by simp[cg]
   rw[e2,e2,e1]
  rw[e];exact h.of.mod m n2
 ·intro x hx;obtain⟨y,hy,e1,e2,e3,⟨e4,e5⟩|⟨e4,e5⟩⟩:=eR x hx
  ·rw[e5];exact ab m (h.node y hy) (n3 y hy e4)
  ·rw[e5,(hf n).1,hk];exact hn
 ·intro x hx;obtain⟨y,hy,e1,_⟩:=eR x hx;rw[<-e1];exact h.rnode y hy
 ·intro x hx mT;obtain⟨y,hy,e1,e2,e3,_⟩:=eR x hx;rw[e3,<-e1];exact(h.names y hy (e2.trans mT)).mod m (n4 y hy (e2.trans mT))
 ·intro x hx mT;obtain⟨y,hy,e1,e2,_⟩:=eR x hx;rw[<-e1];exact h.rnames y hy (e2.trans mT)
theorem LN {n0:Nd}{a:Nat}(hn:∀ m∈T,m.num≠n0.num):cg (Tr.add n0 T) (fun k=>if k=n0.num then a else A k)=ee (fun a b=>decide (a<b)) n0.num a (cg T A):=by
 have e1:∀ L:Tr,(∀ m∈L,m.num≠n0.num)->cg L (fun k=>if k=n0.num then a else A k)=cg L A:=fun L hL=>by
  unfold cg;exact aud fun m hm=>by show(m.num,if m.num=n0.num then a else A m.num)=_;rw[atR (hL m hm)]
 have e2:fZ n0.num (cg T A)=cg T A:=List.filter_eq_self.2 fun q hq=>by
  obtain⟨m,hm,rfl⟩:=aui.1 hq;rw[au2 (hn m hm)];rfl
 unfold ee;rw[e2];clear e2
 induction T with
 |nil=>simp[Tr.add,cg,jB]
 |cons y r ih=>
  have hr:∀ m∈r,m.num≠n0.num:=fun m hm=>hn m (by simp[hm]);have hy:cg (y::r) A=(y.num,A y.num)::cg r A:=rfl;rw[hy];unfold Tr.add jB;by_cases h:n0.num<y.num
  ·rw[atP h,atP (by simpa using h),<-hy,<-e1 _ hn];show(n0.num,if n0.num=n0.num then a else A n0.num)::_=_;rw[atP rfl];rfl
  ·rw[atR h,atR (by simpa using h),<-ih hr];show(y.num,if y.num=n0.num then a else A y.num)::_=_;rw[atR (hn y (by simp))];rfl
theorem GQ {j:Int}:cg (T.drop j) A=fZ j (cg T A):=by
 unfold cg Tr.drop fZ;rw[List.filter_map];rfl
theorem rI (h:aI w p T tb A M role){n0:Nd}{a m:Nat}(hn:∀ x∈T,x.num≠n0.num)(de:ah (·=tb) w w')(ha:w.heap.size<=a)(hm:w.heap.size<=m)(ham:a≠m)(ha2:a<w'.heap.size)(gO:n0.dir=true->m<w'.heap.size)
  (JU:LH w' tb (ee (fun a b=>decide (a<b)) n0.num a (cg T A))) (nZ:World.blk w' a (jG n0 m) 246) (aax:n0.dir=true->GN w' m n0.names):
  aI w' p (Tr.add n0 T) tb (fun k=>if k=n0.num then a else A k) (fun k=>if k=n0.num then m else M k) (fun b=>if b=a then .node n0.num else if b=m/\n0.dir=true then .names n0.num else role b):=by
 have old:∀ b,role b≠.none->(if b=a then cU.node n0.num else if b=m/\n0.dir=true then .names n0.num else role b)=role b:=fun b hb=>by
  have:=h.lt b hb;rw[atR (by omega),atR (fun e=>by omega)]
 have hp:role p≠.none:=by rw[h.rtree];exact cU.noConfusion
 have ht:role tb≠.none:=by rw[h.rof];exact cU.noConfusion
 have Oi:p≠tb:=fun e=>by have:=h.rtree;rw[e,h.rof]at this;cases this
 refine⟨ab de h.tree Oi,by rw[old p hp];exact h.rtree,by rw[LN hn];exact JU,by rw[old tb ht];exact h.rof,?_,?_,?_,?_,?_⟩
 ·intro x hx;rcases df.1 hx with rfl|hx
  ·rw[atP rfl,atP rfl];exact nZ
  ·rw[atR (hn x hx),atR (hn x hx)];exact ab de (h.node x hx) (fun e=>by have:=h.rnode x hx;rw[e,h.rof]at this;cases this)
 ·intro x hx;rcases df.1 hx with rfl|hx
  ·rw[atP rfl,atP rfl]
  ·rw[atR (hn x hx)];show(if A x.num=a then _ else _)=_;rw[old _ (by rw[h.rnode x hx];exact cU.noConfusion)];exact h.rnode x hx
 ·intro x hx mT;rcases df.1 hx with rfl|hx
  ·rw[atP rfl];exact aax mT
  ·rw[atR (hn x hx)];exact(h.names x hx mT).mod de (fun e=>by have:=h.rnames x hx mT;rw[e,h.rof]at this;cases this)
 ·intro x hx mT;rcases df.1 hx with rfl|hx
  ·rw[atP rfl,atR (fun e=>ham e.symm),atP ⟨rfl,mT⟩]
  ·rw[atR (hn x hx)];show(if M x.num=a then _ else _)=_;rw[old _ (by rw[h.rnames x hx mT];exact cU.noConfusion)];exact h.rnames x hx mT
 ·intro b hb;by_cases e:b=a
  ·rw[e];exact ha2
  ·by_cases e2:b=m/\n0.dir=true
   ·rw[e2.1];exact gO e2.2
   ·rw[atR e,atR e2]at hb;exact atS (h.lt b hb) de.size
theorem LP (h:aI w p T tb A M role){j:Int}(de:ah (·=tb) w w')(JU:LH w' tb (fZ j (cg T A))):aI w' p (T.drop j) tb A M role:=by
 have Oi:p≠tb:=fun e=>by have:=h.rtree;rw[e,h.rof]at this;cases this
 refine⟨ab de h.tree Oi,h.rtree,by rw[GQ];exact JU,h.rof,?_,fun x hx=>h.rnode x (cQ.1 hx).1,?_,fun x hx=>h.rnames x (cQ.1 hx).1,fun b hb=>atS (h.lt b hb) de.size⟩
 ·intro x hx;have hx:=(cQ.1 hx).1;exact ab de (h.node x hx) (fun e=>by have:=h.rnode x hx;rw[e,h.rof]at this;cases this)
 ·intro x hx mT;have hx:=(cQ.1 hx).1;exact(h.names x hx mT).mod de (fun e=>by have:=h.rnames x hx mT;rw[e,h.rof]at this;cases this)
end
def bH (w w':World)(p tb:Nat)(role:Nat->cU)(T':Tr):Prop:=
 ∃ A' M' jP,aI w' p T' tb A' M' jP/\(∀ b,jP b≠.none->role b≠.none\/w.heap.size<=b)/\ah (fun b=>role b≠.none) w w'
theorem bH.same {w w':World}{p tb:Nat}{T:Tr}{A M:Int->Nat}{role:Nat->cU}(h:aI w p T tb A M role)(k:af w w'):bH w w' p tb role T:=
 ⟨A,M,role,h.keep k,fun _ hb=>.inl hb,k.mono (fun _ _ h=>h.elim)⟩
end
end Go.Proofs.YtkghpdcloaiflaaGreatDoor
