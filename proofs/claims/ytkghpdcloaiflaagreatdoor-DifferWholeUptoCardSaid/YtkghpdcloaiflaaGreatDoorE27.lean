import Derived.Test.YtkghpdcloaiflaaGreatDoorE20
import Derived.Test.YtkghpdcloaiflaaGreatDoorE26
set_option maxHeartbeats 8000000
set_option maxRecDepth 100000
namespace Go.Proofs.YtkghpdcloaiflaaGreatDoor
open _root_.Go.Proofs.Tryz
section
section
open Go.RowKit Go.Maps Go.Shelf
theorem YV {l:List (Int×Nat)}{x:Int}{c:Option Addr}{yd:DataW Value}{yp:List MemPlace}(hv:jr (.pointer c)=some (yd,yp))(ni:∀ zd,(Om l).atKey (.int .i64 x) zd=yd):∃ a,bF x l=some a/\c=some ⟨a,0,none⟩:=by
 have e:DataW.held (.pointer c)=yd:=by
  unfold jr at hv;injection hv with h;injection h
 subst e;have h1:=(kL (ef:=yF) cN x l (oN 0)).symm.trans (ni (oN 0))
 cases hg:bF x l with
 |none=>rw[hg]at h1;cases h1
 |some a=>
  rw[hg]at h1;refine⟨a,rfl,?_⟩;simp[yF]at h1;exact h1.symm
theorem UV (v:Value)(y:DataW Value×List MemPlace)(h:jr v=some y):∃ c,v=Value.pointer c:=by
 cases v<;>simp[jr]at h
 exact⟨_,rfl⟩
theorem UW (key:Value)(kl:Lit)(h:keyOf prog 3 key=some kl):∃ x,key=Value.int .i64 x:=by
 obtain⟨x,hx,_⟩:=Maps.keyOf_int_inv underlying3 h;exact⟨x,hx⟩
theorem Mr {w:World}{p tb:Nat}(h1:World.blk w p #[.map (some tb)] 249)(h2:Mj w tb [])(h3:p≠tb):aI w p [] tb (fun _=>0) (fun _=>0) (fun b=>if b=p then .tree else if b=tb then .of else .none) where
 tree:=h1
 rtree:=auI rfl
 of:=h2
 rof:=by rw[auK (Ne.symm h3),auI rfl]
 node n hn:=by cases hn
 rnode n hn:=by cases hn
 names n hn:=by cases hn
 rnames n hn:=by cases hn
 lt b hb:=by
  by_cases e:b=p
  ·rw[e];exact ai h1
  ·by_cases e2:b=tb
   ·rw[e2];exact h2.lt
   ·rw[auK e,auK e2]at hb;exact absurd rfl hb
theorem Ii (b:Nat)(l:Nm)(w:World)(h:Ic w b l):Calls prog 191 #[.map (some b)] w fun e w'=>e=.returned (.map (some w.heap.size))/\Ic w' w.heap.size l/\af w w':=by
 refine(AnyW.maps_Clone_owns Tryz.cloneN 9 (plainElem prog 3) b l.length (Ol l) w h).mono ?_;rintro e w' ⟨rfl,h1,_,h3⟩;exact⟨rfl,h1,ah.ofBelow h3⟩
theorem Ij (w:World):Calls prog 191 #[.map none] w fun e w'=>e=.returned (.map none)/\w'=w:=
 AnyW.maps_Clone_nil Tryz.cloneN w
def gw (T:Tr)(left:Lit->Bool):Tr:=T.filter fun n=>!left (.int .i64 n.num)
theorem UY {T:Tr}{left:Lit->Bool}(h:∀ l,left l=false):gw T left=T:=List.filter_eq_self.2 fun n _=>by rw[h];rfl
theorem QE {T:Tr}{left:Lit->Bool}(h:∀ n∈T,left (.int .i64 n.num)=true):gw T left=[]:=List.filter_eq_nil_iff.2 fun n hn=>by rw[h n hn];simp
theorem Bo {T:Tr}{left:Lit->Bool}{n:Nd}:n∈gw T left↔n∈T/\left (.int .i64 n.num)=false:=by simp[gw]
theorem El {T:Tr}{left:Lit->Bool}{x:Int}{n:Nd}(hs:df T)(hn:n∈T)(hx:n.num=x)(hl:left (.int .i64 x)=true):Tr.add n (gw T left)=gw T (fun z=>left z&&!z.sameKey (.int .i64 x)):=by
 subst hx
 induction T with
 |nil=>cases hn
 |cons y r ih=>
  obtain⟨h1,h2⟩:=avF.1 hs;rcases auX.1 hn with rfl|hm
  ·have e1:gw (n::r) left=gw r left:=by
    unfold gw;rw[avN,auK (by rw[hl];simp)]
   have e2:gw (n::r) (fun z=>left z&&!z.sameKey (.int .i64 n.num))=n::gw r left:=by
    unfold gw;rw[avN,auI (by simp[cN])]
    congr 1
    refine List.filter_congr fun m hm=>?_;have:=h1 m hm;simp only[cN,avR (show m.num≠n.num by omega)];simp
   rw[e1,e2]
   cases hq:gw r left with
   |nil=>rfl
   |cons z q=>
    have hz:z∈gw r left:=by rw[hq];simp
    have:=h1 z (Bo.1 hz).1;show(if n.num<z.num then _ else _)=_;rw[auI this]
  ·have h3:=h1 n hm;have e:(Lit.int .i64 y.num).sameKey (.int .i64 n.num)=false:=by rw[cN];exact avR (by omega)
   by_cases hy:left (.int .i64 y.num)=true
   ·have e1:gw (y::r) left=gw r left:=by
     unfold gw;rw[avN,auK (by rw[hy];simp)]
    have e2:gw (y::r) (fun z=>left z&&!z.sameKey (.int .i64 n.num))=gw r (fun z=>left z&&!z.sameKey (.int .i64 n.num)):=by
     unfold gw;rw[avN,auK (by simp[hy,e])]
    rw[e1,e2];exact ih h2 hm
   ·have hy':left (.int .i64 y.num)=false:=by simpa using hy
    have e1:gw (y::r) left=y::gw r left:=by
     unfold gw;rw[avN,auI (by rw[hy'];simp)]
    have e2:gw (y::r) (fun z=>left z&&!z.sameKey (.int .i64 n.num))=y::gw r (fun z=>left z&&!z.sameKey (.int .i64 n.num)):=by
     unfold gw;rw[avN,auI (by simp[hy'])]
    rw[e1,e2];show(if n.num<y.num then _ else _)=_;rw[auK (by omega),ih h2 hm]
section
variable {T:Tr}{d:Int->Nat}{p tb:Nat}{A M:Int->Nat}{role:Nat->cT}{w:World}
def Ms (w:World)(T:Tr)(e:Ending)(w':World):Prop:=
 ∃ p tb A M role,e=.returned (.pointer (some ⟨p,0,none⟩))/\aI w' p T tb A M role/\(∀ b,role b≠.none->w.heap.size<=b)/\af w w'
theorem Mt (h:aI w p T tb A M role)(hw:WF T d):Calls prog 117 #[.pointer (some ⟨p,0,none⟩)] w (Ms w T):=by
 have HW:=hd0 hw;have Ju:=@run_makeMap prog;have sW:=hw.many;have lF:Hid (aI ((w.alloc (.map #[] 0)).alloc (.cells #[.map (some w.heap.size)] 249)) (w.heap.size+1) [] w.heap.size (fun _=>0) (fun _=>0) (fun b=>if b=w.heap.size+1 then .tree else if b=w.heap.size then .of else .none)):=hd0 (Mr (ba (by simp) _ _) ((dG.made w).mod ((ah.refl (fun _=>False) _).alloc _) id) (by omega));have dO:Hid (af w ((w.alloc (.map #[] 0)).alloc (.cells #[.map (some w.heap.size)] 249))):=hd0 (((ah.refl _ w).alloc _).alloc _);have zl:((w.alloc (.map #[] 0)).alloc (.cells #[.map (some w.heap.size)] 249)).heap.size=w.heap.size+2:=by simp
 have HT:Hid (aI w p T tb A M role):=hd0 h;have yw:=h.of.lt;clear hw h;go_enter func117,ntmps117;have c0:((w.alloc (.map #[] 0)).alloc (.cells #[.map (some w.heap.size)] 249)).cell? ⟨p,0,none⟩=some (.map (some tb)):=aa (HT.out.keep dO.out).tree 0;go_wp2_with (at_range;refine wpList_range_own _ rfl _ 247 rfl 3 243 (int_keyed underlying3) underlying247 _ tb (cm T A).length (Om (cm T A)) rfl ((HT.out.keep dO.out).of) ?_;intro w7 Fp XK SR)
 try go_frame
 have BW:=hd0 Fp;have HKg:Hid (af ((w.alloc (.map #[] 0)).alloc (.cells #[.map (some w.heap.size)] 249)) w7):=hd0 (qI XK);rw[zl]at SR;rw[zl]at BW;have HT7:=hd0 (lF.out.keep HKg.out);have yR:=hd0 (dO.out.keep HKg.out);clear Fp XK c0 lF dO HKg zl
 go_loopw [15] (fun _ wr=>∃(left:Lit->Bool) (j8:Nat) (A' M':Int->Nat) (j4:Nat->cT),World.ranges wr prog 3 jr tb (w.heap.size+2) (cm T A).length (Om (cm T A)) left j8/\af w wr/\aI wr (w.heap.size+1) (gw T left) w.heap.size A' M' j4/\Hid (∀ b,j4 b≠.none->w.heap.size<=b/\b≠w.heap.size+2)/\w.heap.size+3<=wr.heap.size) (fun _ wr=>wr.rangeLeft tb (w.heap.size+2))
 case atStart=>
  have lH:gw T (has (Om (cm T A)))=[]:=QE fun n hn=>by
   rw[pM cN,pY,(ax HW.out.sorted).2 ⟨hn,rfl⟩];rfl
  refine⟨_,_,fun _=>0,fun _=>0,fun b=>if b=w.heap.size+1 then cT.tree else if b=w.heap.size then cT.of else cT.none,BW.out,yR.out,by rw[lH];exact HT7.out,hd0 fun b hb=>?_,by omega⟩;by_cases e:b=w.heap.size+1
  ·omega
  ·by_cases e2:b=w.heap.size
   ·omega
   ·simp only[auK e,auK e2]at hb;exact absurd rfl hb
 case round=>
  clear BW yR HT7;obtain⟨left,cn,A',M',j4,TH,hK,hT',Hq,cK⟩:=hrel;have IV:=hd0 TH;have HK:=hd0 hK;have HT':=hd0 hT';clear TH hK hT';go_wp2_with (at_next;refine wpList_next_ranges wr rfl _ rfl 3 (int_keyed underlying3) jr (Value.int .i64) Value.pointer UW UV tb (w.heap.size+2) _ (Om (cm T A)) left cn rfl IV.out ?_ ?_)
  ·intro _ tY;have HTe:Hid (aI wr (w.heap.size+1) T w.heap.size A' M' j4):=hd0 (by have:=HT'.out;rw[UY tY]at this;exact this);clear tY;go_wp2;go_ret;exact⟨w.heap.size+1,w.heap.size,A',M',j4,rfl,HTe.out,fun b hb=>(Hq.out b hb).1,HK.out⟩
  ·intro x c kl yd yp w' sU IR AI hv ni Fb aL hg1 sQ hen;obtain⟨x',ex,rfl,_⟩:=Maps.keyOf_int_inv underlying3 IR
   cases ex
   obtain⟨a,hga,rfl⟩:=YV hv ni;rw[pY]at hga
   cases hgn:T.get x with
   |none=>rw[hgn]at hga;cases hga
   |some n=>
    rw[hgn]at hga;obtain⟨nZ,pH⟩:=(ax HW.out.sorted).1 hgn;have ha:A x=a:=by
     have:A n.num=a:=avG hga;rw[pH]at this;exact this
    subst ha;have Xm:Hid (af w w'):=hd0 (HK.out.grown hg1 (fun i e=>.inr (by injection e with e;omega)));have HTo:=hd0 (HT.out.keep Xm.out);have Yl:Hid (aI w' (w.heap.size+1) (gw T left) w.heap.size A' M' j4):=hd0 (HT'.out.mod (gY hg1) (fun b hb e=>(Hq.out b hb).2 e));have a0:w'.cell? ⟨A x,0,none⟩=some (.int .i64 n.num):=HTo.out.cell HW.out.sorted hgn 0;have a1:w'.cell? ⟨A x,1,none⟩=some (.bool n.dir):=HTo.out.cell HW.out.sorted hgn 1;have a2:w'.cell? ⟨A x,2,none⟩=some (.int .i64 n.links):=HTo.out.cell HW.out.sorted hgn 2;have a3:w'.cell? ⟨A x,3,none⟩=some (.string ⟨n.data.toArray⟩):=HTo.out.cell HW.out.sorted hgn 3;have a4:w'.cell? ⟨A x,4,none⟩=some (.map (if n.dir=true then some (M x)else none)):=HTo.out.cell HW.out.sorted hgn 4;have cw:=fun hd=>(HTo.out.names n nZ hd)
    rw[pH]at cw;have yV:=hd0 cw;have Hn:=hd0 (And.intro nZ pH);have Wc:=hd0 AI;have uO:=hd0 Fb;have Hlt:=hd0 (show sU<cn from aL);have sS:=hd0 (IV.out.left_eq);have yA:=(gH HW.out hgn)
    have Xf:=hg1.size;clear IR AI hv ni Fb aL hg1 sQ hga nZ pH hgn cw
    cases hd:n.dir with
    |true=>
     rw[hd]at a1 a4;rw[auI rfl]at a4;have Hd:=hd0 hd;have hAx:=ak a4;have e4:(w'.alloc (.cells #[.int .i64 x,.bool true,.int .i64 n.links,.string ⟨n.data.toArray⟩,.map (some (M x))] 246)).cell? ⟨A x,4,none⟩=some (.map (some (M x))):=by
      rw[((ah.refl (fun _=>False) w').alloc _).cell (p:=⟨A x,4,none⟩) hAx id];exact a4
     clear hd;go_wp2_with fail;have jp:Hid (World.blk (w'.alloc (.cells #[.int .i64 x,.bool true,.int .i64 n.links,.string ⟨n.data.toArray⟩,.map (some (M x))] 246)) w'.heap.size #[.int .i64 x,.bool true,.int .i64 n.links,.string ⟨n.data.toArray⟩,.map (some (M x))] 246):=hd0 (aw _ _ _);have Ci:Hid (af w' (w'.alloc (.cells #[.int .i64 x,.bool true,.int .i64 n.links,.string ⟨n.data.toArray⟩,.map (some (M x))] 246))):=hd0 ((ah.refl _ w').alloc _);have hsa:(w'.alloc (.cells #[.int .i64 x,.bool true,.int .i64 n.links,.string ⟨n.data.toArray⟩,.map (some (M x))] 246)).heap.size=w'.heap.size+1:=by simp
     generalize w'.alloc (.cells #[.int .i64 x,.bool true,.int .i64 n.links,.string ⟨n.data.toArray⟩,.map (some (M x))] 246)=wa at*;refine(Ii (M x) n.names wa ((yV.out Hd.out).mod Ci.out id)).mono ?_;rintro e wb ⟨rfl,ze,RU⟩;have HMb:=hd0 ze;have OK:=hd0 (Ci.out.keep RU);have Wx:=hd0 (ab RU jp.out id);have hlb:=ze.lt;rw[hsa]at HMb hlb;rw[hsa];clear ze RU Ci jp e4 a0 a1 a2 a3 a4;have pH:=yA.1;have VI:=hd0 (Yl.out.keep OK.out);have e5:wb.cell? ⟨w'.heap.size,4,none⟩=some (.map (some (M x))):=aa Wx.out 4;have f5:wb.frozen? ⟨w'.heap.size,4,none⟩=false:=ae Wx.out _ rfl;have WG:Hid (af w' (wb.setCell ⟨w'.heap.size,4,none⟩ (.map (some (w'.heap.size+1))))):=hd0 (ah.setCell OK.out (.inr (auE _)) _);have SF:Hid (World.blk (wb.setCell ⟨w'.heap.size,4,none⟩ (.map (some (w'.heap.size+1)))) w'.heap.size #[.int .i64 x,.bool true,.int .i64 n.links,.string ⟨n.data.toArray⟩,.map (some (w'.heap.size+1))] 246):=hd0 (ag Wx.out 4 _);have HMc:=hd0 (HMb.out.mod (ah.setCell (ah.refl (·=w'.heap.size) wb) (p:=⟨w'.heap.size,4,none⟩) (.inl rfl) (.map (some (w'.heap.size+1)))) (by omega:¬ w'.heap.size+1=w'.heap.size));have e6:(wb.setCell ⟨w'.heap.size,4,none⟩ (.map (some (w'.heap.size+1)))).cell? ⟨w.heap.size+1,0,none⟩=some (.map (some w.heap.size)):=aa (Yl.out.keep WG.out).tree 0;have sT:∀ y∈gw T left,y.num≠n.num:=fun y hy e=>by
      have h1:=(Bo.1 hy).2;rw[e,pH,Wc.out]at h1;cases h1
     have Hxn:=hd0 sT;have CG:=hd0 pH;clear sT pH Wx VI
     go_wp2_with ((at_mapUpdate
                   refine iH (Yl.out.of.mod WG.out id) underlying247 underlying3 x (by omega) w'.heap.size (by have:(gw T left).length<=T.length:=auM _ _;simp[cm];omega) rfl rfl rfl rfl rfl ?_;intro wd oA mS;have jH:ah (·=w.heap.size) w' wd:=(WG.out.mono (fun _ _ h=>h.elim)).trans mS (fun _ _ h=>h);rw[<-CG.out]at oA;have I4:=sr (n0:=n) (a:=w'.heap.size) (m:=w'.heap.size+1) Yl.out Hxn.out jH (auE _) (by omega) (by omega) (auL (ai SF.out) mS.size) (fun _=>auL HMc.out.lt mS.size) oA (by
                    have h:=ab mS SF.out (show ¬ w'.heap.size=w.heap.size by omega);have e:jT n (w'.heap.size+1)=#[.int .i64 x,.bool true,.int .i64 n.links,.string ⟨n.data.toArray⟩,.map (some (w'.heap.size+1))]:=by simp[jT,Hd.out,CG.out]
                    rw[e];exact h) (fun _=>HMc.out.mod mS (by omega))
                   rw[El HW.out.sorted Hn.out.1 CG.out Wc.out]at I4;have HT6:=hd0 I4;have rz:Hid (af w wd):=hd0 (Xm.out.new jH (auE _));have Sd:=hd0 (uO.out.kept (tl jH) (by simp;omega) (by simp));have hsd:=mS.size;have hsc:=WG.out.size;clear oA mS jH I4))
     simp only[Act.put]
     go_roundw
     case rel=>
      refine⟨_,sU,_,_,_,Sd.out,rz.out,HT6.out,hd0 fun b hb=>?_,by omega⟩;by_cases e1:b=w'.heap.size
      ·omega
      ·by_cases e2:b=w'.heap.size+1/\n.dir=true
       ·omega
       ·simp only[auK e1,auK e2]at hb;exact Hq.out b hb
     case measure=>
      rw[Sd.out.left_eq,sS.out];exact Hlt.out
    |false=>
     rw[hd]at a1 a4;rw[auK (by decide)]at a4;have Hd:=hd0 hd;have hAx:=ak a4;have e4:(w'.alloc (.cells #[.int .i64 x,.bool false,.int .i64 n.links,.string ⟨n.data.toArray⟩,.map none] 246)).cell? ⟨A x,4,none⟩=some (.map none):=by
      rw[((ah.refl (fun _=>False) w').alloc _).cell (p:=⟨A x,4,none⟩) hAx id];exact a4
     clear hd;go_wp2_with fail;have jp:Hid (World.blk (w'.alloc (.cells #[.int .i64 x,.bool false,.int .i64 n.links,.string ⟨n.data.toArray⟩,.map none] 246)) w'.heap.size #[.int .i64 x,.bool false,.int .i64 n.links,.string ⟨n.data.toArray⟩,.map none] 246):=hd0 (aw _ _ _);have Ci:Hid (af w' (w'.alloc (.cells #[.int .i64 x,.bool false,.int .i64 n.links,.string ⟨n.data.toArray⟩,.map none] 246))):=hd0 ((ah.refl _ w').alloc _);have hsa:(w'.alloc (.cells #[.int .i64 x,.bool false,.int .i64 n.links,.string ⟨n.data.toArray⟩,.map none] 246)).heap.size=w'.heap.size+1:=by simp
     generalize w'.alloc (.cells #[.int .i64 x,.bool false,.int .i64 n.links,.string ⟨n.data.toArray⟩,.map none] 246)=wa at*;refine(Ij wa).mono ?_;rintro e wb ⟨rfl,Cm⟩;have OK:Hid (af w' wb):=hd0 (by rw[Cm];exact Ci.out);have Wx:Hid (World.blk wb w'.heap.size #[.int .i64 x,.bool false,.int .i64 n.links,.string ⟨n.data.toArray⟩,.map none] 246):=hd0 (by rw[Cm];exact jp.out);clear Cm Ci jp e4 a0 a1 a2 a3 a4;have pH:=yA.1;have VI:=hd0 (Yl.out.keep OK.out);have e5:wb.cell? ⟨w'.heap.size,4,none⟩=some (.map none):=aa Wx.out 4;have f5:wb.frozen? ⟨w'.heap.size,4,none⟩=false:=ae Wx.out _ rfl;have WG:Hid (af w' (wb.setCell ⟨w'.heap.size,4,none⟩ (.map none))):=hd0 (ah.setCell OK.out (.inr (auE _)) _);have SF:Hid (World.blk (wb.setCell ⟨w'.heap.size,4,none⟩ (.map none)) w'.heap.size #[.int .i64 x,.bool false,.int .i64 n.links,.string ⟨n.data.toArray⟩,.map none] 246):=hd0 (ag Wx.out 4 _);have e6:(wb.setCell ⟨w'.heap.size,4,none⟩ (.map none)).cell? ⟨w.heap.size+1,0,none⟩=some (.map (some w.heap.size)):=aa (Yl.out.keep WG.out).tree 0;have sT:∀ y∈gw T left,y.num≠n.num:=fun y hy e=>by
      have h1:=(Bo.1 hy).2;rw[e,pH,Wc.out]at h1;cases h1
     have Hxn:=hd0 sT;have CG:=hd0 pH;clear sT pH Wx VI
     go_wp2_with ((at_mapUpdate
                   refine iH (Yl.out.of.mod WG.out id) underlying247 underlying3 x (by omega) w'.heap.size (by have:(gw T left).length<=T.length:=auM _ _;simp[cm];omega) rfl rfl rfl rfl rfl ?_;intro wd oA mS;have jH:ah (·=w.heap.size) w' wd:=(WG.out.mono (fun _ _ h=>h.elim)).trans mS (fun _ _ h=>h);rw[<-CG.out]at oA;have I4:=sr (n0:=n) (a:=w'.heap.size) (m:=w'.heap.size+1) Yl.out Hxn.out jH (auE _) (by omega) (by omega) (auL (ai SF.out) mS.size) (fun h=>by rw[Hd.out]at h;cases h) oA (by
                    have h:=ab mS SF.out (show ¬ w'.heap.size=w.heap.size by omega);have e:jT n (w'.heap.size+1)=#[.int .i64 x,.bool false,.int .i64 n.links,.string ⟨n.data.toArray⟩,.map none]:=by simp[jT,Hd.out,CG.out]
                    rw[e];exact h) (fun h=>by rw[Hd.out]at h;cases h)
                   rw[El HW.out.sorted Hn.out.1 CG.out Wc.out]at I4;have HT6:=hd0 I4;have rz:Hid (af w wd):=hd0 (Xm.out.new jH (auE _));have Sd:=hd0 (uO.out.kept (tl jH) (by simp;omega) (by simp));have hsd:=mS.size;have hsc:=WG.out.size;clear oA mS jH I4))
     simp only[Act.put]
     go_roundw
     case rel=>
      refine⟨_,sU,_,_,_,Sd.out,rz.out,HT6.out,hd0 fun b hb=>?_,by omega⟩;by_cases e1:b=w'.heap.size
      ·omega
      ·by_cases e2:b=w'.heap.size+1/\n.dir=true
       ·omega
       ·simp only[auK e1,auK e2]at hb;exact Hq.out b hb
     case measure=>
      rw[Sd.out.left_eq,sS.out];exact Hlt.out
end
end
end
section
open Go.RowKit
theorem Af (b:fP)(h:b.ok=true)(w:World):
  Calls prog 261 #[dd b] w fun e w'=>e=.returned (.bool true)/\af w w':=by
 obtain⟨r,s⟩:=b;simp only[fP.ok,fP.may,auT,auY,ave,decide_eq_decide]at h;obtain⟨⟨⟨⟨h1,h2⟩,h3⟩,h4⟩,h5⟩:=h;unfold dd;have hk:af w (w.alloc (.cells #[.int .i64 r,.int .i64 s] 42)):=(ah.refl _ w).alloc _;have HK:=hd0 hk;clear hk;by_cases hr:r=0
 ·have hs:=h3.1 hr;subst hr hs;go_enter func261,ntmps261;go_wp2;go_ret;exact⟨rfl,HK.out⟩
 ·have hs:¬ s=0:=fun e=>hr (h3.2 e);have e1:(r==0)=false:=by simpa using hr
  have e2:(s==0)=false:=by simpa using hs
  clear h3;go_enter func261,ntmps261;go_wp2;go_ret;exact⟨rfl,HK.out⟩
end
section
open Go.RowKit
def oC (x:Sn):List Value:=[.string ⟨x.name.toArray⟩,.int .i64 x.id,.int .i64 x.plane,.int .i64 x.table.root,.int .i64 x.table.size]
abbrev Bp (x:Sn):Value:=.agg #[.string ⟨x.name.toArray⟩,.int .i64 x.id,.int .i64 x.plane,.int .i64 x.table.root,.int .i64 x.table.size]
theorem eQ:∀ x,(oC x).length=5:=fun _=>rfl
theorem Bq:∀ x,∀ u∈oC x,u.oneCell'=true:=by
 intro x u hu;simp only[oC,auX,List.not_mem_nil,or_false]at hu;rcases hu with rfl|rfl|rfl|rfl|rfl<;>rfl
abbrev Br:Value:=.agg #[.func (.func 260) #[] #[],.func (.func 262) #[] #[],.func (.func 263) #[] #[]]
def Ik (was:Int)(x:Sn):Prop:=was<x.id/\aG x.name=true/\x.id<=1099511627776/\1<=x.plane/\x.plane<=7/\x.table.ok=true
def YW:Sn:=⟨[],0,0,⟨0,0⟩⟩
def dr (l:List Sn)(k:Nat):Sn:=(l.take k).getLastD YW
def cg (x:Sn):List az:=[(aP x.name.length++x.name),aP x.id.toNat,aP x.plane.toNat,aP x.table.root.toNat,aP x.table.size.toNat]
theorem su {l:List Sn}{k:Nat}{x:Sn}(h:l[k]?=some x):dr l (k+1)=x:=by
 unfold dr;rw[auD,h];simp
theorem us (x:Sn):(cg x).flatten=pa x:=by simp[cg,pa,yH]
theorem J7:∀ {l:List Sn} {was:Int},Ty was l=true->∀ k x,l[k]?=some x->Ik (match k with|0=>was|j+1=>((l[j]?).map (fun y:Sn=>y.id)).getD 0) x
 |[],_,_,k,x,hk=>by simp at hk
 |y::r,was,h,k,x,hk=>by
  have h':=h;simp only[Ty,auT,auY]at h'
  cases k with
  |zero=>
   simp at hk;subst hk;simp only[Ik]
   simp_all
  |succ j=>
   have ih:=J7 (l:=r) (was:=y.id) h'.2 j x (by simpa using hk)
   cases j with
   |zero=>simpa using ih
   |succ i=>simpa using ih
theorem xz {l:List Sn}(h:Ty 0 l=true){k:Nat}{x:Sn}(hk:l[k]?=some x):Ik (dr l k).id x:=by
 have h1:=J7 h k x hk
 cases k with
 |zero=>exact h1
 |succ j=>
  have hj:j<l.length:=by have:=(auP.1 hk).1;omega
  have e:dr l (j+1)=l[j]:=su (auB hj);rw[e];simpa[auB hj]using h1
theorem Mu (was x:Sn)(first:Bool)(h:Ik was.id x)(w:World):
  Calls prog 260 #[Bp was,Bp x,.bool first] w fun e w'=>e=.returned (.bool true)/\af w w':=by
 have HB:=hd0 (fun W=>Af x.table (by unfold Ik at h;simp_all) W);obtain⟨h1,h2,h3,h4,h5,h6⟩:=h;obtain⟨s0,i0,p0,r0,z0⟩:=was;obtain⟨s,i,pl,r,z⟩:=x;simp only at h1 h3 h4 h5;have aV:s.length<=16:=by have h7:=h2;simp only[aG,auT,auY]at h7;omega
 have HN:=hd0 (fun W=>so s W (by omega));have H2:Hid (aG s=true):=hd0 h2;clear h2 h6 aV;have hbv:dd ⟨r,z⟩=.agg #[.int .i64 r,.int .i64 z]:=rfl;simp only[hbv]at HB;go_enter func260,ntmps260;go_wp2_with fail;refine(HN.out _).mono ?_;rintro e w3 ⟨rfl,hk⟩;rw[H2.out];have iM:World.blk w3 w.heap.size #[.string ⟨s0.toArray⟩,.int .i64 i0,.int .i64 p0,.int .i64 r0,.int .i64 z0] 85:=ab hk (aH (aw _ _ _) _) id;have hb1:World.blk w3 (w.heap.size+1) #[.string ⟨s.toArray⟩,.int .i64 i,.int .i64 pl,.int .i64 r,.int .i64 z] 85:=ab hk (ba (by simp) _ _) id;have c0:w3.cell? ⟨w.heap.size,1,none⟩=some (.int .i64 i0):=aa iM 1;have c1:w3.cell? ⟨w.heap.size+1,1,none⟩=some (.int .i64 i):=aa hb1 1;have c2:w3.cell? ⟨w.heap.size+1,2,none⟩=some (.int .i64 pl):=aa hb1 2;have c3:w3.cell? ⟨w.heap.size+1,3,none⟩=some (.int .i64 r):=aa hb1 3;have c4:w3.cell? ⟨w.heap.size+1,4,none⟩=some (.int .i64 z):=aa hb1 4;have HK:=hd0 (dQ (dQ hk));clear hk iM hb1;go_wp2_with fail;refine(HB.out _).mono ?_;rintro e w4 ⟨rfl,iT⟩;have ou:=hd0 (HK.out.keep iT);clear iT;go_wp2;go_ret;exact⟨rfl,ou.out⟩
theorem Mv (x:Sn)(w:World):
  Calls prog 262 #[Bp x] w fun e w'=>∃ b,e=.returned (.slice (some ⟨b,0,none⟩) 5 5)/\w.heap.size<=b/\af w w'/\World.blk w' b #[.iface 9 (.string ⟨x.name.toArray⟩),.iface 3 (.int .i64 x.id),.iface 3 (.int .i64 x.plane),.iface 3 (.int .i64 x.table.root),.iface 3 (.int .i64 x.table.size)] 20:=by
 obtain⟨s,i,pl,r,z⟩:=x;go_enter func262,ntmps262;go_wp2;go_ret;exact⟨_,rfl,by omega,((ah.refl _ _).alloc _).alloc _,ba (by simp) _ _⟩
theorem Il (w:World):
  Calls prog 211 #[] w fun e w'=>e=.returned Br/\af w w':=by
 go_enter func211,ntmps211;go_wp2_with fail;exact au7 (v:=Br) (by simp[results,Tryz.results211,go_sem]) rfl ⟨rfl,(ah.refl _ _).alloc _⟩
end
section
open Go.RowKit
def jF (x:fC):List Value:=[.int .i64 x.num,.bool x.dir,.int .i64 x.links,.int .i64 x.blob.root,.int .i64 x.blob.size]
abbrev YX (x:fC):Value:=.agg #[.int .i64 x.num,.bool x.dir,.int .i64 x.links,.int .i64 x.blob.root,.int .i64 x.blob.size]
theorem xA:∀ x,(jF x).length=5:=fun _=>rfl
theorem QF:∀ x,∀ u∈jF x,u.oneCell'=true:=by
 intro x u hu;simp only[jF,auX,List.not_mem_nil,or_false]at hu;rcases hu with rfl|rfl|rfl|rfl|rfl<;>rfl
abbrev vr:Value:=.agg #[.func (.func 277) #[] #[],.func (.func 278) #[] #[],.func (.func 280) #[] #[]]
def xB (was:Int)(x:fC):Prop:=was<x.num/\x.num<=65535/\1<=x.links/\x.links<=65535/\x.blob.ok=true
def UZ:fC:=⟨0,false,0,⟨0,0⟩⟩
def cF (l:List fC)(k:Nat):fC:=(l.take k).getLastD UZ
def cG (x:fC):List az:=[aP x.num.toNat,aP (if x.dir=true then 1 else 0),aP x.links.toNat,aP x.blob.root.toNat,aP x.blob.size.toNat]
theorem qt {l:List fC}{k:Nat}{x:fC}(h:l[k]?=some x):cF l (k+1)=x:=by
 unfold cF;rw[auD,h];simp
theorem sx (x:fC):(cG x).flatten=oo x:=by simp[cG,oo,yH]
theorem Em:∀ {l:List fC} {was:Int},yI was l=true->∀ k x,l[k]?=some x->xB (match k with|0=>was|j+1=>((l[j]?).map (fun y:fC=>y.num)).getD 0) x
 |[],_,_,k,x,hk=>by simp at hk
 |y::r,was,h,k,x,hk=>by
  have h':=h;simp only[yI,auT,auY]at h'
  cases k with
  |zero=>
   simp at hk;subst hk;simp only[xB]
   simp_all
  |succ j=>
   have ih:=Em (l:=r) (was:=y.num) h'.2 j x (by simpa using hk)
   cases j with
   |zero=>simpa using ih
   |succ i=>simpa using ih
theorem ut {l:List fC}(h:yI 0 l=true){k:Nat}{x:fC}(hk:l[k]?=some x):xB (cF l k).num x:=by
 have h1:=Em h k x hk
 cases k with
 |zero=>exact h1
 |succ j=>
  have hj:j<l.length:=by have:=(auP.1 hk).1;omega
  have e:cF l (j+1)=l[j]:=qt (auB hj);rw[e];simpa[auB hj]using h1
theorem Im (was x:fC)(first:Bool)(h:xB was.num x)(w:World):
  Calls prog 277 #[YX was,YX x,.bool first] w fun e w'=>e=.returned (.bool true)/\af w w':=by
 have HB:=hd0 (fun W=>Af x.blob (by unfold xB at h;simp_all) W);obtain⟨h1,h2,h3,h4,h5⟩:=h;obtain⟨n0,d0,l0,r0,z0⟩:=was;obtain⟨n,di,li,r,z⟩:=x;simp only at h1 h2 h3 h4;clear h5;have hbv:dd ⟨r,z⟩=.agg #[.int .i64 r,.int .i64 z]:=rfl;simp only[hbv]at HB;have hk:af w ((w.alloc (.cells #[.int .i64 n0,.bool d0,.int .i64 l0,.int .i64 r0,.int .i64 z0] 128)).alloc (.cells #[.int .i64 n,.bool di,.int .i64 li,.int .i64 r,.int .i64 z] 128)):=((ah.refl _ w).alloc _).alloc _;have HK:=hd0 hk;clear hk;go_enter func277,ntmps277;go_wp2_with fail;refine(HB.out _).mono ?_;rintro e w4 ⟨rfl,iT⟩;have ou:=hd0 (HK.out.keep iT);clear iT;go_wp2;go_ret;exact⟨rfl,ou.out⟩
theorem U0 (b:Bool)(w:World):Calls prog 279 #[.bool b] w fun e w'=>e=.returned (.int .i64 (if b=true then 1 else 0))/\af w w':=by
 cases b with
 |true=>
  go_enter func279,ntmps279;go_wp2;go_ret;exact⟨rfl,ah.refl _ _⟩
 |false=>
  go_enter func279,ntmps279;go_wp2;go_ret;exact⟨rfl,ah.refl _ _⟩
theorem In (x:fC)(w:World):
  Calls prog 278 #[YX x] w fun e w'=>∃ b,e=.returned (.slice (some ⟨b,0,none⟩) 5 5)/\w.heap.size<=b/\af w w'/\World.blk w' b #[.iface 3 (.int .i64 x.num),.iface 3 (.int .i64 (if x.dir=true then 1 else 0)),.iface 3 (.int .i64 x.links),.iface 3 (.int .i64 x.blob.root),.iface 3 (.int .i64 x.blob.size)] 20:=by
 obtain⟨n,di,li,r,z⟩:=x;have BI:=U0 di;obtain⟨bv,hbv⟩:∃ bv:Int,(if di=true then(1:Int)else 0)=bv:=⟨_,rfl⟩
 simp only[hbv]at BI ⊢;clear hbv;have BI:=hd0 BI;obtain⟨W,hW⟩:∃ W,w.alloc (.cells #[.int .i64 n,.bool di,.int .i64 li,.int .i64 r,.int .i64 z] 128)=W:=⟨_,rfl⟩
 have k0:af w W:=by rw[<-hW];exact(ah.refl _ w).alloc _
 have b0:World.blk W w.heap.size #[.int .i64 n,.bool di,.int .i64 li,.int .i64 r,.int .i64 z] 128:=by rw[<-hW];exact aw w _ _
 have cx:∀(x:zv) (o:Nat),(W.ext x).cell? ⟨w.heap.size,o,none⟩=(#[.int .i64 n,.bool di,.int .i64 li,.int .i64 r,.int .i64 z]:Array Value)[o]?:=fun x o=>aa (ab (ay W x) b0 id) o;have c0:∀ x,(W.ext x).cell? ⟨w.heap.size,0,none⟩=some (.int .i64 n):=fun x=>cx x 0;have c1:∀ x,(W.ext x).cell? ⟨w.heap.size,1,none⟩=some (.bool di):=fun x=>cx x 1;have c2:∀ x,(W.ext x).cell? ⟨w.heap.size,2,none⟩=some (.int .i64 li):=fun x=>cx x 2;have c3:∀ x,(W.ext x).cell? ⟨w.heap.size,3,none⟩=some (.int .i64 r):=fun x=>cx x 3;have c4:∀ x,(W.ext x).cell? ⟨w.heap.size,4,none⟩=some (.int .i64 z):=fun x=>cx x 4;have HK:=hd0 k0;clear k0 b0 cx;go_enter func278,ntmps278;go_wp2_with fail;refine rP 18 (by kernel_rfl) (by kernel_rfl) ?_;simp only[avn,avo,avq,avr]
 repeat (quiet_step (with_reducible exact aZ (BI.out _)))
 refine avt ?_;intro _ cf;obtain⟨xq,rfl⟩:=cf;have bu:=hd0 (HK.out.keep (ay W xq));have cK:=bu.out.size;go_wp2;go_ret;have he:(W.ext xq).heap.size=W.heap.size+xq.objs.size:=by simp[World.ext]
 exact⟨_,rfl,by rw[<-he];exact cK,bu.out.alloc _,ba he.symm _ _⟩
theorem En (w:World):
  Calls prog 226 #[] w fun e w'=>e=.returned vr/\af w w':=by
 go_enter func226,ntmps226;go_wp2_with fail;exact au7 (v:=vr) (by simp[results,Tryz.results226,go_sem]) rfl ⟨rfl,(ah.refl _ _).alloc _⟩
end
theorem lC.turn {rd KF:Rd}:∀ {ys:List fC} {xs:List Nt} {S:Nat->Prop},lC rd ys xs S->(∀ n:Nat,S n->KF n=rd n)->lC KF ys xs S
 |[],[],_,h,_=>h
 |_y::_ys,_x::_xs,_S,⟨h1,A,B,h2,h3,h4⟩,hr=>⟨h1,A,B,h2.turn fun n hn=>hr n ((h4 n).2 (.inl hn)),h3.turn fun n hn=>hr n ((h4 n).2 (.inr hn)),h4⟩
 |[],_::_,_,h,_=>h.elim
 |_::_,[],_,h,_=>h.elim
theorem j0.turn {rd KF:Rd}{ys:List fC}{xs:List Nt}{t:fP}{S:Nat->Prop}(h:j0 rd ys xs t S)(hr:∀ n:Nat,S n->KF n=rd n):j0 KF ys xs t S:=by
 obtain⟨A,B,h1,h2,h3⟩:=h;exact⟨A,B,h1.turn fun n hn=>hr n ((h3 n).2 (.inl hn)),h2.turn fun n hn=>hr n ((h3 n).2 (.inr hn)),h3⟩
theorem lC.len {rd:Rd}:∀ {ys:List fC} {xs:List Nt} {S:Nat->Prop},lC rd ys xs S->ys.length=xs.length
 |[],[],_,_=>rfl
 |y::ys,x::xs,S,⟨_,A,B,_,h3,_⟩=>by simp[h3.len]
 |[],_::_,_,h=>h.elim
 |_::_,[],_,h=>h.elim
theorem lC.nums {rd:Rd}:∀ {ys:List fC} {xs:List Nt} {S:Nat->Prop},lC rd ys xs S->ys.map (·.num)=xs.map (·.num)
 |[],[],_,_=>rfl
 |y::ys,x::xs,S,⟨h1,A,B,_,h3,_⟩=>by simp[h3.nums,h1.1]
 |[],_::_,_,h=>h.elim
 |_::_,[],_,h=>h.elim
theorem lC.lt {rd:Rd}:∀ {ys:List fC} {xs:List Nt} {S:Nat->Prop},lC rd ys xs S->∀ n,S n->1<=n/\n<4096
 |[],[],_,h,n,hn=>absurd hn (h n)
 |y::ys,x::xs,S,⟨_,A,B,h2,h3,h4⟩,n,hn=>by
  rcases(h4 n).1 hn with h|h
  ·exact h2.lt h
  ·exact h3.lt n h
 |[],_::_,_,h,_,_=>h.elim
 |_::_,[],_,h,_,_=>h.elim
theorem lC.find {rd:Rd}:∀ {ys:List fC} {xs:List Nt} {S:Nat->Prop},lC rd ys xs S->∀ k:Int,
  ∃ bh A,aR rd bh (ec ys k) A/\(∀ n,A n->S n)/\bh=cI xs k
 |[],[],_,_,k=>⟨[],fun _=>False,jh rd,fun _=>False.elim,rfl⟩
 |y::ys,x::xs,S,⟨h1,A,B,h2,h3,h4⟩,k=>by
  obtain⟨bh,C,c1,c2,c3⟩:=h3.find k;have hn:=h3.nums;have key:(ys.filter fun z=>z.num==k)=[]↔(xs.filter fun z=>z.num==k)=[]:=by
   rw[List.filter_eq_nil_iff,List.filter_eq_nil_iff];have e:(∀ a∈ys,¬(a.num==k)=true)↔∀ m∈ys.map (·.num),¬(m==k)=true:=by simp
   have e2:(∀ a∈xs,¬(a.num==k)=true)↔∀ m∈xs.map (·.num),¬(m==k)=true:=by simp
   rw[e,e2,hn]
  by_cases hk:(ys.filter fun z=>z.num==k)=[]
  ·by_cases hy:(y.num==k)=true
   ·refine⟨x.data,A,?_,fun n hn=>(h4 n).2 (.inl hn),?_⟩
    ·unfold ec;rw[avN,auI hy,hk];exact h2
    ·have hx:(x.num==k)=true:=by rw[<-h1.1];exact hy
     unfold cI;rw[avN,auI hx,key.1 hk];rfl
   ·refine⟨bh,C,?_,fun n hn=>(h4 n).2 (.inr (c2 n hn)),?_⟩
    ·unfold ec at c1 ⊢;rw[avN,auK hy];exact c1
    ·have hx:¬(x.num==k)=true:=by rw[<-h1.1];exact hy
     unfold cI at c3 ⊢;rw[avN,auK hx];exact c3
  ·refine⟨bh,C,?_,fun n hn=>(h4 n).2 (.inr (c2 n hn)),?_⟩
   ·have:ec (y::ys) k=ec ys k:=by
     unfold ec;rw[avN];by_cases hy:(y.num==k)=true
     ·rw[auI hy,List.getLast?_cons]
      cases hg:(ys.filter fun z=>z.num==k).getLast? with
      |none=>exact absurd (List.getLast?_eq_none_iff.1 hg) hk
      |some z=>rfl
     ·rw[auK hy]
    rw[this];exact c1
   ·have de:¬(xs.filter fun z=>z.num==k)=[]:=fun h=>hk (key.2 h);have:cI (x::xs) k=cI xs k:=by
     unfold cI;rw[avN];by_cases hy:(x.num==k)=true
     ·rw[auI hy,List.getLast?_cons]
      cases hg:(xs.filter fun z=>z.num==k).getLast? with
      |none=>exact absurd (List.getLast?_eq_none_iff.1 hg) de
      |some z=>rfl
     ·rw[auK hy]
    rw[this];exact c3
 |[],_::_,_,h,_=>h.elim
 |_::_,[],_,h,_=>h.elim
def jk (p:Pl)(S:Nat->Prop):Prop:=∀ n,S n->am p.used n=true/\n<p.blocks
theorem jk.grow {t t':gK}{k:Nat}{S:Nat->Prop}(h:jk t.pool S)(g:dm t t' k):jk t'.pool S:=fun n hn=>⟨g.used n (h n hn).1,by rw[g.blocks];exact(h n hn).2⟩
theorem dm.same {t t':gK}{k:Nat}{S:Nat->Prop}(g:dm t t' k)(h:jk t.pool S)(n:Nat)(hn:S n):t'.rd n=t.rd n:=g.keepRd (h n hn).1
theorem eL {t:gK}{bh data:az}{b:fP}{S:Nat->Prop}(ht:cH t.pool)(h:aR t.rd bh b S)(hS:jk t.pool S)(hs:data.length<=16384)(hc:dc bh data<=t.pool.left):
  ∃ b' t' S',dI t b data=.ok (b',t')/\aR t'.rd data b' S'/\dm t t' (dc bh data)/\jk t'.pool S'/\(∀ n,S' n->S n\/am t.pool.used n=false)/\(bh=data->b'=b/\t'=t/\∀ n,S' n↔S n):=by
 by_cases he:bh=data
 ·subst he;have hh:bh.length<=16384:=h.1;exact⟨b,t,S,Dw h,h,by rw[kZ bh hh];exact dm.refl ht,hS,fun n hn=>.inl hn,fun _=>⟨rfl,rfl,fun _=>Iff.rfl⟩⟩
 ·have h':=h;obtain⟨hh,was,rfl,hw,hSw⟩:=h;have hu:∀ l∈was,∀ n∈l,fK t.pool n:=by
   intro l hl n hn;have hf:n∈was.flatten:=List.mem_flatten.2 ⟨l,hl,hn⟩;have hr:=nC hw hf;obtain⟨k,rfl⟩:∃ k:Nat,n=k:=⟨n.toNat,by omega⟩
   obtain⟨h1,h2⟩:=hS k ((hSw k).2 hf);exact⟨k,rfl,h1,by omega,h2⟩
  obtain⟨nums,t',e,h1,h2,h3,h4⟩:=Lz ht hw hu hs hh hc;refine⟨_,t',fun n=>(n:Int)∈nums.flatten,e,⟨hs,nums,rfl,h1,fun _=>Iff.rfl⟩,h2,fun n hn=>?_,fun n hn=>?_,fun h=>absurd h he⟩
  ·obtain⟨l,hl,hm⟩:=List.mem_flatten.1 hn;obtain⟨k,e,a,b,c⟩:=h3 l hl _ hm;have:n=k:=by omega
   subst this;exact⟨a,c⟩
  ·rcases h4 n hn with h|h
   ·exact .inl ((hSw n).2 h)
   ·exact .inr h
end Go.Proofs.YtkghpdcloaiflaaGreatDoor
