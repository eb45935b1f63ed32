import Derived.Test.YtkghpdcloaiflaaGreatDoorD20
import Derived.Test.YtkghpdcloaiflaaGreatDoorD26
set_option maxHeartbeats 8000000
set_option maxRecDepth 100000
namespace Go.Proofs.YtkghpdcloaiflaaGreatDoor
open _root_.Go.Proofs.Tryz
section
section
open Go.RowKit Go.Maps Go.Shelf
theorem Y9 {l:List (Int×Nat)}{x:Int}{c:Option Addr}{yd:DataW Value}{yp:List MemPlace}(hv:jr (.pointer c)=some (yd,yp))(ni:∀ zd,(Ou l).atKey (.int .i64 x) zd=yd):∃ a,bE x l=some a/\c=some ⟨a,0,none⟩:=by
 have e:DataW.held (.pointer c)=yd:=by
  unfold jr at hv;injection hv with h;injection h
 subst e;have h1:=(kL (ef:=yH) cN x l (oL 0)).symm.trans (ni (oL 0))
 cases hg:bE x l with
 |none=>rw[hg]at h1;cases h1
 |some a=>
  rw[hg]at h1;refine⟨a,rfl,?_⟩;simp[yH]at h1;exact h1.symm
theorem Va (v:Value)(y:DataW Value×List MemPlace)(h:jr v=some y):∃ c,v=Value.pointer c:=by
 cases v<;>simp[jr]at h
 exact⟨_,rfl⟩
theorem Vb (key:Value)(kl:Lit)(h:keyOf prog 3 key=some kl):∃ x,key=Value.int .i64 x:=by
 obtain⟨x,hx,_⟩:=Maps.keyOf_int_inv underlying3 h;exact⟨x,hx⟩
theorem Mp {w:World}{p tb:Nat}(h1:World.blk w p #[.map (some tb)] 249)(h2:Mh w tb [])(h3:p≠tb):aJ w p [] tb (fun _=>0) (fun _=>0) (fun b=>if b=p then .tree else if b=tb then .of else .none) where
 tree:=h1
 rtree:=auT rfl
 of:=h2
 rof:=by rw[auV (Ne.symm h3),auT rfl]
 node n hn:=by cases hn
 rnode n hn:=by cases hn
 names n hn:=by cases hn
 rnames n hn:=by cases hn
 lt b hb:=by
  by_cases e:b=p
  ·rw[e];exact ak h1
  ·by_cases e2:b=tb
   ·rw[e2];exact h2.lt
   ·rw[auV e,auV e2]at hb;exact absurd rfl hb
theorem Il (b:Nat)(l:Nm)(w:World)(h:If w b l):Calls prog 191 #[.map (some b)] w fun e w'=>e=.returned (.map (some w.heap.size))/\If w' w.heap.size l/\af w w':=by
 refine(AnyW.maps_Clone_owns Tryz.cloneN 9 (plainElem prog 3) b l.length (Ot l) w h).mono ?_;rintro e w' ⟨rfl,h1,_,h3⟩;exact⟨rfl,h1,ah.ofBelow h3⟩
theorem Im (w:World):Calls prog 191 #[.map none] w fun e w'=>e=.returned (.map none)/\w'=w:=
 AnyW.maps_Clone_nil Tryz.cloneN w
def gt (T:Tr)(left:Lit->Bool):Tr:=T.filter fun n=>!left (.int .i64 n.num)
theorem Vc {T:Tr}{left:Lit->Bool}(h:∀ l,left l=false):gt T left=T:=List.filter_eq_self.2 fun n _=>by rw[h];rfl
theorem QJ {T:Tr}{left:Lit->Bool}(h:∀ n∈T,left (.int .i64 n.num)=true):gt T left=[]:=List.filter_eq_nil_iff.2 fun n hn=>by rw[h n hn];simp
theorem Br {T:Tr}{left:Lit->Bool}{n:Nd}:n∈gt T left↔n∈T/\left (.int .i64 n.num)=false:=by simp[gt]
theorem Ek {T:Tr}{left:Lit->Bool}{x:Int}{n:Nd}(hs:dg T)(hn:n∈T)(hx:n.num=x)(hl:left (.int .i64 x)=true):Tr.add n (gt T left)=gt T (fun z=>left z&&!z.sameKey (.int .i64 x)):=by
 subst hx
 induction T with
 |nil=>cases hn
 |cons y r ih=>
  obtain⟨h1,h2⟩:=avQ.1 hs;rcases au8.1 hn with rfl|hm
  ·have e1:gt (n::r) left=gt r left:=by
    unfold gt;rw[avY,auV (by rw[hl];simp)]
   have e2:gt (n::r) (fun z=>left z&&!z.sameKey (.int .i64 n.num))=n::gt r left:=by
    unfold gt;rw[avY,auT (by simp[cN])]
    congr 1
    refine List.filter_congr fun m hm=>?_;have:=h1 m hm;simp only[cN,av3 (show m.num≠n.num by omega)];simp
   rw[e1,e2]
   cases hq:gt r left with
   |nil=>rfl
   |cons z q=>
    have hz:z∈gt r left:=by rw[hq];simp
    have:=h1 z (Br.1 hz).1;show(if n.num<z.num then _ else _)=_;rw[auT this]
  ·have h3:=h1 n hm;have e:(Lit.int .i64 y.num).sameKey (.int .i64 n.num)=false:=by rw[cN];exact av3 (by omega)
   by_cases hy:left (.int .i64 y.num)=true
   ·have e1:gt (y::r) left=gt r left:=by
     unfold gt;rw[avY,auV (by rw[hy];simp)]
    have e2:gt (y::r) (fun z=>left z&&!z.sameKey (.int .i64 n.num))=gt r (fun z=>left z&&!z.sameKey (.int .i64 n.num)):=by
     unfold gt;rw[avY,auV (by simp[hy,e])]
    rw[e1,e2];exact ih h2 hm
   ·have hy':left (.int .i64 y.num)=false:=by simpa using hy
    have e1:gt (y::r) left=y::gt r left:=by
     unfold gt;rw[avY,auT (by rw[hy'];simp)]
    have e2:gt (y::r) (fun z=>left z&&!z.sameKey (.int .i64 n.num))=y::gt r (fun z=>left z&&!z.sameKey (.int .i64 n.num)):=by
     unfold gt;rw[avY,auT (by simp[hy'])]
    rw[e1,e2];show(if n.num<y.num then _ else _)=_;rw[auV (by omega),ih h2 hm]
section
variable {T:Tr}{d:Int->Nat}{p tb:Nat}{A M:Int->Nat}{role:Nat->cV}{w:World}
def Mq (w:World)(T:Tr)(e:Ending)(w':World):Prop:=
 ∃ p tb A M role,e=.returned (.pointer (some ⟨p,0,none⟩))/\aJ w' p T tb A M role/\(∀ b,role b≠.none->w.heap.size<=b)/\af w w'
theorem Mr (h:aJ w p T tb A M role)(hw:WF T d):Calls prog 117 #[.pointer (some ⟨p,0,none⟩)] w (Mq w T):=by
 have HW:=hd0 hw;have I7:=@run_makeMap prog;have sQ:=hw.many;have lE:Hid (aJ ((w.alloc (.map #[] 0)).alloc (.cells #[.map (some w.heap.size)] 249)) (w.heap.size+1) [] w.heap.size (fun _=>0) (fun _=>0) (fun b=>if b=w.heap.size+1 then .tree else if b=w.heap.size then .of else .none)):=hd0 (Mp (bi (by simp) _ _) ((dH.made w).mod ((ah.refl (fun _=>False) _).alloc _) id) (by omega));have dF:Hid (af w ((w.alloc (.map #[] 0)).alloc (.cells #[.map (some w.heap.size)] 249))):=hd0 (((ah.refl _ w).alloc _).alloc _);have zk:((w.alloc (.map #[] 0)).alloc (.cells #[.map (some w.heap.size)] 249)).heap.size=w.heap.size+2:=by simp
 have HT:Hid (aJ w p T tb A M role):=hd0 h;have yq:=h.of.lt;clear hw h;go_enter func117,ntmps117;have c0:((w.alloc (.map #[] 0)).alloc (.cells #[.map (some w.heap.size)] 249)).cell? ⟨p,0,none⟩=some (.map (some tb)):=aa (HT.out.keep dF.out).tree 0;go_wp2_with (at_range;refine wpList_range_own _ rfl _ 247 rfl 3 243 (int_keyed underlying3) underlying247 _ tb (cm T A).length (Ou (cm T A)) rfl ((HT.out.keep dF.out).of) ?_;intro w7 Fz XJ R9)
 try go_frame
 have B9:=hd0 Fz;have HKg:Hid (af ((w.alloc (.map #[] 0)).alloc (.cells #[.map (some w.heap.size)] 249)) w7):=hd0 (qH XJ);rw[zk]at R9;rw[zk]at B9;have HT7:=hd0 (lE.out.keep HKg.out);have uD:=hd0 (dF.out.keep HKg.out);clear Fz XJ c0 lE dF HKg zk
 go_loopw [15] (fun _ wr=>∃(left:Lit->Bool) (kg:Nat) (A' M':Int->Nat) (j9:Nat->cV),World.ranges wr prog 3 jr tb (w.heap.size+2) (cm T A).length (Ou (cm T A)) left kg/\af w wr/\aJ wr (w.heap.size+1) (gt T left) w.heap.size A' M' j9/\Hid (∀ b,j9 b≠.none->w.heap.size<=b/\b≠w.heap.size+2)/\w.heap.size+3<=wr.heap.size) (fun _ wr=>wr.rangeLeft tb (w.heap.size+2))
 case atStart=>
  have lJ:gt T (has (Ou (cm T A)))=[]:=QJ fun n hn=>by
   rw[pL cN,pX,(ax HW.out.sorted).2 ⟨hn,rfl⟩];rfl
  refine⟨_,_,fun _=>0,fun _=>0,fun b=>if b=w.heap.size+1 then cV.tree else if b=w.heap.size then cV.of else cV.none,B9.out,uD.out,by rw[lJ];exact HT7.out,hd0 fun b hb=>?_,by omega⟩;by_cases e:b=w.heap.size+1
  ·omega
  ·by_cases e2:b=w.heap.size
   ·omega
   ·simp only[auV e,auV e2]at hb;exact absurd rfl hb
 case round=>
  clear B9 uD HT7;obtain⟨left,cn,A',M',j9,TR,hK,hT',Hq,cJ⟩:=hrel;have Jf:=hd0 TR;have HK:=hd0 hK;have HT':=hd0 hT';clear TR hK hT';go_wp2_with (at_next;refine wpList_next_ranges wr rfl _ rfl 3 (int_keyed underlying3) jr (Value.int .i64) Value.pointer Vb Va tb (w.heap.size+2) _ (Ou (cm T A)) left cn rfl Jf.out ?_ ?_)
  ·intro _ uN;have HTe:Hid (aJ wr (w.heap.size+1) T w.heap.size A' M' j9):=hd0 (by have:=HT'.out;rw[Vc uN]at this;exact this);clear uN;go_wp2;go_ret;exact⟨w.heap.size+1,w.heap.size,A',M',j9,rfl,HTe.out,fun b hb=>(Hq.out b hb).1,HK.out⟩
  ·intro x c kl yd yp w' sO Jn AF hv ni Fg aK hg1 sT hen;obtain⟨x',ex,rfl,_⟩:=Maps.keyOf_int_inv underlying3 Jn
   cases ex
   obtain⟨a,hga,rfl⟩:=Y9 hv ni;rw[pX]at hga
   cases hgn:T.get x with
   |none=>rw[hgn]at hga;cases hga
   |some n=>
    rw[hgn]at hga;obtain⟨nU,pD⟩:=(ax HW.out.sorted).1 hgn;have ha:A x=a:=by
     have:A n.num=a:=avR hga;rw[pD]at this;exact this
    subst ha;have Yi:Hid (af w w'):=hd0 (HK.out.grown hg1 (fun i e=>.inr (by injection e with e;omega)));have HTo:=hd0 (HT.out.keep Yi.out);have Xq:Hid (aJ w' (w.heap.size+1) (gt T left) w.heap.size A' M' j9):=hd0 (HT'.out.mod (gZ hg1) (fun b hb e=>(Hq.out b hb).2 e));have a0:w'.cell? ⟨A x,0,none⟩=some (.int .i64 n.num):=HTo.out.cell HW.out.sorted hgn 0;have a1:w'.cell? ⟨A x,1,none⟩=some (.bool n.dir):=HTo.out.cell HW.out.sorted hgn 1;have a2:w'.cell? ⟨A x,2,none⟩=some (.int .i64 n.links):=HTo.out.cell HW.out.sorted hgn 2;have a3:w'.cell? ⟨A x,3,none⟩=some (.string ⟨n.data.toArray⟩):=HTo.out.cell HW.out.sorted hgn 3;have a4:w'.cell? ⟨A x,4,none⟩=some (.map (if n.dir=true then some (M x)else none)):=HTo.out.cell HW.out.sorted hgn 4;have cw:=fun hd=>(HTo.out.names n nU hd)
    rw[pD]at cw;have zn:=hd0 cw;have Hn:=hd0 (And.intro nU pD);have Wt:=hd0 AF;have uO:=hd0 Fg;have Hlt:=hd0 (show sO<cn from aK);have sD:=hd0 (Jf.out.left_eq);have yw:=(gG HW.out hgn)
    have Xo:=hg1.size;clear Jn AF hv ni Fg aK hg1 sT hga nU pD hgn cw
    cases hd:n.dir with
    |true=>
     rw[hd]at a1 a4;rw[auT rfl]at a4;have Hd:=hd0 hd;have hAx:=am a4;have e4:(w'.alloc (.cells #[.int .i64 x,.bool true,.int .i64 n.links,.string ⟨n.data.toArray⟩,.map (some (M x))] 246)).cell? ⟨A x,4,none⟩=some (.map (some (M x))):=by
      rw[((ah.refl (fun _=>False) w').alloc _).cell (p:=⟨A x,4,none⟩) hAx id];exact a4
     clear hd;go_wp2_with fail;have jp:Hid (World.blk (w'.alloc (.cells #[.int .i64 x,.bool true,.int .i64 n.links,.string ⟨n.data.toArray⟩,.map (some (M x))] 246)) w'.heap.size #[.int .i64 x,.bool true,.int .i64 n.links,.string ⟨n.data.toArray⟩,.map (some (M x))] 246):=hd0 (aw _ _ _);have BP:Hid (af w' (w'.alloc (.cells #[.int .i64 x,.bool true,.int .i64 n.links,.string ⟨n.data.toArray⟩,.map (some (M x))] 246))):=hd0 ((ah.refl _ w').alloc _);have hsa:(w'.alloc (.cells #[.int .i64 x,.bool true,.int .i64 n.links,.string ⟨n.data.toArray⟩,.map (some (M x))] 246)).heap.size=w'.heap.size+1:=by simp
     generalize w'.alloc (.cells #[.int .i64 x,.bool true,.int .i64 n.links,.string ⟨n.data.toArray⟩,.map (some (M x))] 246)=wa at*;refine(Il (M x) n.names wa ((zn.out Hd.out).mod BP.out id)).mono ?_;rintro e wb ⟨rfl,zg,Tb⟩;have HMb:=hd0 zg;have OE:=hd0 (BP.out.keep Tb);have WG:=hd0 (ab Tb jp.out id);have hlb:=zg.lt;rw[hsa]at HMb hlb;rw[hsa];clear zg Tb BP jp e4 a0 a1 a2 a3 a4;have pD:=yw.1;have Wc:=hd0 (Xq.out.keep OE.out);have e5:wb.cell? ⟨w'.heap.size,4,none⟩=some (.map (some (M x))):=aa WG.out 4;have f5:wb.frozen? ⟨w'.heap.size,4,none⟩=false:=ae WG.out _ rfl;have VW:Hid (af w' (wb.setCell ⟨w'.heap.size,4,none⟩ (.map (some (w'.heap.size+1))))):=hd0 (ah.setCell OE.out (.inr (auP _)) _);have Sq:Hid (World.blk (wb.setCell ⟨w'.heap.size,4,none⟩ (.map (some (w'.heap.size+1)))) w'.heap.size #[.int .i64 x,.bool true,.int .i64 n.links,.string ⟨n.data.toArray⟩,.map (some (w'.heap.size+1))] 246):=hd0 (ag WG.out 4 _);have HMc:=hd0 (HMb.out.mod (ah.setCell (ah.refl (·=w'.heap.size) wb) (p:=⟨w'.heap.size,4,none⟩) (.inl rfl) (.map (some (w'.heap.size+1)))) (by omega:¬ w'.heap.size+1=w'.heap.size));have e6:(wb.setCell ⟨w'.heap.size,4,none⟩ (.map (some (w'.heap.size+1)))).cell? ⟨w.heap.size+1,0,none⟩=some (.map (some w.heap.size)):=aa (Xq.out.keep VW.out).tree 0;have sJ:∀ y∈gt T left,y.num≠n.num:=fun y hy e=>by
      have h1:=(Br.1 hy).2;rw[e,pD,Wt.out]at h1;cases h1
     have Hxn:=hd0 sJ;have Cy:=hd0 pD;clear sJ pD WG Wc
     go_wp2_with ((at_mapUpdate
                   refine iG (Xq.out.of.mod VW.out id) underlying247 underlying3 x (by omega) w'.heap.size (by have:(gt T left).length<=T.length:=auX _ _;simp[cm];omega) rfl rfl rfl rfl rfl ?_;intro wd oy mX;have jJ:ah (·=w.heap.size) w' wd:=(VW.out.mono (fun _ _ h=>h.elim)).trans mX (fun _ _ h=>h);rw[<-Cy.out]at oy;have Jb:=rY (n0:=n) (a:=w'.heap.size) (m:=w'.heap.size+1) Xq.out Hxn.out jJ (auP _) (by omega) (by omega) (auW (ak Sq.out) mX.size) (fun _=>auW HMc.out.lt mX.size) oy (by
                    have h:=ab mX Sq.out (show ¬ w'.heap.size=w.heap.size by omega);have e:jU n (w'.heap.size+1)=#[.int .i64 x,.bool true,.int .i64 n.links,.string ⟨n.data.toArray⟩,.map (some (w'.heap.size+1))]:=by simp[jU,Hd.out,Cy.out]
                    rw[e];exact h) (fun _=>HMc.out.mod mX (by omega))
                   rw[Ek HW.out.sorted Hn.out.1 Cy.out Wt.out]at Jb;have HT6:=hd0 Jb;have tL:Hid (af w wd):=hd0 (Yi.out.new jJ (auP _));have RP:=hd0 (uO.out.kept (sZ jJ) (by simp;omega) (by simp));have hsd:=mX.size;have hsc:=VW.out.size;clear oy mX jJ Jb))
     simp only[Act.put]
     go_roundw
     case rel=>
      refine⟨_,sO,_,_,_,RP.out,tL.out,HT6.out,hd0 fun b hb=>?_,by omega⟩;by_cases e1:b=w'.heap.size
      ·omega
      ·by_cases e2:b=w'.heap.size+1/\n.dir=true
       ·omega
       ·simp only[auV e1,auV e2]at hb;exact Hq.out b hb
     case measure=>
      rw[RP.out.left_eq,sD.out];exact Hlt.out
    |false=>
     rw[hd]at a1 a4;rw[auV (by decide)]at a4;have Hd:=hd0 hd;have hAx:=am a4;have e4:(w'.alloc (.cells #[.int .i64 x,.bool false,.int .i64 n.links,.string ⟨n.data.toArray⟩,.map none] 246)).cell? ⟨A x,4,none⟩=some (.map none):=by
      rw[((ah.refl (fun _=>False) w').alloc _).cell (p:=⟨A x,4,none⟩) hAx id];exact a4
     clear hd;go_wp2_with fail;have jp:Hid (World.blk (w'.alloc (.cells #[.int .i64 x,.bool false,.int .i64 n.links,.string ⟨n.data.toArray⟩,.map none] 246)) w'.heap.size #[.int .i64 x,.bool false,.int .i64 n.links,.string ⟨n.data.toArray⟩,.map none] 246):=hd0 (aw _ _ _);have BP:Hid (af w' (w'.alloc (.cells #[.int .i64 x,.bool false,.int .i64 n.links,.string ⟨n.data.toArray⟩,.map none] 246))):=hd0 ((ah.refl _ w').alloc _);have hsa:(w'.alloc (.cells #[.int .i64 x,.bool false,.int .i64 n.links,.string ⟨n.data.toArray⟩,.map none] 246)).heap.size=w'.heap.size+1:=by simp
     generalize w'.alloc (.cells #[.int .i64 x,.bool false,.int .i64 n.links,.string ⟨n.data.toArray⟩,.map none] 246)=wa at*;refine(Im wa).mono ?_;rintro e wb ⟨rfl,I9⟩;have OE:Hid (af w' wb):=hd0 (by rw[I9];exact BP.out);have WG:Hid (World.blk wb w'.heap.size #[.int .i64 x,.bool false,.int .i64 n.links,.string ⟨n.data.toArray⟩,.map none] 246):=hd0 (by rw[I9];exact jp.out);clear I9 BP jp e4 a0 a1 a2 a3 a4;have pD:=yw.1;have Wc:=hd0 (Xq.out.keep OE.out);have e5:wb.cell? ⟨w'.heap.size,4,none⟩=some (.map none):=aa WG.out 4;have f5:wb.frozen? ⟨w'.heap.size,4,none⟩=false:=ae WG.out _ rfl;have VW:Hid (af w' (wb.setCell ⟨w'.heap.size,4,none⟩ (.map none))):=hd0 (ah.setCell OE.out (.inr (auP _)) _);have Sq:Hid (World.blk (wb.setCell ⟨w'.heap.size,4,none⟩ (.map none)) w'.heap.size #[.int .i64 x,.bool false,.int .i64 n.links,.string ⟨n.data.toArray⟩,.map none] 246):=hd0 (ag WG.out 4 _);have e6:(wb.setCell ⟨w'.heap.size,4,none⟩ (.map none)).cell? ⟨w.heap.size+1,0,none⟩=some (.map (some w.heap.size)):=aa (Xq.out.keep VW.out).tree 0;have sJ:∀ y∈gt T left,y.num≠n.num:=fun y hy e=>by
      have h1:=(Br.1 hy).2;rw[e,pD,Wt.out]at h1;cases h1
     have Hxn:=hd0 sJ;have Cy:=hd0 pD;clear sJ pD WG Wc
     go_wp2_with ((at_mapUpdate
                   refine iG (Xq.out.of.mod VW.out id) underlying247 underlying3 x (by omega) w'.heap.size (by have:(gt T left).length<=T.length:=auX _ _;simp[cm];omega) rfl rfl rfl rfl rfl ?_;intro wd oy mX;have jJ:ah (·=w.heap.size) w' wd:=(VW.out.mono (fun _ _ h=>h.elim)).trans mX (fun _ _ h=>h);rw[<-Cy.out]at oy;have Jb:=rY (n0:=n) (a:=w'.heap.size) (m:=w'.heap.size+1) Xq.out Hxn.out jJ (auP _) (by omega) (by omega) (auW (ak Sq.out) mX.size) (fun h=>by rw[Hd.out]at h;cases h) oy (by
                    have h:=ab mX Sq.out (show ¬ w'.heap.size=w.heap.size by omega);have e:jU n (w'.heap.size+1)=#[.int .i64 x,.bool false,.int .i64 n.links,.string ⟨n.data.toArray⟩,.map none]:=by simp[jU,Hd.out,Cy.out]
                    rw[e];exact h) (fun h=>by rw[Hd.out]at h;cases h)
                   rw[Ek HW.out.sorted Hn.out.1 Cy.out Wt.out]at Jb;have HT6:=hd0 Jb;have tL:Hid (af w wd):=hd0 (Yi.out.new jJ (auP _));have RP:=hd0 (uO.out.kept (sZ jJ) (by simp;omega) (by simp));have hsd:=mX.size;have hsc:=VW.out.size;clear oy mX jJ Jb))
     simp only[Act.put]
     go_roundw
     case rel=>
      refine⟨_,sO,_,_,_,RP.out,tL.out,HT6.out,hd0 fun b hb=>?_,by omega⟩;by_cases e1:b=w'.heap.size
      ·omega
      ·by_cases e2:b=w'.heap.size+1/\n.dir=true
       ·omega
       ·simp only[auV e1,auV e2]at hb;exact Hq.out b hb
     case measure=>
      rw[RP.out.left_eq,sD.out];exact Hlt.out
end
end
end
section
open Go.RowKit
theorem Ag (b:fQ)(h:b.ok=true)(w:World):
  Calls prog 261 #[de b] w fun e w'=>e=.returned (.bool true)/\af w w':=by
 obtain⟨r,s⟩:=b;simp only[fQ.ok,fQ.may,au4,au9,avq,decide_eq_decide]at h;obtain⟨⟨⟨⟨h1,h2⟩,h3⟩,h4⟩,h5⟩:=h;unfold de;have hk:af w (w.alloc (.cells #[.int .i64 r,.int .i64 s] 42)):=(ah.refl _ w).alloc _;have HK:=hd0 hk;clear hk;by_cases hr:r=0
 ·have hs:=h3.1 hr;subst hr hs;go_enter func261,ntmps261;go_wp2;go_ret;exact⟨rfl,HK.out⟩
 ·have hs:¬ s=0:=fun e=>hr (h3.2 e);have e1:(r==0)=false:=by simpa using hr
  have e2:(s==0)=false:=by simpa using hs
  clear h3;go_enter func261,ntmps261;go_wp2;go_ret;exact⟨rfl,HK.out⟩
end
section
open Go.RowKit
def oB (x:Sn):List Value:=[.string ⟨x.name.toArray⟩,.int .i64 x.id,.int .i64 x.plane,.int .i64 x.table.root,.int .i64 x.table.size]
abbrev Bt (x:Sn):Value:=.agg #[.string ⟨x.name.toArray⟩,.int .i64 x.id,.int .i64 x.plane,.int .i64 x.table.root,.int .i64 x.table.size]
theorem eQ:∀ x,(oB x).length=5:=fun _=>rfl
theorem Bu:∀ x,∀ u∈oB x,u.oneCell'=true:=by
 intro x u hu;simp only[oB,au8,List.not_mem_nil,or_false]at hu;rcases hu with rfl|rfl|rfl|rfl|rfl<;>rfl
abbrev Bw:Value:=.agg #[.func (.func 260) #[] #[],.func (.func 262) #[] #[],.func (.func 263) #[] #[]]
def In (was:Int)(x:Sn):Prop:=was<x.id/\aG x.name=true/\x.id<=1099511627776/\1<=x.plane/\x.plane<=7/\x.table.ok=true
def Za:Sn:=⟨[],0,0,⟨0,0⟩⟩
def dw (l:List Sn)(k:Nat):Sn:=(l.take k).getLastD Za
def cf (x:Sn):List ay:=[(aM x.name.length++x.name),aM x.id.toNat,aM x.plane.toNat,aM x.table.root.toNat,aM x.table.size.toNat]
theorem rZ {l:List Sn}{k:Nat}{x:Sn}(h:l[k]?=some x):dw l (k+1)=x:=by
 unfold dw;rw[auO,h];simp
theorem um (x:Sn):(cf x).flatten=o6 x:=by simp[cf,o6,yJ]
theorem J4:∀ {l:List Sn} {was:Int},TJ was l=true->∀ k x,l[k]?=some x->In (match k with|0=>was|j+1=>((l[j]?).map (fun y:Sn=>y.id)).getD 0) x
 |[],_,_,k,x,hk=>by simp at hk
 |y::r,was,h,k,x,hk=>by
  have h':=h;simp only[TJ,au4,au9]at h'
  cases k with
  |zero=>
   simp at hk;subst hk;simp only[In]
   simp_all
  |succ j=>
   have ih:=J4 (l:=r) (was:=y.id) h'.2 j x (by simpa using hk)
   cases j with
   |zero=>simpa using ih
   |succ i=>simpa using ih
theorem xu {l:List Sn}(h:TJ 0 l=true){k:Nat}{x:Sn}(hk:l[k]?=some x):In (dw l k).id x:=by
 have h1:=J4 h k x hk
 cases k with
 |zero=>exact h1
 |succ j=>
  have hj:j<l.length:=by have:=(au0.1 hk).1;omega
  have e:dw l (j+1)=l[j]:=rZ (auM hj);rw[e];simpa[auM hj]using h1
theorem Ms (was x:Sn)(first:Bool)(h:In was.id x)(w:World):
  Calls prog 260 #[Bt was,Bt x,.bool first] w fun e w'=>e=.returned (.bool true)/\af w w':=by
 have HB:=hd0 (fun W=>Ag x.table (by unfold In at h;simp_all) W);obtain⟨h1,h2,h3,h4,h5,h6⟩:=h;obtain⟨s0,i0,p0,r0,z0⟩:=was;obtain⟨s,i,pl,r,z⟩:=x;simp only at h1 h3 h4 h5;have aW:s.length<=16:=by have h7:=h2;simp only[aG,au4,au9]at h7;omega
 have HN:=hd0 (fun W=>rW s W (by omega));have H2:Hid (aG s=true):=hd0 h2;clear h2 h6 aW;have hbv:de ⟨r,z⟩=.agg #[.int .i64 r,.int .i64 z]:=rfl;simp only[hbv]at HB;go_enter func260,ntmps260;go_wp2_with fail;refine(HN.out _).mono ?_;rintro e w3 ⟨rfl,hk⟩;rw[H2.out];have iJ:World.blk w3 w.heap.size #[.string ⟨s0.toArray⟩,.int .i64 i0,.int .i64 p0,.int .i64 r0,.int .i64 z0] 85:=ab hk (aH (aw _ _ _) _) id;have hb1:World.blk w3 (w.heap.size+1) #[.string ⟨s.toArray⟩,.int .i64 i,.int .i64 pl,.int .i64 r,.int .i64 z] 85:=ab hk (bi (by simp) _ _) id;have c0:w3.cell? ⟨w.heap.size,1,none⟩=some (.int .i64 i0):=aa iJ 1;have c1:w3.cell? ⟨w.heap.size+1,1,none⟩=some (.int .i64 i):=aa hb1 1;have c2:w3.cell? ⟨w.heap.size+1,2,none⟩=some (.int .i64 pl):=aa hb1 2;have c3:w3.cell? ⟨w.heap.size+1,3,none⟩=some (.int .i64 r):=aa hb1 3;have c4:w3.cell? ⟨w.heap.size+1,4,none⟩=some (.int .i64 z):=aa hb1 4;have HK:=hd0 (dU (dU hk));clear hk iJ hb1;go_wp2_with fail;refine(HB.out _).mono ?_;rintro e w4 ⟨rfl,jo⟩;have lZ:=hd0 (HK.out.keep jo);clear jo;go_wp2;go_ret;exact⟨rfl,lZ.out⟩
theorem Mt (x:Sn)(w:World):
  Calls prog 262 #[Bt x] w fun e w'=>∃ b,e=.returned (.slice (some ⟨b,0,none⟩) 5 5)/\w.heap.size<=b/\af w w'/\World.blk w' b #[.iface 9 (.string ⟨x.name.toArray⟩),.iface 3 (.int .i64 x.id),.iface 3 (.int .i64 x.plane),.iface 3 (.int .i64 x.table.root),.iface 3 (.int .i64 x.table.size)] 20:=by
 obtain⟨s,i,pl,r,z⟩:=x;go_enter func262,ntmps262;go_wp2;go_ret;exact⟨_,rfl,by omega,((ah.refl _ _).alloc _).alloc _,bi (by simp) _ _⟩
theorem Io (w:World):
  Calls prog 211 #[] w fun e w'=>e=.returned Bw/\af w w':=by
 go_enter func211,ntmps211;go_wp2_with fail;exact avi (v:=Bw) (by simp[results,Tryz.results211,go_sem]) rfl ⟨rfl,(ah.refl _ _).alloc _⟩
end
section
open Go.RowKit
def jG (x:fC):List Value:=[.int .i64 x.num,.bool x.dir,.int .i64 x.links,.int .i64 x.blob.root,.int .i64 x.blob.size]
abbrev Zb (x:fC):Value:=.agg #[.int .i64 x.num,.bool x.dir,.int .i64 x.links,.int .i64 x.blob.root,.int .i64 x.blob.size]
theorem xw:∀ x,(jG x).length=5:=fun _=>rfl
theorem QK:∀ x,∀ u∈jG x,u.oneCell'=true:=by
 intro x u hu;simp only[jG,au8,List.not_mem_nil,or_false]at hu;rcases hu with rfl|rfl|rfl|rfl|rfl<;>rfl
abbrev vi:Value:=.agg #[.func (.func 277) #[] #[],.func (.func 278) #[] #[],.func (.func 280) #[] #[]]
def xx (was:Int)(x:fC):Prop:=was<x.num/\x.num<=65535/\1<=x.links/\x.links<=65535/\x.blob.ok=true
def Vd:fC:=⟨0,false,0,⟨0,0⟩⟩
def cE (l:List fC)(k:Nat):fC:=(l.take k).getLastD Vd
def cF (x:fC):List ay:=[aM x.num.toNat,aM (if x.dir=true then 1 else 0),aM x.links.toNat,aM x.blob.root.toNat,aM x.blob.size.toNat]
theorem qs {l:List fC}{k:Nat}{x:fC}(h:l[k]?=some x):cE l (k+1)=x:=by
 unfold cE;rw[auO,h];simp
theorem sj (x:fC):(cF x).flatten=ol x:=by simp[cF,ol,yJ]
theorem El:∀ {l:List fC} {was:Int},yK was l=true->∀ k x,l[k]?=some x->xx (match k with|0=>was|j+1=>((l[j]?).map (fun y:fC=>y.num)).getD 0) x
 |[],_,_,k,x,hk=>by simp at hk
 |y::r,was,h,k,x,hk=>by
  have h':=h;simp only[yK,au4,au9]at h'
  cases k with
  |zero=>
   simp at hk;subst hk;simp only[xx]
   simp_all
  |succ j=>
   have ih:=El (l:=r) (was:=y.num) h'.2 j x (by simpa using hk)
   cases j with
   |zero=>simpa using ih
   |succ i=>simpa using ih
theorem un {l:List fC}(h:yK 0 l=true){k:Nat}{x:fC}(hk:l[k]?=some x):xx (cE l k).num x:=by
 have h1:=El h k x hk
 cases k with
 |zero=>exact h1
 |succ j=>
  have hj:j<l.length:=by have:=(au0.1 hk).1;omega
  have e:cE l (j+1)=l[j]:=qs (auM hj);rw[e];simpa[auM hj]using h1
theorem Ip (was x:fC)(first:Bool)(h:xx was.num x)(w:World):
  Calls prog 277 #[Zb was,Zb x,.bool first] w fun e w'=>e=.returned (.bool true)/\af w w':=by
 have HB:=hd0 (fun W=>Ag x.blob (by unfold xx at h;simp_all) W);obtain⟨h1,h2,h3,h4,h5⟩:=h;obtain⟨n0,d0,l0,r0,z0⟩:=was;obtain⟨n,di,li,r,z⟩:=x;simp only at h1 h2 h3 h4;clear h5;have hbv:de ⟨r,z⟩=.agg #[.int .i64 r,.int .i64 z]:=rfl;simp only[hbv]at HB;have hk:af w ((w.alloc (.cells #[.int .i64 n0,.bool d0,.int .i64 l0,.int .i64 r0,.int .i64 z0] 128)).alloc (.cells #[.int .i64 n,.bool di,.int .i64 li,.int .i64 r,.int .i64 z] 128)):=((ah.refl _ w).alloc _).alloc _;have HK:=hd0 hk;clear hk;go_enter func277,ntmps277;go_wp2_with fail;refine(HB.out _).mono ?_;rintro e w4 ⟨rfl,jo⟩;have lZ:=hd0 (HK.out.keep jo);clear jo;go_wp2;go_ret;exact⟨rfl,lZ.out⟩
theorem Ve (b:Bool)(w:World):Calls prog 279 #[.bool b] w fun e w'=>e=.returned (.int .i64 (if b=true then 1 else 0))/\af w w':=by
 cases b with
 |true=>
  go_enter func279,ntmps279;go_wp2;go_ret;exact⟨rfl,ah.refl _ _⟩
 |false=>
  go_enter func279,ntmps279;go_wp2;go_ret;exact⟨rfl,ah.refl _ _⟩
theorem Iq (x:fC)(w:World):
  Calls prog 278 #[Zb x] w fun e w'=>∃ b,e=.returned (.slice (some ⟨b,0,none⟩) 5 5)/\w.heap.size<=b/\af w w'/\World.blk w' b #[.iface 3 (.int .i64 x.num),.iface 3 (.int .i64 (if x.dir=true then 1 else 0)),.iface 3 (.int .i64 x.links),.iface 3 (.int .i64 x.blob.root),.iface 3 (.int .i64 x.blob.size)] 20:=by
 obtain⟨n,di,li,r,z⟩:=x;have BI:=Ve di;obtain⟨bv,hbv⟩:∃ bv:Int,(if di=true then(1:Int)else 0)=bv:=⟨_,rfl⟩
 simp only[hbv]at BI ⊢;clear hbv;have BI:=hd0 BI;obtain⟨W,hW⟩:∃ W,w.alloc (.cells #[.int .i64 n,.bool di,.int .i64 li,.int .i64 r,.int .i64 z] 128)=W:=⟨_,rfl⟩
 have k0:af w W:=by rw[<-hW];exact(ah.refl _ w).alloc _
 have b0:World.blk W w.heap.size #[.int .i64 n,.bool di,.int .i64 li,.int .i64 r,.int .i64 z] 128:=by rw[<-hW];exact aw w _ _
 have cx:∀(x:zv) (o:Nat),(W.ext x).cell? ⟨w.heap.size,o,none⟩=(#[.int .i64 n,.bool di,.int .i64 li,.int .i64 r,.int .i64 z]:Array Value)[o]?:=fun x o=>aa (ab (aD W x) b0 id) o;have c0:∀ x,(W.ext x).cell? ⟨w.heap.size,0,none⟩=some (.int .i64 n):=fun x=>cx x 0;have c1:∀ x,(W.ext x).cell? ⟨w.heap.size,1,none⟩=some (.bool di):=fun x=>cx x 1;have c2:∀ x,(W.ext x).cell? ⟨w.heap.size,2,none⟩=some (.int .i64 li):=fun x=>cx x 2;have c3:∀ x,(W.ext x).cell? ⟨w.heap.size,3,none⟩=some (.int .i64 r):=fun x=>cx x 3;have c4:∀ x,(W.ext x).cell? ⟨w.heap.size,4,none⟩=some (.int .i64 z):=fun x=>cx x 4;have HK:=hd0 k0;clear k0 b0 cx;go_enter func278,ntmps278;go_wp2_with fail;refine rK 18 (by kernel_rfl) (by kernel_rfl) ?_;simp only[avz,avA,avB,avC]
 repeat (quiet_step (with_reducible exact bA (BI.out _)))
 refine avE ?_;intro _ cL;obtain⟨xq,rfl⟩:=cL;have bw:=hd0 (HK.out.keep (aD W xq));have cJ:=bw.out.size;go_wp2;go_ret;have he:(W.ext xq).heap.size=W.heap.size+xq.objs.size:=by simp[World.ext]
 exact⟨_,rfl,by rw[<-he];exact cJ,bw.out.alloc _,bi he.symm _ _⟩
theorem Em (w:World):
  Calls prog 226 #[] w fun e w'=>e=.returned vi/\af w w':=by
 go_enter func226,ntmps226;go_wp2_with fail;exact avi (v:=vi) (by simp[results,Tryz.results226,go_sem]) rfl ⟨rfl,(ah.refl _ _).alloc _⟩
end
theorem lC.turn {rd KQ:Rd}:∀ {ys:List fC} {xs:List Nt} {S:Nat->Prop},lC rd ys xs S->(∀ n:Nat,S n->KQ n=rd n)->lC KQ ys xs S
 |[],[],_,h,_=>h
 |_y::_ys,_x::_xs,_S,⟨h1,A,B,h2,h3,h4⟩,hr=>⟨h1,A,B,h2.turn fun n hn=>hr n ((h4 n).2 (.inl hn)),h3.turn fun n hn=>hr n ((h4 n).2 (.inr hn)),h4⟩
 |[],_::_,_,h,_=>h.elim
 |_::_,[],_,h,_=>h.elim
theorem j5.turn {rd KQ:Rd}{ys:List fC}{xs:List Nt}{t:fQ}{S:Nat->Prop}(h:j5 rd ys xs t S)(hr:∀ n:Nat,S n->KQ n=rd n):j5 KQ ys xs t S:=by
 obtain⟨A,B,h1,h2,h3⟩:=h;exact⟨A,B,h1.turn fun n hn=>hr n ((h3 n).2 (.inl hn)),h2.turn fun n hn=>hr n ((h3 n).2 (.inr hn)),h3⟩
theorem lC.len {rd:Rd}:∀ {ys:List fC} {xs:List Nt} {S:Nat->Prop},lC rd ys xs S->ys.length=xs.length
 |[],[],_,_=>rfl
 |y::ys,x::xs,S,⟨_,A,B,_,h3,_⟩=>by simp[h3.len]
 |[],_::_,_,h=>h.elim
 |_::_,[],_,h=>h.elim
theorem lC.nums {rd:Rd}:∀ {ys:List fC} {xs:List Nt} {S:Nat->Prop},lC rd ys xs S->ys.map (·.num)=xs.map (·.num)
 |[],[],_,_=>rfl
 |y::ys,x::xs,S,⟨h1,A,B,_,h3,_⟩=>by simp[h3.nums,h1.1]
 |[],_::_,_,h=>h.elim
 |_::_,[],_,h=>h.elim
theorem lC.lt {rd:Rd}:∀ {ys:List fC} {xs:List Nt} {S:Nat->Prop},lC rd ys xs S->∀ n,S n->1<=n/\n<4096
 |[],[],_,h,n,hn=>absurd hn (h n)
 |y::ys,x::xs,S,⟨_,A,B,h2,h3,h4⟩,n,hn=>by
  rcases(h4 n).1 hn with h|h
  ·exact h2.lt h
  ·exact h3.lt n h
 |[],_::_,_,h,_,_=>h.elim
 |_::_,[],_,h,_,_=>h.elim
theorem lC.find {rd:Rd}:∀ {ys:List fC} {xs:List Nt} {S:Nat->Prop},lC rd ys xs S->∀ k:Int,
  ∃ br A,aR rd br (eg ys k) A/\(∀ n,A n->S n)/\br=cH xs k
 |[],[],_,_,k=>⟨[],fun _=>False,jg rd,fun _=>False.elim,rfl⟩
 |y::ys,x::xs,S,⟨h1,A,B,h2,h3,h4⟩,k=>by
  obtain⟨br,C,c1,c2,c3⟩:=h3.find k;have hn:=h3.nums;have key:(ys.filter fun z=>z.num==k)=[]↔(xs.filter fun z=>z.num==k)=[]:=by
   rw[List.filter_eq_nil_iff,List.filter_eq_nil_iff];have e:(∀ a∈ys,¬(a.num==k)=true)↔∀ m∈ys.map (·.num),¬(m==k)=true:=by simp
   have e2:(∀ a∈xs,¬(a.num==k)=true)↔∀ m∈xs.map (·.num),¬(m==k)=true:=by simp
   rw[e,e2,hn]
  by_cases hk:(ys.filter fun z=>z.num==k)=[]
  ·by_cases hy:(y.num==k)=true
   ·refine⟨x.data,A,?_,fun n hn=>(h4 n).2 (.inl hn),?_⟩
    ·unfold eg;rw[avY,auT hy,hk];exact h2
    ·have hx:(x.num==k)=true:=by rw[<-h1.1];exact hy
     unfold cH;rw[avY,auT hx,key.1 hk];rfl
   ·refine⟨br,C,?_,fun n hn=>(h4 n).2 (.inr (c2 n hn)),?_⟩
    ·unfold eg at c1 ⊢;rw[avY,auV hy];exact c1
    ·have hx:¬(x.num==k)=true:=by rw[<-h1.1];exact hy
     unfold cH at c3 ⊢;rw[avY,auV hx];exact c3
  ·refine⟨br,C,?_,fun n hn=>(h4 n).2 (.inr (c2 n hn)),?_⟩
   ·have:eg (y::ys) k=eg ys k:=by
     unfold eg;rw[avY];by_cases hy:(y.num==k)=true
     ·rw[auT hy,List.getLast?_cons]
      cases hg:(ys.filter fun z=>z.num==k).getLast? with
      |none=>exact absurd (List.getLast?_eq_none_iff.1 hg) hk
      |some z=>rfl
     ·rw[auV hy]
    rw[this];exact c1
   ·have df:¬(xs.filter fun z=>z.num==k)=[]:=fun h=>hk (key.2 h);have:cH (x::xs) k=cH xs k:=by
     unfold cH;rw[avY];by_cases hy:(x.num==k)=true
     ·rw[auT hy,List.getLast?_cons]
      cases hg:(xs.filter fun z=>z.num==k).getLast? with
      |none=>exact absurd (List.getLast?_eq_none_iff.1 hg) df
      |some z=>rfl
     ·rw[auV hy]
    rw[this];exact c3
 |[],_::_,_,h,_=>h.elim
 |_::_,[],_,h,_=>h.elim
def jj (p:Pl)(S:Nat->Prop):Prop:=∀ n,S n->ai p.used n=true/\n<p.blocks
theorem jj.grow {t t':gJ}{k:Nat}{S:Nat->Prop}(h:jj t.pool S)(g:dr t t' k):jj t'.pool S:=fun n hn=>⟨g.used n (h n hn).1,by rw[g.blocks];exact(h n hn).2⟩
theorem dr.same {t t':gJ}{k:Nat}{S:Nat->Prop}(g:dr t t' k)(h:jj t.pool S)(n:Nat)(hn:S n):t'.rd n=t.rd n:=g.keepRd (h n hn).1
theorem eK {t:gJ}{br data:ay}{b:fQ}{S:Nat->Prop}(ht:cG t.pool)(h:aR t.rd br b S)(hS:jj t.pool S)(hs:data.length<=16384)(hc:dd br data<=t.pool.left):
  ∃ b' t' S',dK t b data=.ok (b',t')/\aR t'.rd data b' S'/\dr t t' (dd br data)/\jj t'.pool S'/\(∀ n,S' n->S n\/ai t.pool.used n=false)/\(br=data->b'=b/\t'=t/\∀ n,S' n↔S n):=by
 by_cases he:br=data
 ·subst he;have hh:br.length<=16384:=h.1;exact⟨b,t,S,Dw h,h,by rw[kY br hh];exact dr.refl ht,hS,fun n hn=>.inl hn,fun _=>⟨rfl,rfl,fun _=>Iff.rfl⟩⟩
 ·have h':=h;obtain⟨hh,was,rfl,hw,hSw⟩:=h;have hu:∀ l∈was,∀ n∈l,fK t.pool n:=by
   intro l hl n hn;have hf:n∈was.flatten:=List.mem_flatten.2 ⟨l,hl,hn⟩;have hr:=nC hw hf;obtain⟨k,rfl⟩:∃ k:Nat,n=k:=⟨n.toNat,by omega⟩
   obtain⟨h1,h2⟩:=hS k ((hSw k).2 hf);exact⟨k,rfl,h1,by omega,h2⟩
  obtain⟨nums,t',e,h1,h2,h3,h4⟩:=Lw ht hw hu hs hh hc;refine⟨_,t',fun n=>(n:Int)∈nums.flatten,e,⟨hs,nums,rfl,h1,fun _=>Iff.rfl⟩,h2,fun n hn=>?_,fun n hn=>?_,fun h=>absurd h he⟩
  ·obtain⟨l,hl,hm⟩:=List.mem_flatten.1 hn;obtain⟨k,e,a,b,c⟩:=h3 l hl _ hm;have:n=k:=by omega
   subst this;exact⟨a,c⟩
  ·rcases h4 n hn with h|h
   ·exact .inl ((hSw n).2 h)
   ·exact .inr h
end Go.Proofs.YtkghpdcloaiflaaGreatDoor
