import Derived.Test.YtkghpdcloaiflaaGreatDoorB20
import Derived.Test.YtkghpdcloaiflaaGreatDoorB26
set_option maxHeartbeats 8000000
set_option maxRecDepth 100000
namespace Go.Proofs.YtkghpdcloaiflaaGreatDoor
open _root_.Go.Proofs.Tryz
section
section
open Go.RowKit Go.Maps Go.Shelf
theorem Y8 {l:List (Int×Nat)}{x:Int}{c:Option Addr}{yd:DataW Value}{yp:List MemPlace}(hv:jm (.pointer c)=some (yd,yp))(qt:∀ zd,(Oi l).atKey (.int .i64 x) zd=yd):∃ a,bF x l=some a/\c=some ⟨a,0,none⟩:=by
 have e:DataW.held (.pointer c)=yd:=by
  unfold jm at hv;injection hv with h;injection h
 subst e;have h1:=(kI (ef:=yG) cN x l (oG 0)).symm.trans (qt (oG 0))
 cases hg:bF x l with
 |none=>rw[hg]at h1;cases h1
 |some a=>
  rw[hg]at h1;refine⟨a,rfl,?_⟩;simp[yG]at h1;exact h1.symm
theorem U0 (v:Value)(y:DataW Value×List MemPlace)(h:jm v=some y):∃ c,v=Value.pointer c:=by
 cases v<;>simp[jm]at h
 exact⟨_,rfl⟩
theorem U2 (key:Value)(kl:Lit)(h:keyOf prog 3 key=some kl):∃ x,key=Value.int .i64 x:=by
 obtain⟨x,hx,_⟩:=Maps.keyOf_int_inv underlying3 h;exact⟨x,hx⟩
theorem Ml {w:World}{p tb:Nat}(h1:World.blk w p #[.map (some tb)] 249)(h2:Md w tb [])(h3:p≠tb):aH w p [] tb (fun _=>0) (fun _=>0) (fun b=>if b=p then .tree else if b=tb then .of else .none) where
 tree:=h1
 rtree:=au8 rfl
 of:=h2
 rof:=by rw[ava (Ne.symm h3),au8 rfl]
 node n hn:=by cases hn
 rnode n hn:=by cases hn
 names n hn:=by cases hn
 rnames n hn:=by cases hn
 lt b hb:=by
  by_cases e:b=p
  ·rw[e];exact ak h1
  ·by_cases e2:b=tb
   ·rw[e2];exact h2.lt
   ·rw[ava e,ava e2]at hb;exact absurd rfl hb
theorem Ij (b:Nat)(l:Nm)(w:World)(h:Id w b l):Calls prog 191 #[.map (some b)] w fun e w'=>e=.returned (.map (some w.heap.size))/\Id w' w.heap.size l/\af w w':=by
 refine(AnyW.maps_Clone_owns Tryz.cloneN 9 (plainElem prog 3) b l.length (Oh l) w h).mono ?_;rintro e w' ⟨rfl,h1,_,h3⟩;exact⟨rfl,h1,ah.ofBelow h3⟩
theorem Ik (w:World):Calls prog 191 #[.map none] w fun e w'=>e=.returned (.map none)/\w'=w:=
 AnyW.maps_Clone_nil Tryz.cloneN w
def gg (T:Tr)(left:Lit->Bool):Tr:=T.filter fun n=>!left (.int .i64 n.num)
theorem U3 {T:Tr}{left:Lit->Bool}(h:∀ l,left l=false):gg T left=T:=List.filter_eq_self.2 fun n _=>by rw[h];rfl
theorem QB {T:Tr}{left:Lit->Bool}(h:∀ n∈T,left (.int .i64 n.num)=true):gg T left=[]:=List.filter_eq_nil_iff.2 fun n hn=>by rw[h n hn];simp
theorem Bl {T:Tr}{left:Lit->Bool}{n:Nd}:n∈gg T left↔n∈T/\left (.int .i64 n.num)=false:=by simp[gg]
theorem Ef {T:Tr}{left:Lit->Bool}{x:Int}{n:Nd}(hs:de T)(hn:n∈T)(hx:n.num=x)(hl:left (.int .i64 x)=true):Tr.add n (gg T left)=gg T (fun z=>left z&&!z.sameKey (.int .i64 x)):=by
 subst hx
 induction T with
 |nil=>cases hn
 |cons y r ih=>
  obtain⟨h1,h2⟩:=av5.1 hs;rcases avn.1 hn with rfl|hm
  ·have e1:gg (n::r) left=gg r left:=by
    unfold gg;rw[awd,ava (by rw[hl];simp)]
   have e2:gg (n::r) (fun z=>left z&&!z.sameKey (.int .i64 n.num))=n::gg r left:=by
    unfold gg;rw[awd,au8 (by simp[cN])]
    congr 1
    refine List.filter_congr fun m hm=>?_;have:=h1 m hm;simp only[cN,awh (show m.num≠n.num by omega)];simp
   rw[e1,e2]
   cases hq:gg r left with
   |nil=>rfl
   |cons z q=>
    have hz:z∈gg r left:=by rw[hq];simp
    have:=h1 z (Bl.1 hz).1;show(if n.num<z.num then _ else _)=_;rw[au8 this]
  ·have h3:=h1 n hm;have e:(Lit.int .i64 y.num).sameKey (.int .i64 n.num)=false:=by rw[cN];exact awh (by omega)
   by_cases hy:left (.int .i64 y.num)=true
   ·have e1:gg (y::r) left=gg r left:=by
     unfold gg;rw[awd,ava (by rw[hy];simp)]
    have e2:gg (y::r) (fun z=>left z&&!z.sameKey (.int .i64 n.num))=gg r (fun z=>left z&&!z.sameKey (.int .i64 n.num)):=by
     unfold gg;rw[awd,ava (by simp[hy,e])]
    rw[e1,e2];exact ih h2 hm
   ·have hy':left (.int .i64 y.num)=false:=by simpa using hy
    have e1:gg (y::r) left=y::gg r left:=by
     unfold gg;rw[awd,au8 (by rw[hy'];simp)]
    have e2:gg (y::r) (fun z=>left z&&!z.sameKey (.int .i64 n.num))=y::gg r (fun z=>left z&&!z.sameKey (.int .i64 n.num)):=by
     unfold gg;rw[awd,au8 (by simp[hy'])]
    rw[e1,e2];show(if n.num<y.num then _ else _)=_;rw[ava (by omega),ih h2 hm]
section
variable {T:Tr}{d:Int->Nat}{p tb:Nat}{A M:Int->Nat}{role:Nat->cW}{w:World}
def Mm (w:World)(T:Tr)(e:Ending)(w':World):Prop:=
 ∃ p tb A M role,e=.returned (.pointer (some ⟨p,0,none⟩))/\aH w' p T tb A M role/\(∀ b,role b≠.none->w.heap.size<=b)/\af w w'
theorem Mn (h:aH w p T tb A M role)(hw:WF T d):Calls prog 117 #[.pointer (some ⟨p,0,none⟩)] w (Mm w T):=by
 have HW:=hd0 hw;have To:=@run_makeMap prog;have sK:=hw.many;have jW:Hid (aH ((w.alloc (.map #[] 0)).alloc (.cells #[.map (some w.heap.size)] 249)) (w.heap.size+1) [] w.heap.size (fun _=>0) (fun _=>0) (fun b=>if b=w.heap.size+1 then .tree else if b=w.heap.size then .of else .none)):=hd0 (Ml (aZ (by simp) _ _) ((dD.made w).mod ((ah.refl (fun _=>False) _).alloc _) id) (by omega));have dT:Hid (af w ((w.alloc (.map #[] 0)).alloc (.cells #[.map (some w.heap.size)] 249))):=hd0 (((ah.refl _ w).alloc _).alloc _);have yZ:((w.alloc (.map #[] 0)).alloc (.cells #[.map (some w.heap.size)] 249)).heap.size=w.heap.size+2:=by simp
 have HT:Hid (aH w p T tb A M role):=hd0 h;have uw:=h.of.lt;clear hw h;go_enter func117,ntmps117;have c0:((w.alloc (.map #[] 0)).alloc (.cells #[.map (some w.heap.size)] 249)).cell? ⟨p,0,none⟩=some (.map (some tb)):=aa (HT.out.keep dT.out).tree 0;go_wp2_with (at_range;refine wpList_range_own _ rfl _ 247 rfl 3 243 (int_keyed underlying3) underlying247 _ tb (cm T A).length (Oi (cm T A)) rfl ((HT.out.keep dT.out).of) ?_;intro w7 Fo Ys WE)
 try go_frame
 have Cl:=hd0 Fo;have HKg:Hid (af ((w.alloc (.map #[] 0)).alloc (.cells #[.map (some w.heap.size)] 249)) w7):=hd0 (qF Ys);rw[yZ]at WE;rw[yZ]at Cl;have HT7:=hd0 (jW.out.keep HKg.out);have zi:=hd0 (dT.out.keep HKg.out);clear Fo Ys c0 jW dT HKg yZ
 go_loopw [15] (fun _ wr=>∃(left:Lit->Bool) (j6:Nat) (A' M':Int->Nat) (j0:Nat->cW),World.ranges wr prog 3 jm tb (w.heap.size+2) (cm T A).length (Oi (cm T A)) left j6/\af w wr/\aH wr (w.heap.size+1) (gg T left) w.heap.size A' M' j0/\Hid (∀ b,j0 b≠.none->w.heap.size<=b/\b≠w.heap.size+2)/\w.heap.size+3<=wr.heap.size) (fun _ wr=>wr.rangeLeft tb (w.heap.size+2))
 case atStart=>
  have lD:gg T (has (Oi (cm T A)))=[]:=QB fun n hn=>by
   rw[pI cN,pU,(aw HW.out.sorted).2 ⟨hn,rfl⟩];rfl
  refine⟨_,_,fun _=>0,fun _=>0,fun b=>if b=w.heap.size+1 then cW.tree else if b=w.heap.size then cW.of else cW.none,Cl.out,zi.out,by rw[lD];exact HT7.out,hd0 fun b hb=>?_,by omega⟩;by_cases e:b=w.heap.size+1
  ·omega
  ·by_cases e2:b=w.heap.size
   ·omega
   ·simp only[ava e,ava e2]at hb;exact absurd rfl hb
 case round=>
  clear Cl zi HT7;obtain⟨left,cn,A',M',j0,TZ,hK,hT',Hq,cV⟩:=hrel;have Jg:=hd0 TZ;have HK:=hd0 hK;have HT':=hd0 hT';clear TZ hK hT';go_wp2_with (at_next;refine wpList_next_ranges wr rfl _ rfl 3 (int_keyed underlying3) jm (Value.int .i64) Value.pointer U2 U0 tb (w.heap.size+2) _ (Oi (cm T A)) left cn rfl Jg.out ?_ ?_)
  ·intro _ yz;have HTe:Hid (aH wr (w.heap.size+1) T w.heap.size A' M' j0):=hd0 (by have:=HT'.out;rw[U3 yz]at this;exact this);clear yz;go_wp2;go_ret;exact⟨w.heap.size+1,w.heap.size,A',M',j0,rfl,HTe.out,fun b hb=>(Hq.out b hb).1,HK.out⟩
  ·intro x c kl yd yp w' sG Je AE hv qt Fs aL RU sM hen;obtain⟨x',ex,rfl,_⟩:=Maps.keyOf_int_inv underlying3 Je
   cases ex
   obtain⟨a,hga,rfl⟩:=Y8 hv qt;rw[pU]at hga
   cases hgn:T.get x with
   |none=>rw[hgn]at hga;cases hga
   |some n=>
    rw[hgn]at hga;obtain⟨mn,pA⟩:=(aw HW.out.sorted).1 hgn;have ha:A x=a:=by
     have:A n.num=a:=av6 hga;rw[pA]at this;exact this
    subst ha;have YK:Hid (af w w'):=hd0 (HK.out.grown RU (fun i e=>.inr (by injection e with e;omega)));have HTo:=hd0 (HT.out.keep YK.out);have Yi:Hid (aH w' (w.heap.size+1) (gg T left) w.heap.size A' M' j0):=hd0 (HT'.out.mod (gS RU) (fun b hb e=>(Hq.out b hb).2 e));have a0:w'.cell? ⟨A x,0,none⟩=some (.int .i64 n.num):=HTo.out.cell HW.out.sorted hgn 0;have a1:w'.cell? ⟨A x,1,none⟩=some (.bool n.dir):=HTo.out.cell HW.out.sorted hgn 1;have a2:w'.cell? ⟨A x,2,none⟩=some (.int .i64 n.links):=HTo.out.cell HW.out.sorted hgn 2;have a3:w'.cell? ⟨A x,3,none⟩=some (.string ⟨n.data.toArray⟩):=HTo.out.cell HW.out.sorted hgn 3;have a4:w'.cell? ⟨A x,4,none⟩=some (.map (if n.dir=true then some (M x)else none)):=HTo.out.cell HW.out.sorted hgn 4;have cr:=fun hd=>(HTo.out.names n mn hd)
    rw[pA]at cr;have ze:=hd0 cr;have Hn:=hd0 (And.intro mn pA);have V4:=hd0 AE;have uH:=hd0 Fs;have Hlt:=hd0 (show sG<cn from aL);have sC:=hd0 (Jg.out.left_eq);have yr:=(gy HW.out hgn)
    have XV:=RU.size;clear Je AE hv qt Fs aL RU sM hga mn pA hgn cr
    cases hd:n.dir with
    |true=>
     rw[hd]at a1 a4;rw[au8 rfl]at a4;have Hd:=hd0 hd;have hAx:=ai a4;have e4:(w'.alloc (.cells #[.int .i64 x,.bool true,.int .i64 n.links,.string ⟨n.data.toArray⟩,.map (some (M x))] 246)).cell? ⟨A x,4,none⟩=some (.map (some (M x))):=by
      rw[((ah.refl (fun _=>False) w').alloc _).cell (p:=⟨A x,4,none⟩) hAx id];exact a4
     clear hd;go_wp2_with fail;have jk:Hid (World.blk (w'.alloc (.cells #[.int .i64 x,.bool true,.int .i64 n.links,.string ⟨n.data.toArray⟩,.map (some (M x))] 246)) w'.heap.size #[.int .i64 x,.bool true,.int .i64 n.links,.string ⟨n.data.toArray⟩,.map (some (M x))] 246):=hd0 (av _ _ _);have BH:Hid (af w' (w'.alloc (.cells #[.int .i64 x,.bool true,.int .i64 n.links,.string ⟨n.data.toArray⟩,.map (some (M x))] 246))):=hd0 ((ah.refl _ w').alloc _);have hsa:(w'.alloc (.cells #[.int .i64 x,.bool true,.int .i64 n.links,.string ⟨n.data.toArray⟩,.map (some (M x))] 246)).heap.size=w'.heap.size+1:=by simp
     generalize w'.alloc (.cells #[.int .i64 x,.bool true,.int .i64 n.links,.string ⟨n.data.toArray⟩,.map (some (M x))] 246)=wa at*;refine(Ij (M x) n.names wa ((ze.out Hd.out).mod BH.out id)).mono ?_;rintro e wb ⟨rfl,yR,Tl⟩;have HMb:=hd0 yR;have OA:=hd0 (BH.out.keep Tl);have WD:=hd0 (ab Tl jk.out id);have hlb:=yR.lt;rw[hsa]at HMb hlb;rw[hsa];clear yR Tl BH jk e4 a0 a1 a2 a3 a4;have pA:=yr.1;have WO:=hd0 (Yi.out.keep OA.out);have e5:wb.cell? ⟨w'.heap.size,4,none⟩=some (.map (some (M x))):=aa WD.out 4;have f5:wb.frozen? ⟨w'.heap.size,4,none⟩=false:=ae WD.out _ rfl;have V2:Hid (af w' (wb.setCell ⟨w'.heap.size,4,none⟩ (.map (some (w'.heap.size+1))))):=hd0 (ah.setCell OA.out (.inr (au4 _)) _);have SM:Hid (World.blk (wb.setCell ⟨w'.heap.size,4,none⟩ (.map (some (w'.heap.size+1)))) w'.heap.size #[.int .i64 x,.bool true,.int .i64 n.links,.string ⟨n.data.toArray⟩,.map (some (w'.heap.size+1))] 246):=hd0 (ag WD.out 4 _);have HMc:=hd0 (HMb.out.mod (ah.setCell (ah.refl (·=w'.heap.size) wb) (p:=⟨w'.heap.size,4,none⟩) (.inl rfl) (.map (some (w'.heap.size+1)))) (by omega:¬ w'.heap.size+1=w'.heap.size));have e6:(wb.setCell ⟨w'.heap.size,4,none⟩ (.map (some (w'.heap.size+1)))).cell? ⟨w.heap.size+1,0,none⟩=some (.map (some w.heap.size)):=aa (Yi.out.keep V2.out).tree 0;have sp:∀ y∈gg T left,y.num≠n.num:=fun y hy e=>by
      have h1:=(Bl.1 hy).2;rw[e,pA,V4.out]at h1;cases h1
     have Hxn:=hd0 sp;have yn:=hd0 pA;clear sp pA WD WO
     go_wp2_with ((at_mapUpdate
                   refine iD (Yi.out.of.mod V2.out id) underlying247 underlying3 x (by omega) w'.heap.size (by have:(gg T left).length<=T.length:=avc _ _;simp[cm];omega) rfl rfl rfl rfl rfl ?_;intro wd oo mX;have jG:ah (·=w.heap.size) w' wd:=(V2.out.mono (fun _ _ h=>h.elim)).trans mX (fun _ _ h=>h);rw[<-yn.out]at oo;have Ju:=rS (n0:=n) (a:=w'.heap.size) (m:=w'.heap.size+1) Yi.out Hxn.out jG (au4 _) (by omega) (by omega) (avb (ak SM.out) mX.size) (fun _=>avb HMc.out.lt mX.size) oo (by
                    have h:=ab mX SM.out (show ¬ w'.heap.size=w.heap.size by omega);have e:jQ n (w'.heap.size+1)=#[.int .i64 x,.bool true,.int .i64 n.links,.string ⟨n.data.toArray⟩,.map (some (w'.heap.size+1))]:=by simp[jQ,Hd.out,yn.out]
                    rw[e];exact h) (fun _=>HMc.out.mod mX (by omega))
                   rw[Ef HW.out.sorted Hn.out.1 yn.out V4.out]at Ju;have HT6:=hd0 Ju;have u9:Hid (af w wd):=hd0 (YK.out.new jG (au4 _));have Tx:=hd0 (uH.out.kept (sS jG) (by simp;omega) (by simp));have hsd:=mX.size;have hsc:=V2.out.size;clear oo mX jG Ju))
     simp only[Act.put]
     go_roundw
     case rel=>
      refine⟨_,sG,_,_,_,Tx.out,u9.out,HT6.out,hd0 fun b hb=>?_,by omega⟩;by_cases e1:b=w'.heap.size
      ·omega
      ·by_cases e2:b=w'.heap.size+1/\n.dir=true
       ·omega
       ·simp only[ava e1,ava e2]at hb;exact Hq.out b hb
     case measure=>
      rw[Tx.out.left_eq,sC.out];exact Hlt.out
    |false=>
     rw[hd]at a1 a4;rw[ava (by decide)]at a4;have Hd:=hd0 hd;have hAx:=ai a4;have e4:(w'.alloc (.cells #[.int .i64 x,.bool false,.int .i64 n.links,.string ⟨n.data.toArray⟩,.map none] 246)).cell? ⟨A x,4,none⟩=some (.map none):=by
      rw[((ah.refl (fun _=>False) w').alloc _).cell (p:=⟨A x,4,none⟩) hAx id];exact a4
     clear hd;go_wp2_with fail;have jk:Hid (World.blk (w'.alloc (.cells #[.int .i64 x,.bool false,.int .i64 n.links,.string ⟨n.data.toArray⟩,.map none] 246)) w'.heap.size #[.int .i64 x,.bool false,.int .i64 n.links,.string ⟨n.data.toArray⟩,.map none] 246):=hd0 (av _ _ _);have BH:Hid (af w' (w'.alloc (.cells #[.int .i64 x,.bool false,.int .i64 n.links,.string ⟨n.data.toArray⟩,.map none] 246))):=hd0 ((ah.refl _ w').alloc _);have hsa:(w'.alloc (.cells #[.int .i64 x,.bool false,.int .i64 n.links,.string ⟨n.data.toArray⟩,.map none] 246)).heap.size=w'.heap.size+1:=by simp
     generalize w'.alloc (.cells #[.int .i64 x,.bool false,.int .i64 n.links,.string ⟨n.data.toArray⟩,.map none] 246)=wa at*;refine(Ik wa).mono ?_;rintro e wb ⟨rfl,Jp⟩;have OA:Hid (af w' wb):=hd0 (by rw[Jp];exact BH.out);have WD:Hid (World.blk wb w'.heap.size #[.int .i64 x,.bool false,.int .i64 n.links,.string ⟨n.data.toArray⟩,.map none] 246):=hd0 (by rw[Jp];exact jk.out);clear Jp BH jk e4 a0 a1 a2 a3 a4;have pA:=yr.1;have WO:=hd0 (Yi.out.keep OA.out);have e5:wb.cell? ⟨w'.heap.size,4,none⟩=some (.map none):=aa WD.out 4;have f5:wb.frozen? ⟨w'.heap.size,4,none⟩=false:=ae WD.out _ rfl;have V2:Hid (af w' (wb.setCell ⟨w'.heap.size,4,none⟩ (.map none))):=hd0 (ah.setCell OA.out (.inr (au4 _)) _);have SM:Hid (World.blk (wb.setCell ⟨w'.heap.size,4,none⟩ (.map none)) w'.heap.size #[.int .i64 x,.bool false,.int .i64 n.links,.string ⟨n.data.toArray⟩,.map none] 246):=hd0 (ag WD.out 4 _);have e6:(wb.setCell ⟨w'.heap.size,4,none⟩ (.map none)).cell? ⟨w.heap.size+1,0,none⟩=some (.map (some w.heap.size)):=aa (Yi.out.keep V2.out).tree 0;have sp:∀ y∈gg T left,y.num≠n.num:=fun y hy e=>by
      have h1:=(Bl.1 hy).2;rw[e,pA,V4.out]at h1;cases h1
     have Hxn:=hd0 sp;have yn:=hd0 pA;clear sp pA WD WO
     go_wp2_with ((at_mapUpdate
                   refine iD (Yi.out.of.mod V2.out id) underlying247 underlying3 x (by omega) w'.heap.size (by have:(gg T left).length<=T.length:=avc _ _;simp[cm];omega) rfl rfl rfl rfl rfl ?_;intro wd oo mX;have jG:ah (·=w.heap.size) w' wd:=(V2.out.mono (fun _ _ h=>h.elim)).trans mX (fun _ _ h=>h);rw[<-yn.out]at oo;have Ju:=rS (n0:=n) (a:=w'.heap.size) (m:=w'.heap.size+1) Yi.out Hxn.out jG (au4 _) (by omega) (by omega) (avb (ak SM.out) mX.size) (fun h=>by rw[Hd.out]at h;cases h) oo (by
                    have h:=ab mX SM.out (show ¬ w'.heap.size=w.heap.size by omega);have e:jQ n (w'.heap.size+1)=#[.int .i64 x,.bool false,.int .i64 n.links,.string ⟨n.data.toArray⟩,.map none]:=by simp[jQ,Hd.out,yn.out]
                    rw[e];exact h) (fun h=>by rw[Hd.out]at h;cases h)
                   rw[Ef HW.out.sorted Hn.out.1 yn.out V4.out]at Ju;have HT6:=hd0 Ju;have u9:Hid (af w wd):=hd0 (YK.out.new jG (au4 _));have Tx:=hd0 (uH.out.kept (sS jG) (by simp;omega) (by simp));have hsd:=mX.size;have hsc:=V2.out.size;clear oo mX jG Ju))
     simp only[Act.put]
     go_roundw
     case rel=>
      refine⟨_,sG,_,_,_,Tx.out,u9.out,HT6.out,hd0 fun b hb=>?_,by omega⟩;by_cases e1:b=w'.heap.size
      ·omega
      ·by_cases e2:b=w'.heap.size+1/\n.dir=true
       ·omega
       ·simp only[ava e1,ava e2]at hb;exact Hq.out b hb
     case measure=>
      rw[Tx.out.left_eq,sC.out];exact Hlt.out
end
end
end
section
open Go.RowKit
theorem Af (b:fU)(h:b.ok=true)(w:World):
  Calls prog 261 #[dc b] w fun e w'=>e=.returned (.bool true)/\af w w':=by
 obtain⟨r,s⟩:=b;simp only[fU.ok,fU.may,avj,avo,avF,decide_eq_decide]at h;obtain⟨⟨⟨⟨h1,h2⟩,h3⟩,h4⟩,h5⟩:=h;unfold dc;have hk:af w (w.alloc (.cells #[.int .i64 r,.int .i64 s] 42)):=(ah.refl _ w).alloc _;have HK:=hd0 hk;clear hk;by_cases hr:r=0
 ·have hs:=h3.1 hr;subst hr hs;go_enter func261,ntmps261;go_wp2;go_ret;exact⟨rfl,HK.out⟩
 ·have hs:¬ s=0:=fun e=>hr (h3.2 e);have e1:(r==0)=false:=by simpa using hr
  have e2:(s==0)=false:=by simpa using hs
  clear h3;go_enter func261,ntmps261;go_wp2;go_ret;exact⟨rfl,HK.out⟩
end
section
open Go.RowKit
def ue (x:Sn):List Value:=[.string ⟨x.name.toArray⟩,.int .i64 x.id,.int .i64 x.plane,.int .i64 x.table.root,.int .i64 x.table.size]
abbrev Bm (x:Sn):Value:=.agg #[.string ⟨x.name.toArray⟩,.int .i64 x.id,.int .i64 x.plane,.int .i64 x.table.root,.int .i64 x.table.size]
theorem jo:∀ x,(ue x).length=5:=fun _=>rfl
theorem J7:∀ x,∀ u∈ue x,u.oneCell'=true:=by
 intro x u hu;simp only[ue,avn,List.not_mem_nil,or_false]at hu;rcases hu with rfl|rfl|rfl|rfl|rfl<;>rfl
abbrev Bn:Value:=.agg #[.func (.func 260) #[] #[],.func (.func 262) #[] #[],.func (.func 263) #[] #[]]
def Il (was:Int)(x:Sn):Prop:=was<x.id/\aK x.name=true/\x.id<=1099511627776/\1<=x.plane/\x.plane<=7/\x.table.ok=true
def Y9:Sn:=⟨[],0,0,⟨0,0⟩⟩
def dq (l:List Sn)(k:Nat):Sn:=(l.take k).getLastD Y9
def cd (x:Sn):List ay:=[(aG x.name.length++x.name),aG x.id.toNat,aG x.plane.toNat,aG x.table.root.toNat,aG x.table.size.toNat]
theorem rT {l:List Sn}{k:Nat}{x:Sn}(h:l[k]?=some x):dq l (k+1)=x:=by
 unfold dq;rw[au3,h];simp
theorem uf (x:Sn):(cd x).flatten=oW x:=by simp[cd,oW,yI]
theorem J8:∀ {l:List Sn} {was:Int},TB was l=true->∀ k x,l[k]?=some x->Il (match k with|0=>was|j+1=>((l[j]?).map (fun y:Sn=>y.id)).getD 0) x
 |[],_,_,k,x,hk=>by simp at hk
 |y::r,was,h,k,x,hk=>by
  have h':=h;simp only[TB,avj,avo]at h'
  cases k with
  |zero=>
   simp at hk;subst hk;simp only[Il]
   simp_all
  |succ j=>
   have ih:=J8 (l:=r) (was:=y.id) h'.2 j x (by simpa using hk)
   cases j with
   |zero=>simpa using ih
   |succ i=>simpa using ih
theorem xm {l:List Sn}(h:TB 0 l=true){k:Nat}{x:Sn}(hk:l[k]?=some x):Il (dq l k).id x:=by
 have h1:=J8 h k x hk
 cases k with
 |zero=>exact h1
 |succ j=>
  have hj:j<l.length:=by have:=(avf.1 hk).1;omega
  have e:dq l (j+1)=l[j]:=rT (au1 hj);rw[e];simpa[au1 hj]using h1
theorem Mo (was x:Sn)(first:Bool)(h:Il was.id x)(w:World):
  Calls prog 260 #[Bm was,Bm x,.bool first] w fun e w'=>e=.returned (.bool true)/\af w w':=by
 have HB:=hd0 (fun W=>Af x.table (by unfold Il at h;simp_all) W);obtain⟨h1,h2,h3,h4,h5,h6⟩:=h;obtain⟨s0,i0,p0,r0,z0⟩:=was;obtain⟨s,i,pl,r,z⟩:=x;simp only at h1 h3 h4 h5;have bA:s.length<=16:=by have h7:=h2;simp only[aK,avj,avo]at h7;omega
 have HN:=hd0 (fun W=>rQ s W (by omega));have H2:Hid (aK s=true):=hd0 h2;clear h2 h6 bA;have hbv:dc ⟨r,z⟩=.agg #[.int .i64 r,.int .i64 z]:=rfl;simp only[hbv]at HB;go_enter func260,ntmps260;go_wp2_with fail;refine(HN.out _).mono ?_;rintro e w3 ⟨rfl,hk⟩;rw[H2.out];have iI:World.blk w3 w.heap.size #[.string ⟨s0.toArray⟩,.int .i64 i0,.int .i64 p0,.int .i64 r0,.int .i64 z0] 85:=ab hk (aF (av _ _ _) _) id;have hb1:World.blk w3 (w.heap.size+1) #[.string ⟨s.toArray⟩,.int .i64 i,.int .i64 pl,.int .i64 r,.int .i64 z] 85:=ab hk (aZ (by simp) _ _) id;have c0:w3.cell? ⟨w.heap.size,1,none⟩=some (.int .i64 i0):=aa iI 1;have c1:w3.cell? ⟨w.heap.size+1,1,none⟩=some (.int .i64 i):=aa hb1 1;have c2:w3.cell? ⟨w.heap.size+1,2,none⟩=some (.int .i64 pl):=aa hb1 2;have c3:w3.cell? ⟨w.heap.size+1,3,none⟩=some (.int .i64 r):=aa hb1 3;have c4:w3.cell? ⟨w.heap.size+1,4,none⟩=some (.int .i64 z):=aa hb1 4;have HK:=hd0 (dO (dO hk));clear hk iI hb1;go_wp2_with fail;refine(HB.out _).mono ?_;rintro e w4 ⟨rfl,jj⟩;have od:=hd0 (HK.out.keep jj);clear jj;go_wp2;go_ret;exact⟨rfl,od.out⟩
theorem Mp (x:Sn)(w:World):
  Calls prog 262 #[Bm x] w fun e w'=>∃ b,e=.returned (.slice (some ⟨b,0,none⟩) 5 5)/\w.heap.size<=b/\af w w'/\World.blk w' b #[.iface 9 (.string ⟨x.name.toArray⟩),.iface 3 (.int .i64 x.id),.iface 3 (.int .i64 x.plane),.iface 3 (.int .i64 x.table.root),.iface 3 (.int .i64 x.table.size)] 20:=by
 obtain⟨s,i,pl,r,z⟩:=x;go_enter func262,ntmps262;go_wp2;go_ret;exact⟨_,rfl,by omega,((ah.refl _ _).alloc _).alloc _,aZ (by simp) _ _⟩
theorem Im (w:World):
  Calls prog 211 #[] w fun e w'=>e=.returned Bn/\af w w':=by
 go_enter func211,ntmps211;go_wp2_with fail;exact avy (v:=Bn) (by simp[results,Tryz.results211,go_sem]) rfl ⟨rfl,(ah.refl _ _).alloc _⟩
end
section
open Go.RowKit
def jD (x:fH):List Value:=[.int .i64 x.num,.bool x.dir,.int .i64 x.links,.int .i64 x.blob.root,.int .i64 x.blob.size]
abbrev Za (x:fH):Value:=.agg #[.int .i64 x.num,.bool x.dir,.int .i64 x.links,.int .i64 x.blob.root,.int .i64 x.blob.size]
theorem xn:∀ x,(jD x).length=5:=fun _=>rfl
theorem QC:∀ x,∀ u∈jD x,u.oneCell'=true:=by
 intro x u hu;simp only[jD,avn,List.not_mem_nil,or_false]at hu;rcases hu with rfl|rfl|rfl|rfl|rfl<;>rfl
abbrev uX:Value:=.agg #[.func (.func 277) #[] #[],.func (.func 278) #[] #[],.func (.func 280) #[] #[]]
def xo (was:Int)(x:fH):Prop:=was<x.num/\x.num<=65535/\1<=x.links/\x.links<=65535/\x.blob.ok=true
def U4:fH:=⟨0,false,0,⟨0,0⟩⟩
def cC (l:List fH)(k:Nat):fH:=(l.take k).getLastD U4
def cE (x:fH):List ay:=[aG x.num.toNat,aG (if x.dir=true then 1 else 0),aG x.links.toNat,aG x.blob.root.toNat,aG x.blob.size.toNat]
theorem qm {l:List fH}{k:Nat}{x:fH}(h:l[k]?=some x):cC l (k+1)=x:=by
 unfold cC;rw[au3,h];simp
theorem rU (x:fH):(cE x).flatten=oc x:=by simp[cE,oc,yI]
theorem Eg:∀ {l:List fH} {was:Int},yJ was l=true->∀ k x,l[k]?=some x->xo (match k with|0=>was|j+1=>((l[j]?).map (fun y:fH=>y.num)).getD 0) x
 |[],_,_,k,x,hk=>by simp at hk
 |y::r,was,h,k,x,hk=>by
  have h':=h;simp only[yJ,avj,avo]at h'
  cases k with
  |zero=>
   simp at hk;subst hk;simp only[xo]
   simp_all
  |succ j=>
   have ih:=Eg (l:=r) (was:=y.num) h'.2 j x (by simpa using hk)
   cases j with
   |zero=>simpa using ih
   |succ i=>simpa using ih
theorem ug {l:List fH}(h:yJ 0 l=true){k:Nat}{x:fH}(hk:l[k]?=some x):xo (cC l k).num x:=by
 have h1:=Eg h k x hk
 cases k with
 |zero=>exact h1
 |succ j=>
  have hj:j<l.length:=by have:=(avf.1 hk).1;omega
  have e:cC l (j+1)=l[j]:=qm (au1 hj);rw[e];simpa[au1 hj]using h1
theorem In (was x:fH)(first:Bool)(h:xo was.num x)(w:World):
  Calls prog 277 #[Za was,Za x,.bool first] w fun e w'=>e=.returned (.bool true)/\af w w':=by
 have HB:=hd0 (fun W=>Af x.blob (by unfold xo at h;simp_all) W);obtain⟨h1,h2,h3,h4,h5⟩:=h;obtain⟨n0,d0,l0,r0,z0⟩:=was;obtain⟨n,di,li,r,z⟩:=x;simp only at h1 h2 h3 h4;clear h5;have hbv:dc ⟨r,z⟩=.agg #[.int .i64 r,.int .i64 z]:=rfl;simp only[hbv]at HB;have hk:af w ((w.alloc (.cells #[.int .i64 n0,.bool d0,.int .i64 l0,.int .i64 r0,.int .i64 z0] 128)).alloc (.cells #[.int .i64 n,.bool di,.int .i64 li,.int .i64 r,.int .i64 z] 128)):=((ah.refl _ w).alloc _).alloc _;have HK:=hd0 hk;clear hk;go_enter func277,ntmps277;go_wp2_with fail;refine(HB.out _).mono ?_;rintro e w4 ⟨rfl,jj⟩;have od:=hd0 (HK.out.keep jj);clear jj;go_wp2;go_ret;exact⟨rfl,od.out⟩
theorem U5 (b:Bool)(w:World):Calls prog 279 #[.bool b] w fun e w'=>e=.returned (.int .i64 (if b=true then 1 else 0))/\af w w':=by
 cases b with
 |true=>
  go_enter func279,ntmps279;go_wp2;go_ret;exact⟨rfl,ah.refl _ _⟩
 |false=>
  go_enter func279,ntmps279;go_wp2;go_ret;exact⟨rfl,ah.refl _ _⟩
theorem Io (x:fH)(w:World):
  Calls prog 278 #[Za x] w fun e w'=>∃ b,e=.returned (.slice (some ⟨b,0,none⟩) 5 5)/\w.heap.size<=b/\af w w'/\World.blk w' b #[.iface 3 (.int .i64 x.num),.iface 3 (.int .i64 (if x.dir=true then 1 else 0)),.iface 3 (.int .i64 x.links),.iface 3 (.int .i64 x.blob.root),.iface 3 (.int .i64 x.blob.size)] 20:=by
 obtain⟨n,di,li,r,z⟩:=x;have BI:=U5 di;obtain⟨bv,hbv⟩:∃ bv:Int,(if di=true then(1:Int)else 0)=bv:=⟨_,rfl⟩
 simp only[hbv]at BI ⊢;clear hbv;have BI:=hd0 BI;obtain⟨W,hW⟩:∃ W,w.alloc (.cells #[.int .i64 n,.bool di,.int .i64 li,.int .i64 r,.int .i64 z] 128)=W:=⟨_,rfl⟩
 have k0:af w W:=by rw[<-hW];exact(ah.refl _ w).alloc _
 have b0:World.blk W w.heap.size #[.int .i64 n,.bool di,.int .i64 li,.int .i64 r,.int .i64 z] 128:=by rw[<-hW];exact av w _ _
 have cx:∀(x:zu) (o:Nat),(W.ext x).cell? ⟨w.heap.size,o,none⟩=(#[.int .i64 n,.bool di,.int .i64 li,.int .i64 r,.int .i64 z]:Array Value)[o]?:=fun x o=>aa (ab (aC W x) b0 id) o;have c0:∀ x,(W.ext x).cell? ⟨w.heap.size,0,none⟩=some (.int .i64 n):=fun x=>cx x 0;have c1:∀ x,(W.ext x).cell? ⟨w.heap.size,1,none⟩=some (.bool di):=fun x=>cx x 1;have c2:∀ x,(W.ext x).cell? ⟨w.heap.size,2,none⟩=some (.int .i64 li):=fun x=>cx x 2;have c3:∀ x,(W.ext x).cell? ⟨w.heap.size,3,none⟩=some (.int .i64 r):=fun x=>cx x 3;have c4:∀ x,(W.ext x).cell? ⟨w.heap.size,4,none⟩=some (.int .i64 z):=fun x=>cx x 4;have HK:=hd0 k0;clear k0 b0 cx;go_enter func278,ntmps278;go_wp2_with fail;refine rH 18 (by kernel_rfl) (by kernel_rfl) ?_;simp only[avO,avP,avQ,avR]
 repeat (quiet_step (with_reducible exact bB (BI.out _)))
 refine avT ?_;intro _ bf;obtain⟨xq,rfl⟩:=bf;have bw:=hd0 (HK.out.keep (aC W xq));have cV:=bw.out.size;go_wp2;go_ret;have he:(W.ext xq).heap.size=W.heap.size+xq.objs.size:=by simp[World.ext]
 exact⟨_,rfl,by rw[<-he];exact cV,bw.out.alloc _,aZ he.symm _ _⟩
theorem Eh (w:World):
  Calls prog 226 #[] w fun e w'=>e=.returned uX/\af w w':=by
 go_enter func226,ntmps226;go_wp2_with fail;exact avy (v:=uX) (by simp[results,Tryz.results226,go_sem]) rfl ⟨rfl,(ah.refl _ _).alloc _⟩
end
theorem my.turn {rd Kh:Rd}:∀ {ys:List fH} {xs:List Nt} {S:Nat->Prop},my rd ys xs S->(∀ n:Nat,S n->Kh n=rd n)->my Kh ys xs S
 |[],[],_,h,_=>h
 |_y::_ys,_x::_xs,_S,⟨h1,A,B,h2,h3,h4⟩,hr=>⟨h1,A,B,h2.turn fun n hn=>hr n ((h4 n).2 (.inl hn)),h3.turn fun n hn=>hr n ((h4 n).2 (.inr hn)),h4⟩
 |[],_::_,_,h,_=>h.elim
 |_::_,[],_,h,_=>h.elim
theorem lM.turn {rd Kh:Rd}{ys:List fH}{xs:List Nt}{t:fU}{S:Nat->Prop}(h:lM rd ys xs t S)(hr:∀ n:Nat,S n->Kh n=rd n):lM Kh ys xs t S:=by
 obtain⟨A,B,h1,h2,h3⟩:=h;exact⟨A,B,h1.turn fun n hn=>hr n ((h3 n).2 (.inl hn)),h2.turn fun n hn=>hr n ((h3 n).2 (.inr hn)),h3⟩
theorem my.len {rd:Rd}:∀ {ys:List fH} {xs:List Nt} {S:Nat->Prop},my rd ys xs S->ys.length=xs.length
 |[],[],_,_=>rfl
 |y::ys,x::xs,S,⟨_,A,B,_,h3,_⟩=>by simp[h3.len]
 |[],_::_,_,h=>h.elim
 |_::_,[],_,h=>h.elim
theorem my.nums {rd:Rd}:∀ {ys:List fH} {xs:List Nt} {S:Nat->Prop},my rd ys xs S->ys.map (·.num)=xs.map (·.num)
 |[],[],_,_=>rfl
 |y::ys,x::xs,S,⟨h1,A,B,_,h3,_⟩=>by simp[h3.nums,h1.1]
 |[],_::_,_,h=>h.elim
 |_::_,[],_,h=>h.elim
theorem my.lt {rd:Rd}:∀ {ys:List fH} {xs:List Nt} {S:Nat->Prop},my rd ys xs S->∀ n,S n->1<=n/\n<4096
 |[],[],_,h,n,hn=>absurd hn (h n)
 |y::ys,x::xs,S,⟨_,A,B,h2,h3,h4⟩,n,hn=>by
  rcases(h4 n).1 hn with h|h
  ·exact h2.lt h
  ·exact h3.lt n h
 |[],_::_,_,h,_,_=>h.elim
 |_::_,[],_,h,_,_=>h.elim
theorem my.find {rd:Rd}:∀ {ys:List fH} {xs:List Nt} {S:Nat->Prop},my rd ys xs S->∀ k:Int,
  ∃ bg A,aS rd bg (dZ ys k) A/\(∀ n,A n->S n)/\bg=cG xs k
 |[],[],_,_,k=>⟨[],fun _=>False,ja rd,fun _=>False.elim,rfl⟩
 |y::ys,x::xs,S,⟨h1,A,B,h2,h3,h4⟩,k=>by
  obtain⟨bg,C,c1,c2,c3⟩:=h3.find k;have hn:=h3.nums;have key:(ys.filter fun z=>z.num==k)=[]↔(xs.filter fun z=>z.num==k)=[]:=by
   rw[List.filter_eq_nil_iff,List.filter_eq_nil_iff];have e:(∀ a∈ys,¬(a.num==k)=true)↔∀ m∈ys.map (·.num),¬(m==k)=true:=by simp
   have e2:(∀ a∈xs,¬(a.num==k)=true)↔∀ m∈xs.map (·.num),¬(m==k)=true:=by simp
   rw[e,e2,hn]
  by_cases hk:(ys.filter fun z=>z.num==k)=[]
  ·by_cases hy:(y.num==k)=true
   ·refine⟨x.data,A,?_,fun n hn=>(h4 n).2 (.inl hn),?_⟩
    ·unfold dZ;rw[awd,au8 hy,hk];exact h2
    ·have hx:(x.num==k)=true:=by rw[<-h1.1];exact hy
     unfold cG;rw[awd,au8 hx,key.1 hk];rfl
   ·refine⟨bg,C,?_,fun n hn=>(h4 n).2 (.inr (c2 n hn)),?_⟩
    ·unfold dZ at c1 ⊢;rw[awd,ava hy];exact c1
    ·have hx:¬(x.num==k)=true:=by rw[<-h1.1];exact hy
     unfold cG at c3 ⊢;rw[awd,ava hx];exact c3
  ·refine⟨bg,C,?_,fun n hn=>(h4 n).2 (.inr (c2 n hn)),?_⟩
   ·have:dZ (y::ys) k=dZ ys k:=by
     unfold dZ;rw[awd];by_cases hy:(y.num==k)=true
     ·rw[au8 hy,List.getLast?_cons]
      cases hg:(ys.filter fun z=>z.num==k).getLast? with
      |none=>exact absurd (List.getLast?_eq_none_iff.1 hg) hk
      |some z=>rfl
     ·rw[ava hy]
    rw[this];exact c1
   ·have dd:¬(xs.filter fun z=>z.num==k)=[]:=fun h=>hk (key.2 h);have:cG (x::xs) k=cG xs k:=by
     unfold cG;rw[awd];by_cases hy:(x.num==k)=true
     ·rw[au8 hy,List.getLast?_cons]
      cases hg:(xs.filter fun z=>z.num==k).getLast? with
      |none=>exact absurd (List.getLast?_eq_none_iff.1 hg) dd
      |some z=>rfl
     ·rw[ava hy]
    rw[this];exact c3
 |[],_::_,_,h,_=>h.elim
 |_::_,[],_,h,_=>h.elim
def jc (p:Pl)(S:Nat->Prop):Prop:=∀ n,S n->am p.used n=true/\n<p.blocks
theorem jc.grow {t t':gC}{k:Nat}{S:Nat->Prop}(h:jc t.pool S)(g:dj t t' k):jc t'.pool S:=fun n hn=>⟨g.used n (h n hn).1,by rw[g.blocks];exact(h n hn).2⟩
theorem dj.same {t t':gC}{k:Nat}{S:Nat->Prop}(g:dj t t' k)(h:jc t.pool S)(n:Nat)(hn:S n):t'.rd n=t.rd n:=g.keepRd (h n hn).1
theorem eH {t:gC}{bg data:ay}{b:fU}{S:Nat->Prop}(ht:cF t.pool)(h:aS t.rd bg b S)(hS:jc t.pool S)(hs:data.length<=16384)(hc:db bg data<=t.pool.left):
  ∃ b' t' S',dG t b data=.ok (b',t')/\aS t'.rd data b' S'/\dj t t' (db bg data)/\jc t'.pool S'/\(∀ n,S' n->S n\/am t.pool.used n=false)/\(bg=data->b'=b/\t'=t/\∀ n,S' n↔S n):=by
 by_cases he:bg=data
 ·subst he;have hh:bg.length<=16384:=h.1;exact⟨b,t,S,Dr h,h,by rw[kV bg hh];exact dj.refl ht,hS,fun n hn=>.inl hn,fun _=>⟨rfl,rfl,fun _=>Iff.rfl⟩⟩
 ·have h':=h;obtain⟨hh,was,rfl,hw,hSw⟩:=h;have hu:∀ l∈was,∀ n∈l,fG t.pool n:=by
   intro l hl n hn;have hf:n∈was.flatten:=List.mem_flatten.2 ⟨l,hl,hn⟩;have hr:=nA hw hf;obtain⟨k,rfl⟩:∃ k:Nat,n=k:=⟨n.toNat,by omega⟩
   obtain⟨h1,h2⟩:=hS k ((hSw k).2 hf);exact⟨k,rfl,h1,by omega,h2⟩
  obtain⟨nums,t',e,h1,h2,h3,h4⟩:=Lr ht hw hu hs hh hc;refine⟨_,t',fun n=>(n:Int)∈nums.flatten,e,⟨hs,nums,rfl,h1,fun _=>Iff.rfl⟩,h2,fun n hn=>?_,fun n hn=>?_,fun h=>absurd h he⟩
  ·obtain⟨l,hl,hm⟩:=List.mem_flatten.1 hn;obtain⟨k,e,a,b,c⟩:=h3 l hl _ hm;have:n=k:=by omega
   subst this;exact⟨a,c⟩
  ·rcases h4 n hn with h|h
   ·exact .inl ((hSw n).2 h)
   ·exact .inr h
end Go.Proofs.YtkghpdcloaiflaaGreatDoor
