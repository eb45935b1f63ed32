import Derived.Test.YtkghpdcloaiflaaGreatDoorC20
import Derived.Test.YtkghpdcloaiflaaGreatDoorC26
set_option maxHeartbeats 8000000
set_option maxRecDepth 100000
namespace Go.Proofs.YtkghpdcloaiflaaGreatDoor
open _root_.Go.Proofs.Tryz
section
section
open Go.RowKit Go.Maps Go.Shelf
theorem Yp {l:List (Int×Nat)}{x:Int}{c:Option Addr}{yd:DataW Value}{yp:List MemPlace}(hv:jg (.pointer c)=some (yd,yp))(nE:∀ zd,(NP l).atKey (.int .i64 x) zd=yd):∃ a,bD x l=some a/\c=some ⟨a,0,none⟩:=by
 have e:DataW.held (.pointer c)=yd:=by
  unfold jg at hv;injection hv with h;injection h
 subst e;have h1:=(kx (ef:=yq) cM x l (oy 0)).symm.trans (nE (oy 0))
 cases hg:bD x l with
 |none=>rw[hg]at h1;cases h1
 |some a=>
  rw[hg]at h1;refine⟨a,rfl,?_⟩;simp[yq]at h1;exact h1.symm
theorem Un (v:Value)(y:DataW Value×List MemPlace)(h:jg v=some y):∃ c,v=Value.pointer c:=by
 cases v<;>simp[jg]at h
 exact⟨_,rfl⟩
theorem Uo (key:Value)(kl:Lit)(h:keyOf prog 3 key=some kl):∃ x,key=Value.int .i64 x:=by
 obtain⟨x,hx,_⟩:=Maps.keyOf_int_inv underlying3 h;exact⟨x,hx⟩
theorem LR {w:World}{p tb:Nat}(h1:World.blk w p #[.map (some tb)] 249)(h2:LH w tb [])(h3:p≠tb):aI w p [] tb (fun _=>0) (fun _=>0) (fun b=>if b=p then .tree else if b=tb then .of else .none) where
 tree:=h1
 rtree:=atP rfl
 of:=h2
 rof:=by rw[atR (Ne.symm h3),atP rfl]
 node n hn:=by cases hn
 rnode n hn:=by cases hn
 names n hn:=by cases hn
 rnames n hn:=by cases hn
 lt b hb:=by
  by_cases e:b=p
  ·rw[e];exact ai h1
  ·by_cases e2:b=tb
   ·rw[e2];exact h2.lt
   ·rw[atR e,atR e2]at hb;exact absurd rfl hb
theorem GS (b:Nat)(l:Nm)(w:World)(h:GN w b l):Calls prog 191 #[.map (some b)] w fun e w'=>e=.returned (.map (some w.heap.size))/\GN w' w.heap.size l/\af w w':=by
 refine(AnyW.maps_Clone_owns Tryz.cloneN 9 (plainElem prog 3) b l.length (NN l) w h).mono ?_;rintro e w' ⟨rfl,h1,_,h3⟩;exact⟨rfl,h1,ah.ofBelow h3⟩
theorem GT (w:World):Calls prog 191 #[.map none] w fun e w'=>e=.returned (.map none)/\w'=w:=
 AnyW.maps_Clone_nil Tryz.cloneN w
def gd (T:Tr)(left:Lit->Bool):Tr:=T.filter fun n=>!left (.int .i64 n.num)
theorem Up {T:Tr}{left:Lit->Bool}(h:∀ l,left l=false):gd T left=T:=List.filter_eq_self.2 fun n _=>by rw[h];rfl
theorem Qh {T:Tr}{left:Lit->Bool}(h:∀ n∈T,left (.int .i64 n.num)=true):gd T left=[]:=List.filter_eq_nil_iff.2 fun n hn=>by rw[h n hn];simp
theorem A3 {T:Tr}{left:Lit->Bool}{n:Nd}:n∈gd T left↔n∈T/\left (.int .i64 n.num)=false:=by simp[gd]
theorem DN {T:Tr}{left:Lit->Bool}{x:Int}{n:Nd}(hs:dd T)(hn:n∈T)(hx:n.num=x)(hl:left (.int .i64 x)=true):Tr.add n (gd T left)=gd T (fun z=>left z&&!z.sameKey (.int .i64 x)):=by
 subst hx
 induction T with
 |nil=>cases hn
 |cons y r ih=>
  obtain⟨h1,h2⟩:=auQ.1 hs;rcases at9.1 hn with rfl|hm
  ·have e1:gd (n::r) left=gd r left:=by
    unfold gd;rw[auY,atR (by rw[hl];simp)]
   have e2:gd (n::r) (fun z=>left z&&!z.sameKey (.int .i64 n.num))=n::gd r left:=by
    unfold gd;rw[auY,atP (by simp[cM])]
    congr 1
    refine List.filter_congr fun m hm=>?_;have:=h1 m hm;simp only[cM,au2 (show m.num≠n.num by omega)];simp
   rw[e1,e2]
   cases hq:gd r left with
   |nil=>rfl
   |cons z q=>
    have hz:z∈gd r left:=by rw[hq];simp
    have:=h1 z (A3.1 hz).1;show(if n.num<z.num then _ else _)=_;rw[atP this]
  ·have h3:=h1 n hm;have e:(Lit.int .i64 y.num).sameKey (.int .i64 n.num)=false:=by rw[cM];exact au2 (by omega)
   by_cases hy:left (.int .i64 y.num)=true
   ·have e1:gd (y::r) left=gd r left:=by
     unfold gd;rw[auY,atR (by rw[hy];simp)]
    have e2:gd (y::r) (fun z=>left z&&!z.sameKey (.int .i64 n.num))=gd r (fun z=>left z&&!z.sameKey (.int .i64 n.num)):=by
     unfold gd;rw[auY,atR (by simp[hy,e])]
    rw[e1,e2];exact ih h2 hm
   ·have Tc:left (.int .i64 y.num)=false:=by simpa using hy
    have e1:gd (y::r) left=y::gd r left:=by
     unfold gd;rw[auY,atP (by rw[Tc];simp)]
    have e2:gd (y::r) (fun z=>left z&&!z.sameKey (.int .i64 n.num))=y::gd r (fun z=>left z&&!z.sameKey (.int .i64 n.num)):=by
     unfold gd;rw[auY,atP (by simp[Tc])]
    rw[e1,e2];show(if n.num<y.num then _ else _)=_;rw[atR (by omega),ih h2 hm]
section
variable {T:Tr}{d:Int->Nat}{p tb:Nat}{A M:Int->Nat}{role:Nat->cU}{w:World}
def LT (w:World)(T:Tr)(e:Ending)(w':World):Prop:=
 ∃ p tb A M role,e=.returned (.pointer (some ⟨p,0,none⟩))/\aI w' p T tb A M role/\(∀ b,role b≠.none->w.heap.size<=b)/\af w w'
theorem LU (h:aI w p T tb A M role)(hw:WF T d):Calls prog 117 #[.pointer (some ⟨p,0,none⟩)] w (LT w T):=by
 have HW:=hd0 hw;have It:=@run_makeMap prog;have sC:=hw.many;have lC:Hid (aI ((w.alloc (.map #[] 0)).alloc (.cells #[.map (some w.heap.size)] 249)) (w.heap.size+1) [] w.heap.size (fun _=>0) (fun _=>0) (fun b=>if b=w.heap.size+1 then .tree else if b=w.heap.size then .of else .none)):=hd0 (LR (aY (by simp) _ _) ((dC.made w).mod ((ah.refl (fun _=>False) _).alloc _) id) (by omega));have dN:Hid (af w ((w.alloc (.map #[] 0)).alloc (.cells #[.map (some w.heap.size)] 249))):=hd0 (((ah.refl _ w).alloc _).alloc _);have yN:((w.alloc (.map #[] 0)).alloc (.cells #[.map (some w.heap.size)] 249)).heap.size=w.heap.size+2:=by simp
 have HT:Hid (aI w p T tb A M role):=hd0 h;have xR:=h.of.lt;clear hw h;go_enter func117,ntmps117;have c0:((w.alloc (.map #[] 0)).alloc (.cells #[.map (some w.heap.size)] 249)).cell? ⟨p,0,none⟩=some (.map (some tb)):=aa (HT.out.keep dN.out).tree 0;go_wp2_with (at_range;refine wpList_range_own _ rfl _ 247 rfl 3 243 (int_keyed underlying3) underlying247 _ tb (cg T A).length (NP (cg T A)) rfl ((HT.out.keep dN.out).of) ?_;intro w7 EY Xl RG)
 try go_frame
 have BC:=hd0 EY;have HKg:Hid (af ((w.alloc (.map #[] 0)).alloc (.cells #[.map (some w.heap.size)] 249)) w7):=hd0 (qt Xl);rw[yN]at RG;rw[yN]at BC;have HT7:=hd0 (lC.out.keep HKg.out);have yi:=hd0 (dN.out.keep HKg.out);clear EY Xl c0 lC dN HKg yN
 go_loopw [15] (fun _ wr=>∃(left:Lit->Bool) (jS:Nat) (A' M':Int->Nat) (jP:Nat->cU),World.ranges wr prog 3 jg tb (w.heap.size+2) (cg T A).length (NP (cg T A)) left jS/\af w wr/\aI wr (w.heap.size+1) (gd T left) w.heap.size A' M' jP/\Hid (∀ b,jP b≠.none->w.heap.size<=b/\b≠w.heap.size+2)/\w.heap.size+3<=wr.heap.size) (fun _ wr=>wr.rangeLeft tb (w.heap.size+2))
 case atStart=>
  have lB:gd T (has (NP (cg T A)))=[]:=Qh fun n hn=>by
   rw[py cM,pK,(ax HW.out.sorted).2 ⟨hn,rfl⟩];rfl
  refine⟨_,_,fun _=>0,fun _=>0,fun b=>if b=w.heap.size+1 then cU.tree else if b=w.heap.size then cU.of else cU.none,BC.out,yi.out,by rw[lB];exact HT7.out,hd0 fun b hb=>?_,by omega⟩;by_cases e:b=w.heap.size+1
  ·omega
  ·by_cases e2:b=w.heap.size
   ·omega
   ·simp only[atR e,atR e2]at hb;exact absurd rfl hb
 case round=>
  clear BC yi HT7;obtain⟨left,cn,A',M',jP,SR,hK,hT',Hq,cA⟩:=hrel;have IW:=hd0 SR;have HK:=hd0 hK;have HT':=hd0 hT';clear SR hK hT';go_wp2_with (at_next;refine wpList_next_ranges wr rfl _ rfl 3 (int_keyed underlying3) jg (Value.int .i64) Value.pointer Uo Un tb (w.heap.size+2) _ (NP (cg T A)) left cn rfl IW.out ?_ ?_)
  ·intro _ uz;have HTe:Hid (aI wr (w.heap.size+1) T w.heap.size A' M' jP):=hd0 (by have:=HT'.out;rw[Up uz]at this;exact this);clear uz;go_wp2;go_ret;exact⟨w.heap.size+1,w.heap.size,A',M',jP,rfl,HTe.out,fun b hb=>(Hq.out b hb).1,HK.out⟩
  ·intro x c kl yd yp w' rW IQ Al hv nE ES aM Zf uC hen;obtain⟨x',ex,rfl,_⟩:=Maps.keyOf_int_inv underlying3 IQ
   cases ex
   obtain⟨a,hga,rfl⟩:=Yp hv nE;rw[pK]at hga
   cases hgn:T.get x with
   |none=>rw[hgn]at hga;cases hga
   |some n=>
    rw[hgn]at hga;obtain⟨pp,pq⟩:=(ax HW.out.sorted).1 hgn;have ha:A x=a:=by
     have:A n.num=a:=auR hga;rw[pq]at this;exact this
    subst ha;have XT:Hid (af w w'):=hd0 (HK.out.grown Zf (fun i e=>.inr (by injection e with e;omega)));have HTo:=hd0 (HT.out.keep XT.out);have XQ:Hid (aI w' (w.heap.size+1) (gd T left) w.heap.size A' M' jP):=hd0 (HT'.out.mod (gQ Zf) (fun b hb e=>(Hq.out b hb).2 e));have a0:w'.cell? ⟨A x,0,none⟩=some (.int .i64 n.num):=HTo.out.cell HW.out.sorted hgn 0;have a1:w'.cell? ⟨A x,1,none⟩=some (.bool n.dir):=HTo.out.cell HW.out.sorted hgn 1;have a2:w'.cell? ⟨A x,2,none⟩=some (.int .i64 n.links):=HTo.out.cell HW.out.sorted hgn 2;have a3:w'.cell? ⟨A x,3,none⟩=some (.string ⟨n.data.toArray⟩):=HTo.out.cell HW.out.sorted hgn 3;have a4:w'.cell? ⟨A x,4,none⟩=some (.map (if n.dir=true then some (M x)else none)):=HTo.out.cell HW.out.sorted hgn 4;have cm:=fun hd=>(HTo.out.names n pp hd)
    rw[pq]at cm;have yD:=hd0 cm;have Hn:=hd0 (And.intro pp pq);have VP:=hd0 Al;have uv:=hd0 ES;have Hlt:=hd0 (show rW<cn from aM);have rX:=hd0 (IW.out.left_eq);have ye:=(gy HW.out hgn)
    have Xi:=Zf.size;clear IQ Al hv nE ES aM Zf uC hga pp pq hgn cm
    cases hd:n.dir with
    |true=>
     rw[hd]at a1 a4;rw[atP rfl]at a4;have Hd:=hd0 hd;have hAx:=am a4;have e4:(w'.alloc (.cells #[.int .i64 x,.bool true,.int .i64 n.links,.string ⟨n.data.toArray⟩,.map (some (M x))] 246)).cell? ⟨A x,4,none⟩=some (.map (some (M x))):=by
      rw[((ah.refl (fun _=>False) w').alloc _).cell (p:=⟨A x,4,none⟩) hAx id];exact a4
     clear hd;go_wp2_with fail;have jd:Hid (World.blk (w'.alloc (.cells #[.int .i64 x,.bool true,.int .i64 n.links,.string ⟨n.data.toArray⟩,.map (some (M x))] 246)) w'.heap.size #[.int .i64 x,.bool true,.int .i64 n.links,.string ⟨n.data.toArray⟩,.map (some (M x))] 246):=hd0 (aw _ _ _);have BB:Hid (af w' (w'.alloc (.cells #[.int .i64 x,.bool true,.int .i64 n.links,.string ⟨n.data.toArray⟩,.map (some (M x))] 246))):=hd0 ((ah.refl _ w').alloc _);have hsa:(w'.alloc (.cells #[.int .i64 x,.bool true,.int .i64 n.links,.string ⟨n.data.toArray⟩,.map (some (M x))] 246)).heap.size=w'.heap.size+1:=by simp
     generalize w'.alloc (.cells #[.int .i64 x,.bool true,.int .i64 n.links,.string ⟨n.data.toArray⟩,.map (some (M x))] 246)=wa at*;refine(GS (M x) n.names wa ((yD.out Hd.out).mod BB.out id)).mono ?_;rintro e wb ⟨rfl,yU,RJ⟩;have HMb:=hd0 yU;have Of:=hd0 (BB.out.keep RJ);have VK:=hd0 (ab RJ jd.out id);have hlb:=yU.lt;rw[hsa]at HMb hlb;rw[hsa];clear yU RJ BB jd e4 a0 a1 a2 a3 a4;have pq:=ye.1;have VT:=hd0 (XQ.out.keep Of.out);have e5:wb.cell? ⟨w'.heap.size,4,none⟩=some (.map (some (M x))):=aa VK.out 4;have f5:wb.frozen? ⟨w'.heap.size,4,none⟩=false:=ae VK.out _ rfl;have VN:Hid (af w' (wb.setCell ⟨w'.heap.size,4,none⟩ (.map (some (w'.heap.size+1))))):=hd0 (ah.setCell Of.out (.inr (atL _)) _);have RU:Hid (World.blk (wb.setCell ⟨w'.heap.size,4,none⟩ (.map (some (w'.heap.size+1)))) w'.heap.size #[.int .i64 x,.bool true,.int .i64 n.links,.string ⟨n.data.toArray⟩,.map (some (w'.heap.size+1))] 246):=hd0 (ag VK.out 4 _);have HMc:=hd0 (HMb.out.mod (ah.setCell (ah.refl (·=w'.heap.size) wb) (p:=⟨w'.heap.size,4,none⟩) (.inl rfl) (.map (some (w'.heap.size+1)))) (by omega:¬ w'.heap.size+1=w'.heap.size));have e6:(wb.setCell ⟨w'.heap.size,4,none⟩ (.map (some (w'.heap.size+1)))).cell? ⟨w.heap.size+1,0,none⟩=some (.map (some w.heap.size)):=aa (XQ.out.keep VN.out).tree 0;have sj:∀ y∈gd T left,y.num≠n.num:=fun y hy e=>by
      have h1:=(A3.1 hy).2;rw[e,pq,VP.out]at h1;cases h1
     have Hxn:=hd0 sj;have B9:=hd0 pq;clear sj pq VK VT
     go_wp2_with ((at_mapUpdate
                   refine iy (XQ.out.of.mod VN.out id) underlying247 underlying3 x (by omega) w'.heap.size (by have:(gd T left).length<=T.length:=atU _ _;simp[cg];omega) rfl rfl rfl rfl rfl ?_;intro wd nY mO;have jx:ah (·=w.heap.size) w' wd:=(VN.out.mono (fun _ _ h=>h.elim)).trans mO (fun _ _ h=>h);rw[<-B9.out]at nY;have Ip:=rI (n0:=n) (a:=w'.heap.size) (m:=w'.heap.size+1) XQ.out Hxn.out jx (atL _) (by omega) (by omega) (atS (ai RU.out) mO.size) (fun _=>atS HMc.out.lt mO.size) nY (by
                    have h:=ab mO RU.out (show ¬ w'.heap.size=w.heap.size by omega);have e:jG n (w'.heap.size+1)=#[.int .i64 x,.bool true,.int .i64 n.links,.string ⟨n.data.toArray⟩,.map (some (w'.heap.size+1))]:=by simp[jG,Hd.out,B9.out]
                    rw[e];exact h) (fun _=>HMc.out.mod mO (by omega))
                   rw[DN HW.out.sorted Hn.out.1 B9.out VP.out]at Ip;have HT6:=hd0 Ip;have tD:Hid (af w wd):=hd0 (XT.out.new jx (atL _));have Rr:=hd0 (uv.out.kept (sJ jx) (by simp;omega) (by simp));have hsd:=mO.size;have hsc:=VN.out.size;clear nY mO jx Ip))
     simp only[Act.put]
     go_roundw
     case rel=>
      refine⟨_,rW,_,_,_,Rr.out,tD.out,HT6.out,hd0 fun b hb=>?_,by omega⟩;by_cases e1:b=w'.heap.size
      ·omega
      ·by_cases e2:b=w'.heap.size+1/\n.dir=true
       ·omega
       ·simp only[atR e1,atR e2]at hb;exact Hq.out b hb
     case measure=>
      rw[Rr.out.left_eq,rX.out];exact Hlt.out
    |false=>
     rw[hd]at a1 a4;rw[atR (by decide)]at a4;have Hd:=hd0 hd;have hAx:=am a4;have e4:(w'.alloc (.cells #[.int .i64 x,.bool false,.int .i64 n.links,.string ⟨n.data.toArray⟩,.map none] 246)).cell? ⟨A x,4,none⟩=some (.map none):=by
      rw[((ah.refl (fun _=>False) w').alloc _).cell (p:=⟨A x,4,none⟩) hAx id];exact a4
     clear hd;go_wp2_with fail;have jd:Hid (World.blk (w'.alloc (.cells #[.int .i64 x,.bool false,.int .i64 n.links,.string ⟨n.data.toArray⟩,.map none] 246)) w'.heap.size #[.int .i64 x,.bool false,.int .i64 n.links,.string ⟨n.data.toArray⟩,.map none] 246):=hd0 (aw _ _ _);have BB:Hid (af w' (w'.alloc (.cells #[.int .i64 x,.bool false,.int .i64 n.links,.string ⟨n.data.toArray⟩,.map none] 246))):=hd0 ((ah.refl _ w').alloc _);have hsa:(w'.alloc (.cells #[.int .i64 x,.bool false,.int .i64 n.links,.string ⟨n.data.toArray⟩,.map none] 246)).heap.size=w'.heap.size+1:=by simp
     generalize w'.alloc (.cells #[.int .i64 x,.bool false,.int .i64 n.links,.string ⟨n.data.toArray⟩,.map none] 246)=wa at*;refine(GT wa).mono ?_;rintro e wb ⟨rfl,IR⟩;have Of:Hid (af w' wb):=hd0 (by rw[IR];exact BB.out);have VK:Hid (World.blk wb w'.heap.size #[.int .i64 x,.bool false,.int .i64 n.links,.string ⟨n.data.toArray⟩,.map none] 246):=hd0 (by rw[IR];exact jd.out);clear IR BB jd e4 a0 a1 a2 a3 a4;have pq:=ye.1;have VT:=hd0 (XQ.out.keep Of.out);have e5:wb.cell? ⟨w'.heap.size,4,none⟩=some (.map none):=aa VK.out 4;have f5:wb.frozen? ⟨w'.heap.size,4,none⟩=false:=ae VK.out _ rfl;have VN:Hid (af w' (wb.setCell ⟨w'.heap.size,4,none⟩ (.map none))):=hd0 (ah.setCell Of.out (.inr (atL _)) _);have RU:Hid (World.blk (wb.setCell ⟨w'.heap.size,4,none⟩ (.map none)) w'.heap.size #[.int .i64 x,.bool false,.int .i64 n.links,.string ⟨n.data.toArray⟩,.map none] 246):=hd0 (ag VK.out 4 _);have e6:(wb.setCell ⟨w'.heap.size,4,none⟩ (.map none)).cell? ⟨w.heap.size+1,0,none⟩=some (.map (some w.heap.size)):=aa (XQ.out.keep VN.out).tree 0;have sj:∀ y∈gd T left,y.num≠n.num:=fun y hy e=>by
      have h1:=(A3.1 hy).2;rw[e,pq,VP.out]at h1;cases h1
     have Hxn:=hd0 sj;have B9:=hd0 pq;clear sj pq VK VT
     go_wp2_with ((at_mapUpdate
                   refine iy (XQ.out.of.mod VN.out id) underlying247 underlying3 x (by omega) w'.heap.size (by have:(gd T left).length<=T.length:=atU _ _;simp[cg];omega) rfl rfl rfl rfl rfl ?_;intro wd nY mO;have jx:ah (·=w.heap.size) w' wd:=(VN.out.mono (fun _ _ h=>h.elim)).trans mO (fun _ _ h=>h);rw[<-B9.out]at nY;have Ip:=rI (n0:=n) (a:=w'.heap.size) (m:=w'.heap.size+1) XQ.out Hxn.out jx (atL _) (by omega) (by omega) (atS (ai RU.out) mO.size) (fun h=>by rw[Hd.out]at h;cases h) nY (by
                    have h:=ab mO RU.out (show ¬ w'.heap.size=w.heap.size by omega);have e:jG n (w'.heap.size+1)=#[.int .i64 x,.bool false,.int .i64 n.links,.string ⟨n.data.toArray⟩,.map none]:=by simp[jG,Hd.out,B9.out]
                    rw[e];exact h) (fun h=>by rw[Hd.out]at h;cases h)
                   rw[DN HW.out.sorted Hn.out.1 B9.out VP.out]at Ip;have HT6:=hd0 Ip;have tD:Hid (af w wd):=hd0 (XT.out.new jx (atL _));have Rr:=hd0 (uv.out.kept (sJ jx) (by simp;omega) (by simp));have hsd:=mO.size;have hsc:=VN.out.size;clear nY mO jx Ip))
     simp only[Act.put]
     go_roundw
     case rel=>
      refine⟨_,rW,_,_,_,Rr.out,tD.out,HT6.out,hd0 fun b hb=>?_,by omega⟩;by_cases e1:b=w'.heap.size
      ·omega
      ·by_cases e2:b=w'.heap.size+1/\n.dir=true
       ·omega
       ·simp only[atR e1,atR e2]at hb;exact Hq.out b hb
     case measure=>
      rw[Rr.out.left_eq,rX.out];exact Hlt.out
end
end
end
section
open Go.RowKit
theorem zQ (b:fR)(h:b.ok=true)(w:World):
  Calls prog 261 #[db b] w fun e w'=>e=.returned (.bool true)/\af w w':=by
 obtain⟨r,s⟩:=b;simp only[fR.ok,fR.may,at2,aua,auq,decide_eq_decide]at h;obtain⟨⟨⟨⟨h1,h2⟩,h3⟩,h4⟩,h5⟩:=h;unfold db;have hk:af w (w.alloc (.cells #[.int .i64 r,.int .i64 s] 42)):=(ah.refl _ w).alloc _;have HK:=hd0 hk;clear hk;by_cases hr:r=0
 ·have hs:=h3.1 hr;subst hr hs;go_enter func261,ntmps261;go_wp2;go_ret;exact⟨rfl,HK.out⟩
 ·have hs:¬ s=0:=fun e=>hr (h3.2 e);have e1:(r==0)=false:=by simpa using hr
  have e2:(s==0)=false:=by simpa using hs
  clear h3;go_enter func261,ntmps261;go_wp2;go_ret;exact⟨rfl,HK.out⟩
end
section
open Go.RowKit
def oe (x:Sn):List Value:=[.string ⟨x.name.toArray⟩,.int .i64 x.id,.int .i64 x.plane,.int .i64 x.table.root,.int .i64 x.table.size]
abbrev A4 (x:Sn):Value:=.agg #[.string ⟨x.name.toArray⟩,.int .i64 x.id,.int .i64 x.plane,.int .i64 x.table.root,.int .i64 x.table.size]
theorem eV:∀ x,(oe x).length=5:=fun _=>rfl
theorem A5:∀ x,∀ u∈oe x,u.oneCell'=true:=by
 intro x u hu;simp only[oe,at9,List.not_mem_nil,or_false]at hu;rcases hu with rfl|rfl|rfl|rfl|rfl<;>rfl
abbrev A6:Value:=.agg #[.func (.func 260) #[] #[],.func (.func 262) #[] #[],.func (.func 263) #[] #[]]
def GU (was:Int)(x:Sn):Prop:=was<x.id/\aH x.name=true/\x.id<=1099511627776/\1<=x.plane/\x.plane<=7/\x.table.ok=true
def Yq:Sn:=⟨[],0,0,⟨0,0⟩⟩
def dm (l:List Sn)(k:Nat):Sn:=(l.take k).getLastD Yq
def bY (x:Sn):List ay:=[(aO x.name.length++x.name),aO x.id.toNat,aO x.plane.toNat,aO x.table.root.toNat,aO x.table.size.toNat]
theorem rJ {l:List Sn}{k:Nat}{x:Sn}(h:l[k]?=some x):dm l (k+1)=x:=by
 unfold dm;rw[atK,h];simp
theorem tY (x:Sn):(bY x).flatten=oO x:=by simp[bY,oO,yt]
theorem JJ:∀ {l:List Sn} {was:Int},SI was l=true->∀ k x,l[k]?=some x->GU (match k with|0=>was|j+1=>((l[j]?).map (fun y:Sn=>y.id)).getD 0) x
 |[],_,_,k,x,hk=>by simp at hk
 |y::r,was,h,k,x,hk=>by
  have h':=h;simp only[SI,at2,aua]at h'
  cases k with
  |zero=>
   simp at hk;subst hk;simp only[GU]
   simp_all
  |succ j=>
   have ih:=JJ (l:=r) (was:=y.id) h'.2 j x (by simpa using hk)
   cases j with
   |zero=>simpa using ih
   |succ i=>simpa using ih
theorem xd {l:List Sn}(h:SI 0 l=true){k:Nat}{x:Sn}(hk:l[k]?=some x):GU (dm l k).id x:=by
 have h1:=JJ h k x hk
 cases k with
 |zero=>exact h1
 |succ j=>
  have hj:j<l.length:=by have:=(atX.1 hk).1;omega
  have e:dm l (j+1)=l[j]:=rJ (atI hj);rw[e];simpa[atI hj]using h1
theorem LW (was x:Sn)(first:Bool)(h:GU was.id x)(w:World):
  Calls prog 260 #[A4 was,A4 x,.bool first] w fun e w'=>e=.returned (.bool true)/\af w w':=by
 have HB:=hd0 (fun W=>zQ x.table (by unfold GU at h;simp_all) W);obtain⟨h1,h2,h3,h4,h5,h6⟩:=h;obtain⟨s0,i0,p0,r0,z0⟩:=was;obtain⟨s,i,pl,r,z⟩:=x;simp only at h1 h3 h4 h5;have aU:s.length<=16:=by have h7:=h2;simp only[aH,at2,aua]at h7;omega
 have HN:=hd0 (fun W=>rG s W (by omega));have H2:Hid (aH s=true):=hd0 h2;clear h2 h6 aU;have hbv:db ⟨r,z⟩=.agg #[.int .i64 r,.int .i64 z]:=rfl;simp only[hbv]at HB;go_enter func260,ntmps260;go_wp2_with fail;refine(HN.out _).mono ?_;rintro e w3 ⟨rfl,hk⟩;rw[H2.out];have iC:World.blk w3 w.heap.size #[.string ⟨s0.toArray⟩,.int .i64 i0,.int .i64 p0,.int .i64 r0,.int .i64 z0] 85:=ab hk (aG (aw _ _ _) _) id;have hb1:World.blk w3 (w.heap.size+1) #[.string ⟨s.toArray⟩,.int .i64 i,.int .i64 pl,.int .i64 r,.int .i64 z] 85:=ab hk (aY (by simp) _ _) id;have c0:w3.cell? ⟨w.heap.size,1,none⟩=some (.int .i64 i0):=aa iC 1;have c1:w3.cell? ⟨w.heap.size+1,1,none⟩=some (.int .i64 i):=aa hb1 1;have c2:w3.cell? ⟨w.heap.size+1,2,none⟩=some (.int .i64 pl):=aa hb1 2;have c3:w3.cell? ⟨w.heap.size+1,3,none⟩=some (.int .i64 r):=aa hb1 3;have c4:w3.cell? ⟨w.heap.size+1,4,none⟩=some (.int .i64 z):=aa hb1 4;have HK:=hd0 (dM (dM hk));clear hk iC hb1;go_wp2_with fail;refine(HB.out _).mono ?_;rintro e w4 ⟨rfl,je⟩;have lw:=hd0 (HK.out.keep je);clear je;go_wp2;go_ret;exact⟨rfl,lw.out⟩
theorem LX (x:Sn)(w:World):
  Calls prog 262 #[A4 x] w fun e w'=>∃ b,e=.returned (.slice (some ⟨b,0,none⟩) 5 5)/\w.heap.size<=b/\af w w'/\World.blk w' b #[.iface 9 (.string ⟨x.name.toArray⟩),.iface 3 (.int .i64 x.id),.iface 3 (.int .i64 x.plane),.iface 3 (.int .i64 x.table.root),.iface 3 (.int .i64 x.table.size)] 20:=by
 obtain⟨s,i,pl,r,z⟩:=x;go_enter func262,ntmps262;go_wp2;go_ret;exact⟨_,rfl,by omega,((ah.refl _ _).alloc _).alloc _,aY (by simp) _ _⟩
theorem GV (w:World):
  Calls prog 211 #[] w fun e w'=>e=.returned A6/\af w w':=by
 go_enter func211,ntmps211;go_wp2_with fail;exact auj (v:=A6) (by simp[results,Tryz.results211,go_sem]) rfl ⟨rfl,(ah.refl _ _).alloc _⟩
end
section
open Go.RowKit
def jv (x:fF):List Value:=[.int .i64 x.num,.bool x.dir,.int .i64 x.links,.int .i64 x.blob.root,.int .i64 x.blob.size]
abbrev Yr (x:fF):Value:=.agg #[.int .i64 x.num,.bool x.dir,.int .i64 x.links,.int .i64 x.blob.root,.int .i64 x.blob.size]
theorem xe:∀ x,(jv x).length=5:=fun _=>rfl
theorem Qi:∀ x,∀ u∈jv x,u.oneCell'=true:=by
 intro x u hu;simp only[jv,at9,List.not_mem_nil,or_false]at hu;rcases hu with rfl|rfl|rfl|rfl|rfl<;>rfl
abbrev uP:Value:=.agg #[.func (.func 277) #[] #[],.func (.func 278) #[] #[],.func (.func 280) #[] #[]]
def xf (was:Int)(x:fF):Prop:=was<x.num/\x.num<=65535/\1<=x.links/\x.links<=65535/\x.blob.ok=true
def Uq:fF:=⟨0,false,0,⟨0,0⟩⟩
def cw (l:List fF)(k:Nat):fF:=(l.take k).getLastD Uq
def cy (x:fF):List ay:=[aO x.num.toNat,aO (if x.dir=true then 1 else 0),aO x.links.toNat,aO x.blob.root.toNat,aO x.blob.size.toNat]
theorem qc {l:List fF}{k:Nat}{x:fF}(h:l[k]?=some x):cw l (k+1)=x:=by
 unfold cw;rw[atK,h];simp
theorem rK (x:fF):(cy x).flatten=nU x:=by simp[cy,nU,yt]
theorem DQ:∀ {l:List fF} {was:Int},yu was l=true->∀ k x,l[k]?=some x->xf (match k with|0=>was|j+1=>((l[j]?).map (fun y:fF=>y.num)).getD 0) x
 |[],_,_,k,x,hk=>by simp at hk
 |y::r,was,h,k,x,hk=>by
  have h':=h;simp only[yu,at2,aua]at h'
  cases k with
  |zero=>
   simp at hk;subst hk;simp only[xf]
   simp_all
  |succ j=>
   have ih:=DQ (l:=r) (was:=y.num) h'.2 j x (by simpa using hk)
   cases j with
   |zero=>simpa using ih
   |succ i=>simpa using ih
theorem tZ {l:List fF}(h:yu 0 l=true){k:Nat}{x:fF}(hk:l[k]?=some x):xf (cw l k).num x:=by
 have h1:=DQ h k x hk
 cases k with
 |zero=>exact h1
 |succ j=>
  have hj:j<l.length:=by have:=(atX.1 hk).1;omega
  have e:cw l (j+1)=l[j]:=qc (atI hj);rw[e];simpa[atI hj]using h1
theorem GW (was x:fF)(first:Bool)(h:xf was.num x)(w:World):
  Calls prog 277 #[Yr was,Yr x,.bool first] w fun e w'=>e=.returned (.bool true)/\af w w':=by
 have HB:=hd0 (fun W=>zQ x.blob (by unfold xf at h;simp_all) W);obtain⟨h1,h2,h3,h4,h5⟩:=h;obtain⟨n0,d0,l0,r0,z0⟩:=was;obtain⟨n,di,li,r,z⟩:=x;simp only at h1 h2 h3 h4;clear h5;have hbv:db ⟨r,z⟩=.agg #[.int .i64 r,.int .i64 z]:=rfl;simp only[hbv]at HB;have hk:af w ((w.alloc (.cells #[.int .i64 n0,.bool d0,.int .i64 l0,.int .i64 r0,.int .i64 z0] 128)).alloc (.cells #[.int .i64 n,.bool di,.int .i64 li,.int .i64 r,.int .i64 z] 128)):=((ah.refl _ w).alloc _).alloc _;have HK:=hd0 hk;clear hk;go_enter func277,ntmps277;go_wp2_with fail;refine(HB.out _).mono ?_;rintro e w4 ⟨rfl,je⟩;have lw:=hd0 (HK.out.keep je);clear je;go_wp2;go_ret;exact⟨rfl,lw.out⟩
theorem Ur (b:Bool)(w:World):Calls prog 279 #[.bool b] w fun e w'=>e=.returned (.int .i64 (if b=true then 1 else 0))/\af w w':=by
 cases b with
 |true=>
  go_enter func279,ntmps279;go_wp2;go_ret;exact⟨rfl,ah.refl _ _⟩
 |false=>
  go_enter func279,ntmps279;go_wp2;go_ret;exact⟨rfl,ah.refl _ _⟩
theorem GX (x:fF)(w:World):
  Calls prog 278 #[Yr x] w fun e w'=>∃ b,e=.returned (.slice (some ⟨b,0,none⟩) 5 5)/\w.heap.size<=b/\af w w'/\World.blk w' b #[.iface 3 (.int .i64 x.num),.iface 3 (.int .i64 (if x.dir=true then 1 else 0)),.iface 3 (.int .i64 x.links),.iface 3 (.int .i64 x.blob.root),.iface 3 (.int .i64 x.blob.size)] 20:=by
 obtain⟨n,di,li,r,z⟩:=x;have BI:=Ur di;obtain⟨bv,hbv⟩:∃ bv:Int,(if di=true then(1:Int)else 0)=bv:=⟨_,rfl⟩
 simp only[hbv]at BI ⊢;clear hbv;have BI:=hd0 BI;obtain⟨W,hW⟩:∃ W,w.alloc (.cells #[.int .i64 n,.bool di,.int .i64 li,.int .i64 r,.int .i64 z] 128)=W:=⟨_,rfl⟩
 have k0:af w W:=by rw[<-hW];exact(ah.refl _ w).alloc _
 have b0:World.blk W w.heap.size #[.int .i64 n,.bool di,.int .i64 li,.int .i64 r,.int .i64 z] 128:=by rw[<-hW];exact aw w _ _
 have cx:∀(x:za) (o:Nat),(W.ext x).cell? ⟨w.heap.size,o,none⟩=(#[.int .i64 n,.bool di,.int .i64 li,.int .i64 r,.int .i64 z]:Array Value)[o]?:=fun x o=>aa (ab (aD W x) b0 id) o;have c0:∀ x,(W.ext x).cell? ⟨w.heap.size,0,none⟩=some (.int .i64 n):=fun x=>cx x 0;have c1:∀ x,(W.ext x).cell? ⟨w.heap.size,1,none⟩=some (.bool di):=fun x=>cx x 1;have c2:∀ x,(W.ext x).cell? ⟨w.heap.size,2,none⟩=some (.int .i64 li):=fun x=>cx x 2;have c3:∀ x,(W.ext x).cell? ⟨w.heap.size,3,none⟩=some (.int .i64 r):=fun x=>cx x 3;have c4:∀ x,(W.ext x).cell? ⟨w.heap.size,4,none⟩=some (.int .i64 z):=fun x=>cx x 4;have HK:=hd0 k0;clear k0 b0 cx;go_enter func278,ntmps278;go_wp2_with fail;refine ru 18 (by kernel_rfl) (by kernel_rfl) ?_;simp only[auz,auA,auB,auC]
 repeat (quiet_step (with_reducible exact bw (BI.out _)))
 refine auE ?_;intro _ cJ;obtain⟨xq,rfl⟩:=cJ;have bu:=hd0 (HK.out.keep (aD W xq));have cA:=bu.out.size;go_wp2;go_ret;have he:(W.ext xq).heap.size=W.heap.size+xq.objs.size:=by simp[World.ext]
 exact⟨_,rfl,by rw[<-he];exact cA,bu.out.alloc _,aY he.symm _ _⟩
theorem DS (w:World):
  Calls prog 226 #[] w fun e w'=>e=.returned uP/\af w w':=by
 go_enter func226,ntmps226;go_wp2_with fail;exact auj (v:=uP) (by simp[results,Tryz.results226,go_sem]) rfl ⟨rfl,(ah.refl _ _).alloc _⟩
end
theorem mu.turn {rd Kp:Rd}:∀ {ys:List fF} {xs:List Nt} {S:Nat->Prop},mu rd ys xs S->(∀ n:Nat,S n->Kp n=rd n)->mu Kp ys xs S
 |[],[],_,h,_=>h
 |_y::_ys,_x::_xs,_S,⟨h1,A,B,h2,h3,h4⟩,hr=>⟨h1,A,B,h2.turn fun n hn=>hr n ((h4 n).2 (.inl hn)),h3.turn fun n hn=>hr n ((h4 n).2 (.inr hn)),h4⟩
 |[],_::_,_,h,_=>h.elim
 |_::_,[],_,h,_=>h.elim
theorem lM.turn {rd Kp:Rd}{ys:List fF}{xs:List Nt}{t:fR}{S:Nat->Prop}(h:lM rd ys xs t S)(hr:∀ n:Nat,S n->Kp n=rd n):lM Kp ys xs t S:=by
 obtain⟨A,B,h1,h2,h3⟩:=h;exact⟨A,B,h1.turn fun n hn=>hr n ((h3 n).2 (.inl hn)),h2.turn fun n hn=>hr n ((h3 n).2 (.inr hn)),h3⟩
theorem mu.len {rd:Rd}:∀ {ys:List fF} {xs:List Nt} {S:Nat->Prop},mu rd ys xs S->ys.length=xs.length
 |[],[],_,_=>rfl
 |y::ys,x::xs,S,⟨_,A,B,_,h3,_⟩=>by simp[h3.len]
 |[],_::_,_,h=>h.elim
 |_::_,[],_,h=>h.elim
theorem mu.nums {rd:Rd}:∀ {ys:List fF} {xs:List Nt} {S:Nat->Prop},mu rd ys xs S->ys.map (·.num)=xs.map (·.num)
 |[],[],_,_=>rfl
 |y::ys,x::xs,S,⟨h1,A,B,_,h3,_⟩=>by simp[h3.nums,h1.1]
 |[],_::_,_,h=>h.elim
 |_::_,[],_,h=>h.elim
theorem mu.lt {rd:Rd}:∀ {ys:List fF} {xs:List Nt} {S:Nat->Prop},mu rd ys xs S->∀ n,S n->1<=n/\n<4096
 |[],[],_,h,n,hn=>absurd hn (h n)
 |y::ys,x::xs,S,⟨_,A,B,h2,h3,h4⟩,n,hn=>by
  rcases(h4 n).1 hn with h|h
  ·exact h2.lt h
  ·exact h3.lt n h
 |[],_::_,_,h,_,_=>h.elim
 |_::_,[],_,h,_,_=>h.elim
theorem mu.find {rd:Rd}:∀ {ys:List fF} {xs:List Nt} {S:Nat->Prop},mu rd ys xs S->∀ k:Int,
  ∃ bg A,aR rd bg (dX ys k) A/\(∀ n,A n->S n)/\bg=cF xs k
 |[],[],_,_,k=>⟨[],fun _=>False,iY rd,fun _=>False.elim,rfl⟩
 |y::ys,x::xs,S,⟨h1,A,B,h2,h3,h4⟩,k=>by
  obtain⟨bg,C,c1,c2,c3⟩:=h3.find k;have hn:=h3.nums;have key:(ys.filter fun z=>z.num==k)=[]↔(xs.filter fun z=>z.num==k)=[]:=by
   rw[List.filter_eq_nil_iff,List.filter_eq_nil_iff];have e:(∀ a∈ys,¬(a.num==k)=true)↔∀ m∈ys.map (·.num),¬(m==k)=true:=by simp
   have e2:(∀ a∈xs,¬(a.num==k)=true)↔∀ m∈xs.map (·.num),¬(m==k)=true:=by simp
   rw[e,e2,hn]
  by_cases hk:(ys.filter fun z=>z.num==k)=[]
  ·by_cases hy:(y.num==k)=true
   ·refine⟨x.data,A,?_,fun n hn=>(h4 n).2 (.inl hn),?_⟩
    ·unfold dX;rw[auY,atP hy,hk];exact h2
    ·have hx:(x.num==k)=true:=by rw[<-h1.1];exact hy
     unfold cF;rw[auY,atP hx,key.1 hk];rfl
   ·refine⟨bg,C,?_,fun n hn=>(h4 n).2 (.inr (c2 n hn)),?_⟩
    ·unfold dX at c1 ⊢;rw[auY,atR hy];exact c1
    ·have hx:¬(x.num==k)=true:=by rw[<-h1.1];exact hy
     unfold cF at c3 ⊢;rw[auY,atR hx];exact c3
  ·refine⟨bg,C,?_,fun n hn=>(h4 n).2 (.inr (c2 n hn)),?_⟩
   ·have:dX (y::ys) k=dX ys k:=by
     unfold dX;rw[auY];by_cases hy:(y.num==k)=true
     ·rw[atP hy,List.getLast?_cons]
      cases hg:(ys.filter fun z=>z.num==k).getLast? with
      |none=>exact absurd (List.getLast?_eq_none_iff.1 hg) hk
      |some z=>rfl
     ·rw[atR hy]
    rw[this];exact c1
   ·have dc:¬(xs.filter fun z=>z.num==k)=[]:=fun h=>hk (key.2 h);have:cF (x::xs) k=cF xs k:=by
     unfold cF;rw[auY];by_cases hy:(x.num==k)=true
     ·rw[atP hy,List.getLast?_cons]
      cases hg:(xs.filter fun z=>z.num==k).getLast? with
      |none=>exact absurd (List.getLast?_eq_none_iff.1 hg) dc
      |some z=>rfl
     ·rw[atR hy]
    rw[this];exact c3
 |[],_::_,_,h,_=>h.elim
 |_::_,[],_,h,_=>h.elim
def i1 (p:Pl)(S:Nat->Prop):Prop:=∀ n,S n->ak p.used n=true/\n<p.blocks
theorem i1.grow {t t':gA}{k:Nat}{S:Nat->Prop}(h:i1 t.pool S)(g:dg t t' k):i1 t'.pool S:=fun n hn=>⟨g.used n (h n hn).1,by rw[g.blocks];exact(h n hn).2⟩
theorem dg.same {t t':gA}{k:Nat}{S:Nat->Prop}(g:dg t t' k)(h:i1 t.pool S)(n:Nat)(hn:S n):t'.rd n=t.rd n:=g.keepRd (h n hn).1
theorem eC {t:gA}{bg data:ay}{b:fR}{S:Nat->Prop}(ht:cE t.pool)(h:aR t.rd bg b S)(hS:i1 t.pool S)(hs:data.length<=16384)(hc:da bg data<=t.pool.left):
  ∃ b' t' S',dE t b data=.ok (b',t')/\aR t'.rd data b' S'/\dg t t' (da bg data)/\i1 t'.pool S'/\(∀ n,S' n->S n\/ak t.pool.used n=false)/\(bg=data->b'=b/\t'=t/\∀ n,S' n↔S n):=by
 by_cases he:bg=data
 ·subst he;have hh:bg.length<=16384:=h.1;exact⟨b,t,S,C6 h,h,by rw[kM bg hh];exact dg.refl ht,hS,fun n hn=>.inl hn,fun _=>⟨rfl,rfl,fun _=>Iff.rfl⟩⟩
 ·have h':=h;obtain⟨hh,was,rfl,hw,hSw⟩:=h;have hu:∀ l∈was,∀ n∈l,fE t.pool n:=by
   intro l hl n hn;have hf:n∈was.flatten:=List.mem_flatten.2 ⟨l,hl,hn⟩;have hr:=mY hw hf;obtain⟨k,rfl⟩:∃ k:Nat,n=k:=⟨n.toNat,by omega⟩
   obtain⟨h1,h2⟩:=hS k ((hSw k).2 hf);exact⟨k,rfl,h1,by omega,h2⟩
  obtain⟨nums,t',e,h1,h2,h3,h4⟩:=KY ht hw hu hs hh hc;refine⟨_,t',fun n=>(n:Int)∈nums.flatten,e,⟨hs,nums,rfl,h1,fun _=>Iff.rfl⟩,h2,fun n hn=>?_,fun n hn=>?_,fun h=>absurd h he⟩
  ·obtain⟨l,hl,hm⟩:=List.mem_flatten.1 hn;obtain⟨k,e,a,b,c⟩:=h3 l hl _ hm;have:n=k:=by omega
   subst this;exact⟨a,c⟩
  ·rcases h4 n hn with h|h
   ·exact .inl ((hSw n).2 h)
   ·exact .inr h
end Go.Proofs.YtkghpdcloaiflaaGreatDoor
