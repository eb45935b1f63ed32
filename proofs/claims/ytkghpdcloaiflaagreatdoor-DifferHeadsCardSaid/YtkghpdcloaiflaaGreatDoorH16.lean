import Derived.Test.YtkghpdcloaiflaaGreatDoorH15
import Derived.Lib.SlBytesConst
set_option maxHeartbeats 4000000
set_option maxRecDepth 100000
namespace Go.Proofs.YtkghpdcloaiflaaGreatDoor
open _root_.Go.Proofs.Tryz
variable {F:Nat->Prop}{base m n num p:Nat}{l:List UInt8}{v:Value}{w:World}
section
open Go.RowKit Go.Shelf
attribute [local go_sem] av0
def eE (n k:Nat):List UInt8:=(List.range k).map λi=>UInt8.ofNat (n/256 ^ i%256)
theorem wK (n k:Nat):eE n (k+1)=eE n k++[UInt8.ofNat (n/256 ^ k%256)]:=by unfold eE;rw[List.range_succ,List.map_append];rfl
theorem gW (n k:Nat):(eE n k).length=k:=by simp[eE]
def Qj (w:World)(base:Nat)(v:Value)(l:List UInt8):Prop:=bR w base v l\/(∃ b,v=.slice (some ⟨b,0,none⟩) l.length l.length/\base<=b/\w.heap[b]?=some (.cells (aR l) 5 (l.length,l.length+1)))
theorem uf {w0:World}(h:Qj w base v l)(c:UInt8)(hn:l.length<=1000000)(hb:base<=w.heap.size)(h0:af w0 w)(ic:w0.heap.size<=base):
  ∃ v' w',(Builtin.append_ #[131,131] 131 #[v,.slice (some ⟨w.heap.size,0,none⟩) 1 1]).run prog (w.alloc (.cells #[.int .u8 (c.toNat:Int)] 5))=.ok v' w'/\bR w' base v' (l++[c])/\af w0 w'/\ai (λg=>base<=g/\∃ c fr,w.heap[g]?=some (.cells c 5 fr)) w w':=by
 rcases h with h|⟨b,rfl,UA,lY⟩
 ·obtain⟨v',w',r,own,m,_⟩:=gQ (P:=prog) underlying131 jT rfl dc7 base v _ _ w h (gg [c]) rfl (by simp[gg,Value.oneCell']) (by unfold maxLen;omega) J hb;refine⟨v',w',r,?_,h0.trans m (λg hg hv=>by have:=(h.lt g hv).1;omega),m.mono λg hg hv=>⟨(h.lt g hv).1,?_⟩⟩
  ·have e:gg (l++[c])=gg l++gg [c]:=by simp[gg]
   have e2:(l++[c]).length=l.length+1:=by simp
   unfold bR;rw[e,e2];exact own
  ·rcases h.2 with⟨e,_⟩|⟨g',cap,dW,e,_,Tk,_⟩
   ·rw[e]at hv;cases hv
   ·rw[e]at hv;have:g'=g:=by simpa[Value.ownBlock]using hv
    subst this;exact⟨_,_,Tk⟩
 ·obtain⟨i0,hi,iK,lX,mJ⟩:=awj jT;have mL:b<w.heap.size:=(awr.1 lY).1;have hr:=run_append_grow (P:=prog) (w:=w.alloc (.cells #[.int .u8 (c.toNat:Int)] 5)) 131 131 5 i0 (.int .u8 0) underlying131 hi iK ⟨b,0,none⟩ l.length l.length (gg l) (by rw[lX];simp[gg]) (λj x hj=>by
   rw[ij,awR];have h1:(w.alloc (.cells #[.int .u8 (c.toNat:Int)] 5)).heap[b]?=some (.cells (aR l) 5 (l.length,l.length+1)):=by
    rw[((ai.refl (λ_=>False) w).alloc _).block b mL id];exact lY
   simp only[World.cell?,h1];simpa[aR]using hj) ⟨w.heap.size,0,none⟩ 1 1 [.int .u8 (c.toNat:Int)] (by rw[lX];rfl) (λj x hj=>by
   rw[ij,awR,World.cell?_alloc_at _ _ _ _ rfl];simpa using hj) J J (by rw[mJ];exact growslice_fits J J)
  have hge:=grownCap_ge (w.alloc (.cells #[.int .u8 (c.toNat:Int)] 5)) (l.length+1) l.length 5;have KL:=grownCap_le_maxLen (w.alloc (.cells #[.int .u8 (c.toNat:Int)] 5)) (l.length+1) l.length 5 (by unfold maxLen;omega);refine⟨_,_,hr,?_,(h0.alloc _).drew.alloc _,(((ai.refl _ w).alloc _).drew.alloc _)⟩;have e:gg (l++[c])=gg l++[.int .u8 (c.toNat:Int)]:=by simp[gg]
  unfold bR;rw[e,show(l++[c]).length=l.length+1 by simp];refine⟨by simp[gg],.inr ⟨_,_,_,rfl,by simp;omega,av (w.alloc (.cells #[.int .u8 (c.toNat:Int)] 5)).drew _ _,hge,KL,?_,?_⟩⟩
  ·have hz:(Value.int IntKind.u8 0).cells.size=1:=rfl;simp only[Array.size_append,axo,size_zeroCells,hz,gg,awz,av5,axe];omega
  ·simp only[Array.toList_append,awN];rw[<-awN];exact List.take_left' (by simp[gg])
theorem wO (h:Qj w base v l)(hl:l≠[]):∃ g n c,v=.slice (some ⟨g,0,none⟩) n c:=by
 rcases h with h|⟨b,e,_⟩
 ·rcases h.2 with⟨_,e⟩|⟨g,cap,dW,e,_⟩
  ·exact absurd e (by simp;exact hl)
  ·exact⟨g,_,cap,e⟩
 ·exact⟨b,_,_,e⟩
theorem Ie (text:List UInt8)(num:Nat)(w:World)(ht:text.length<=40)(hn:num<=1099511627776):
  Calls prog 236 #[.agg #[.string ⟨text.toArray⟩,.int .i64 (num:Int)]] w λe w'=>e=.returned (.string ⟨(CY text num).toArray⟩)/\af w w':=by
 have hf:=λW=>vS ([82,84]++JT num++[UInt8.ofNat (text.length%256)]++text) 56 W (by simp[JT];omega) J;obtain⟨HFI,Ht,Hn⟩:=K3 hf ht hn;clear hf ht hn;have YE:=Lib.run_convert_bytes_const (P:=prog) (w.alloc (.cells #[.string ⟨text.toArray⟩,.int .i64 (num:Int)] 168)) 131 5 #[.int .u8 82,.int .u8 84] 2 2 underlying131 underlying5;have za:(w.alloc (.cells #[.string ⟨text.toArray⟩,.int .i64 (num:Int)] 168)).heap.size=w.heap.size+1:=by simp
 rw[za]at YE;have h0:Qj ((w.alloc (.cells #[.string ⟨text.toArray⟩,.int .i64 (num:Int)] 168)).alloc (.cells #[.int .u8 82,.int .u8 84] 5 (2,3))) w.heap.size (.slice (some ⟨w.heap.size+1,0,none⟩) 2 2) [82,84]:=.inr ⟨w.heap.size+1,rfl,J,by
  rw[<-za];show((w.alloc (.cells #[.string ⟨text.toArray⟩,.int .i64 (num:Int)] 168)).heap.push (.cells #[.int .u8 82,.int .u8 84] 5 (2,3)))[(w.alloc (.cells #[.string ⟨text.toArray⟩,.int .i64 (num:Int)] 168)).heap.size]?=some (.cells (aR [82,84]) 5 (2,3));rw[Array.getElem?_push_size];rfl⟩
 have Zl:=Z h0;have nE:Hid (World.blk ((w.alloc (.cells #[.string ⟨text.toArray⟩,.int .i64 (num:Int)] 168)).alloc (.cells #[.int .u8 82,.int .u8 84] 5 (2,3))) w.heap.size #[.string ⟨text.toArray⟩,.int .i64 (num:Int)] 168):=Z (aE (av w _ _) _);have eR:Hid (af w ((w.alloc (.cells #[.string ⟨text.toArray⟩,.int .i64 (num:Int)] 168)).alloc (.cells #[.int .u8 82,.int .u8 84] 5 (2,3)))):=Z (((ai.refl _ w).alloc _).alloc _);clear h0 za;go_enter func236,ntmps236;go_wp2_with fail
 go_loopw [7,3] (λi v wr=>∃ k:Nat,k<=6/\i=.int .i64 (k:Int)/\Qj wr w.heap.size v ([82,84]++eE num k)/\World.blk wr w.heap.size #[.string ⟨text.toArray⟩,.int .i64 (num:Int)] 168/\af w wr) (λi _ _=>6-(intOf i).toNat)
 case atStart=>exact⟨0,J,rfl,Zl.o,nE.o,eR.o⟩
 case round=>
  clear Zl nE eR YE;obtain⟨k,hk,rfl,ho,hb,hK⟩:=hrel;by_cases aP:k<6
  ·have dL:(k:Int)<6:=J
   have c1:wr.cell? ⟨w.heap.size,1,none⟩=some (.int .i64 (num:Int)):=aa hb 1;have bt:([82,84]++eE num k:List UInt8).length<=8:=by simp[eE];omega
   obtain⟨v',w',bN,bC,FU,WO⟩:=uf ho (UInt8.ofNat (num/256 ^ k%256)) J hK.size hK (av9 _);have eb:((UInt8.ofNat (num/256 ^ k%256)).toNat:Int)=(num:Int)/2 ^ (8*k)%256:=by
    rw[show(UInt8.ofNat (num/256 ^ k%256)).toNat=num/256 ^ k%256 by simp,show(256:Nat) ^ k=2 ^ (8*k) by rw[Nat.pow_mul]];simp
   rw[eb]at bN;obtain⟨HR,HO,HK,lJ⟩:=K4 bN bC FU (ab WO hb (λ⟨_,c,fr,e⟩=>by unfold World.blk at hb;rw[hb]at e;cases e));have Sc:(8*(k:Int))<=40:=J
   clear bN bC FU WO;go_wp2_with (at_builtin;refine aB HR.o rfl rfl rfl rfl ?_)
   go_roundw
   case rel=>exact⟨k+1,J,by go_num,.inl (by rw[wK,<-awN];exact HO.o),lJ.o,HK.o⟩
   case measure=>simp[intOf];omega
  ·obtain rfl:k=6:=J
   have e6:eE num 6=JT num:=rfl;rw[e6]at ho;have c0:wr.cell? ⟨w.heap.size,0,none⟩=some (.string ⟨text.toArray⟩):=aa hb 0;have mL:=ak hb;go_wp2_with fail;refine gA 100 [0,1,2,3,4,7,8] [5,6,9,10,11,12] (λW=>W.cell? ⟨w.heap.size,0,none⟩=some (.string ⟨text.toArray⟩)) (λ_=>True) kr7 kr7 (λ_ o _ _ _ h=>by cases o<;>exact h) ?_
   iterate 7 (refine eJ rfl (λL hL=>?_);go_simp;(first|refine hL _ ?_|refine⟨_,λ_ _=>rfl,hL _ ?_⟩|refine⟨_,λW hW=>by simp only[hW];rfl,hL _ ?_⟩);clear hL L)
   refine gT ?_;obtain⟨W0,pQ⟩:∃ W0:World,({ wr with drawn:=wr.drawn+1 }:World)=W0:=⟨_,rfl⟩
   have dM:af wr W0:=by rw[<-pQ];exact(ai.refl _ wr).drawn _
   have d0:W0.cell? ⟨w.heap.size,0,none⟩=some (.string ⟨text.toArray⟩):=(dM.cell (p:=⟨w.heap.size,0,none⟩) mL id).trans c0;have ic:=ab dM hb id;have TV:Qj W0 w.heap.size u3 ([82,84]++JT num):=by
    rcases ho with h|⟨b,e,h1,h2⟩
    ·exact .inl (ip h dM)
    ·exact .inr ⟨b,e,h1,dM.obj h2 id⟩
   have hK0:=hK.keep dM;obtain⟨gu,nu,cu,eu⟩:=wO TV sp7;subst eu;have af0:([82,84]++JT num:List UInt8).length=8:=by simp[JT]
   have sJ:=Ht.o;have hwr:IntKind.u8.wrap (text.length:Int)=(text.length:Int):=by simp only[IntKind.wrap,IntKind.signed,IntKind.bits];simp;omega
   have hbt:((UInt8.ofNat (text.length%256)).toNat:Int)=(text.length:Int):=by simp;omega
   obtain⟨v1,w1,r1,yu,k1,m1⟩:=uf TV (UInt8.ofNat (text.length%256)) J hK0.size hK0 (av9 _);rw[hbt]at r1;have hb1:=ab m1 ic (λ⟨_,c,fr,e⟩=>by unfold World.blk at ic;rw[ic]at e;cases e);have d1:w1.cell? ⟨w.heap.size,0,none⟩=some (.string ⟨text.toArray⟩):=aa hb1 0;obtain⟨i0,hi,iK,lX,mJ⟩:=awj jT;have hbs:({ data:=text.toArray }:ByteArray).size=text.length:=by simp[ByteArray.size]
   obtain⟨v2,w2,r2,NP,m2,_⟩:=qc (P:=prog) 131 9 131 5 i0 underlying131 underlying9 hi iK lX mJ w1 v1 _ _ (eS yu (awP _)) ⟨text.toArray⟩ (by rw[hbs];simp[JT];omega);have eG:v1.ownBlock≠some w.heap.size:=λe=>by
    rcases yu.2 with⟨h,_⟩|⟨g,cap,dW,h,_,hg,_⟩
    ·rw[h]at e;cases e
    ·rw[h]at e;have:g=w.heap.size:=by simpa[Value.ownBlock]using e
     subst this;unfold World.blk at hb1;rw[hb1]at hg;cases hg
   obtain⟨gv,nv,cv,ev⟩:=wO (.inl yu) sp7;subst ev;have fh:=ab m2 hb1 eG;have d2:w2.cell? ⟨w.heap.size,0,none⟩=some (.string ⟨text.toArray⟩):=aa fh 0;have dK:af w w2:=k1.trans m2 (λg hg hv=>by have:=(yu.lt g hv).1;omega);have Zb:bR w2 0 v2 ([82,84]++JT num++[UInt8.ofNat (text.length%256)]++text):=by
    have e:gg ([82,84]++JT num++[UInt8.ofNat (text.length%256)]++text)=gg ([82,84]++JT num++[UInt8.ofNat (text.length%256)])++Lib.strCells ⟨text.toArray⟩:=by simp[gg,Lib.strCells]
    have e2:([82,84]++JT num++[UInt8.ofNat (text.length%256)]++text).length=([82,84]++JT num++[UInt8.ofNat (text.length%256)]).length+(⟨text.toArray⟩:ByteArray).size:=by rw[awn,hbs]
    unfold bR;rw[e,e2];exact NP
   have ym:=ls Zb;have ta:∀ o,(W0.alloc o).cell? ⟨w.heap.size,0,none⟩=some (.string ⟨text.toArray⟩):=λo=>(((ai.refl (λ_=>False) W0).alloc o).cell (p:=⟨w.heap.size,0,none⟩) (am d0) id).trans d0;obtain⟨Xw,ru,bJ,lJ⟩:=K4 r1 r2 dK fh;rw[pQ];clear pQ dM ic TV hK0 hbt r1 yu k1 m1 hb1 hi iK lX mJ r2 NP m2 eG fh dK Zb ho hb hK c0 mL af0 sJ;refine bS rfl ⟨d0,.inr trivial⟩ ?_;go_wp2_with fail;refine bS rfl ⟨ta _,.inr trivial⟩ ?_;refine aB Xw.o rfl rfl rfl rfl ?_;go_wp2_with fail;refine bS rfl ⟨d1,.inr trivial⟩ ?_;refine kI ru.o rfl rfl rfl rfl ?_;go_wp2_with fail;refine bS rfl ⟨d2,.inr trivial⟩ ?_;go_wp2_with fail;refine bS rfl ⟨d2,.inr trivial⟩ ?_;go_wp2_with fail;refine(HFI.o _).mono ?_;rintro e w3 ⟨rfl,dr⟩;have d3:w3.cell? ⟨w.heap.size,0,none⟩=some (.string ⟨text.toArray⟩):=aa (ab dr lJ.o id) 0;have ez:=Z (bJ.keep dr);clear dr;go_wp2_with fail;refine bS rfl ⟨d3,.inr trivial⟩ ?_;go_wp2_with fail;refine pA ⟨d3,.inr trivial⟩ ?_;go_wp2;go_ret;exact⟨rfl,ez.o⟩
theorem zN {v pd pc:Nat}{d:Dk}{text:ay}{M:Int->Option ay}{Fd Fc:Nat->Prop}(h:pS w v pd pc d text num M Fd Fc F)(t2:ay)(n2:Nat)(ht:t2.length<=40)(hn:n2<=1099511627776):
  Calls prog 174 #[au v,.agg #[.string ⟨t2.toArray⟩,.int .i64 (n2:Int)]] w λe w'=>e=.returned (.int .i64 0)/\∃ F',gS w' v (ku d t2 n2) t2 n2 F'/\dO F F' w w':=by
 obtain⟨W,hW⟩:∃ W,w.alloc (.cells #[.string ⟨t2.toArray⟩,.int .i64 (n2:Int)] 168)=W:=⟨_,rfl⟩
 have k0:af w W:=by rw[<-hW];exact(ai.refl _ w).alloc _
 have cJ:W.heap.size=w.heap.size+1:=by rw[<-hW];simp
 have rj:World.blk W w.heap.size #[.string ⟨t2.toArray⟩,.int .i64 (n2:Int)] 168:=by rw[<-hW];exact av w _ _
 obtain⟨H0,HB,HK⟩:=K3 (h.same (k0.on (λ_ _=>id)) k0.size) rj k0;have HL:Hid (∀ b,F b->b<w.heap.size):=Z h.lt;have HX:=Z h;have c0:W.cell? ⟨v,0,none⟩=some (au pd):=aa H0.own 0;have b0:W.cell? ⟨w.heap.size,0,none⟩=some (.string ⟨t2.toArray⟩):=aa rj 0;have b1:W.cell? ⟨w.heap.size,1,none⟩=some (.int .i64 (n2:Int)):=aa rj 1;have hr:(n2:Int).tmod 2=((n2%2:Nat):Int):=by rw[Int.tmod_eq_emod_of_nonneg J];rfl
 obtain⟨Ht,Hn⟩:=K2 ht hn;clear h rj k0 ht;go_enter func174,ntmps174;go_wp2_with fail;refine gA 100 [0,1,2,3,4,5,6,7,8] [9,10,11,12] (λX=>X.cell? ⟨v,0,none⟩=some (au pd)/\X.cell? ⟨w.heap.size,0,none⟩=some (.string ⟨t2.toArray⟩)/\X.cell? ⟨w.heap.size,1,none⟩=some (.int .i64 (n2:Int))) (λ_=>True) kr7 kr7 (λ_ o _ _ _ h=>by cases o<;>exact h) ?_
 iterate 9 (refine eJ rfl (λL hL=>?_);go_simp;(first|refine hL _ ?_|refine⟨_,λ_ _ _ _=>rfl,hL _ ?_⟩|refine⟨_,λX h1 h2 h3=>by simp only[h1,h2,h3];rfl,hL _ ?_⟩|refine⟨_,λX h1 h2 h3=>by simp only[h2,h3,Result.andThen];rfl,hL _ ?_⟩|(trace_state;fail));clear hL L)
 refine gT ?_;obtain⟨W0,pQ⟩:∃ W0:World,({ W with drawn:=W.drawn+1 }:World)=W0:=⟨_,rfl⟩
 have kd:af W W0:=by rw[<-pQ];exact(ai.refl _ W).drawn _
 obtain⟨H1,jg,cC⟩:=K3 (H0.same (kd.on (λ_ _=>id)) kd.size) (ab kd HB.o id) (HK.keep kd);rw[pQ];clear pQ kd c0 b0 b1;have st:∀ X:World,World.blk X v (lN pd pc text num) 171->World.blk X w.heap.size #[.string ⟨t2.toArray⟩,.int .i64 (n2:Int)] 168->(X.cell? ⟨v,0,none⟩=some (au pd)/\X.cell? ⟨w.heap.size,0,none⟩=some (.string ⟨t2.toArray⟩)/\X.cell? ⟨w.heap.size,1,none⟩=some (.int .i64 (n2:Int)))/\(false=true\/True):=λX h1 h2=>⟨⟨aa h1 0,aa h2 0,aa h2 1⟩,.inr trivial⟩
 have uM:=Z st;clear st;refine bS rfl (uM.o _ H1.own jg.o) ?_;go_wp2_with fail;refine(Ie t2 n2 _ Ht.o Hn.o).mono ?_;rintro e w1 ⟨rfl,ks⟩;obtain⟨H2,lJ,bJ⟩:=K3 (H1.same (ks.on (λ_ _=>id)) ks.size) (ab ks jg.o id) (cC.keep ks);clear ks H1 jg cC H0 HB HK;go_wp2_with fail;refine bS rfl (uM.o _ H2.own lJ.o) ?_;go_wp2_with fail;refine(kw H2.disk (n2%2) (by have:=H2.many;omega) (CY t2 n2) (Lf Ht.o n2)).mono ?_;rintro e w2 ⟨rfl,O6,SM,tH⟩;have nF:¬ F w.heap.size:=λhf=>by have:=HL.o _ hf;omega
 have nv2:¬ O6 v:=λhv=>(tH.foot v hv).elim H2.nd (λhge=>by have:=H2.lt v H2.fv;omega);have ho2:=ab tH.mod H2.own H2.nd;have Ch:=H2.cache.same (tH.mod.on (λb hb hd=>H2.apart b hd hb)) tH.mod.size;have fh:=ab tH.mod lJ.o (λhd=>nF (H2.fd _ hd));have gi:Hid (ai F w w2):=Z ((bJ.mono (λ_ _ h=>h.elim)).trans (tH.mod.mono (T:=F) (λi _ hi=>H2.fd i hi)) (λ_ _ h=>h));have Tf:Hid (∀ b,O6 b->Fd b\/w1.heap.size<=b):=Z tH.foot;obtain⟨Sd,SV,Hc2,qv⟩:=K4 SM ho2 Ch fh;have akE:=tH.mod.size;clear SM tH ho2 Ch fh;go_wp2_with fail;refine bS rfl (uM.o _ SV.o qv.o) ?_;go_wp2_with fail;refine(vT SV.o).mono ?_;rintro e w3 ⟨rfl,Gh,nS⟩;have vF:F v:=H2.fv;have hwv:v≠w.heap.size:=λe=>nF (e▸vF);have sK:=ab nS qv.o (λe=>hwv e.symm);obtain⟨Xr,Hc3⟩:=K2 (Sd.mod nS (λb hb e=>nv2 (e▸hb))) (Hc2.same (nS.on (λb hb e=>H2.nc (e▸hb))) nS.size);have pU:Hid (ai F w w3):=Z (gi.trans (nS.mono (T:=F) (λi _ e=>by subst e;exact vF)) (λ_ _ h=>h));obtain⟨Tq,Gd⟩:=K2 Gh sK;have apX:=nS.size;clear Gh nS sK qv SV Hc2 gi Sd;go_wp2_with fail;refine bS rfl (uM.o _ Tq.o Gd.o) ?_;go_wp2_with fail;refine pA (uM.o _ Tq.o Gd.o) ?_;have c0:w3.cell? ⟨v,0,none⟩=some (au pd):=aa Tq.o 0;have SY:=Z (pz Xr.o);go_wp2_with fail;refine SY.mono ?_;rintro e w4 ⟨rfl,Fd4,hd4,BW⟩;clear SY c0;have nv4:¬ Fd4 v:=λhv=>(BW.foot v hv).elim nv2 (λhge=>by have:=H2.lt v vF;omega);have nb4:¬ O6 w.heap.size:=λhd=>(Tf.o _ hd).elim (λh=>nF (H2.fd _ h)) (λhge=>by have:=ak lJ.o;omega);have aiW:∀ b,O6 b->¬ Fc b:=λb hb SS=>(Tf.o b hb).elim (λhd=>H2.apart b hd SS) (λhge=>by have:=H2.lt b (H2.fc b SS);omega);obtain⟨UE,F0,Hc5⟩:=K3 (ab BW.mod Tq.o nv2) (ab BW.mod Gd.o nb4) (Hc3.same (BW.mod.on (λb hb hd=>aiW b hd hb)) BW.mod.size);have hsw:w.heap.size<=w1.heap.size:=by have:=ak lJ.o;omega
 have Gk:Hid (ai F w w4):=Z (pU.trans BW.mod (λi hi hd=>(Tf.o i hd).elim (H2.fd i) (λhge=>J)));have HF4:Hid (∀ b,Fd4 b->Fd b\/w1.heap.size<=b):=Z (λb hb=>(BW.foot b hb).elim (Tf.o b) (λhge=>.inr J));have ati:=BW.mod.size;have Hd5:=Z hd4;clear hd4 BW Tq Gd Hc3 pU Xr uM;go_wp2_with fail;refine(vT UE.o).mono ?_;rintro e w5 ⟨rfl,Ob,tM⟩;have Gm:=ab tM F0.o (λe=>hwv e.symm);obtain⟨Hd6,Hc6⟩:=K2 (Hd5.mod tM (λb hb e=>nv4 (e▸hb))) (Hc5.same (tM.on (λb hb e=>H2.nc (e▸hb))) tM.size);have Uu:Hid (ai F w w5):=Z (Gk.trans (tM.mono (T:=F) (λi _ e=>by subst e;exact vF)) (λ_ _ h=>h));have Ho6:=Z Ob;have b0:w5.cell? ⟨w.heap.size,0,none⟩=some (.string ⟨t2.toArray⟩):=aa Gm 0;have b1:w5.cell? ⟨w.heap.size,1,none⟩=some (.int .i64 (n2:Int)):=aa Gm 1;have c1:w5.cell? ⟨v,1,none⟩=some (.string ⟨text.toArray⟩):=aa Ob 1;have c2:w5.cell? ⟨v,2,none⟩=some (.int .i64 (num:Int)):=aa Ob 2;have f1:=ae Ob ⟨v,1,none⟩ rfl;have f2:=ae Ob ⟨v,2,none⟩ rfl;clear Ob tM Gm UE F0 Hc5 Gk Hd5;go_wp2;go_ret;have m7:ai (λb=>b=v) w5 ((w5.setCell ⟨v,1,none⟩ (.string ⟨t2.toArray⟩)).setCell ⟨v,2,none⟩ (.int .i64 (n2:Int))):=((ai.refl (λb=>b=v) w5).setCell (p:=⟨v,1,none⟩) (.inl rfl) _).setCell (p:=⟨v,2,none⟩) (.inl rfl) _;have o7:World.blk ((w5.setCell ⟨v,1,none⟩ (.string ⟨t2.toArray⟩)).setCell ⟨v,2,none⟩ (.int .i64 (n2:Int))) v (lN pd pc t2 n2) 171:=ah (ah Ho6.o 1 _) 2 _;generalize (w5.setCell ⟨v,1,none⟩ (.string ⟨t2.toArray⟩)).setCell ⟨v,2,none⟩ (.int .i64 (n2:Int))=w6 at*;have s56:=m7.size;have s05:=Uu.size;refine⟨rfl,λb=>F b\/Fd4 b,⟨pd,pc,M,Fd4,Fc,?_⟩,Uu.trans (m7.mono (T:=F) (λi _ e=>by subst e;exact vF)) (λ_ _ h=>h),λb hb=>hb.elim .inl (λhd=>(HF4.o b hd).elim (λh=>.inl (H2.fd b h)) (λh=>.inr J))⟩
 exact { own:=o7,disk:=Hd6.mod m7 (λb hb e=>nv4 (e▸hb)),cache:=Hc6.same (m7.on (λb hb e=>H2.nc (e▸hb))) m7.size,
         good:=λk s hk=>by rw[vC];exact H2.good k s hk
         fv:=.inl vF,fd:=λb hb=>.inr hb,fc:=λb hb=>.inl (H2.fc b hb),
         apart:=λb hb hc=>(HF4.o b hb).elim (λhd=>H2.apart b hd hc) (λhge=>by have:=H2.lt b (H2.fc b hc);omega),
         nd:=nv4,nc:=H2.nc,many:=by rw[qB];exact H2.many,num:=hn,
         lt:=λb hb=>hb.elim (λh=>by have:=HL.o b h;omega) (λh=>by have:=Hd6.lt b h;omega) }
theorem DY {v:Nat}{d:Dk}{text:ay}(h:gS w v d text num F)(t2:ay)(ht:t2.length<=40)(hn:num<1099511627776):
  Calls prog 140 #[au v,.string ⟨t2.toArray⟩] w λe w'=>e=.returned (.int .i64 0)/\∃ F',gS w' v (ku d.sync t2 (num+1)) t2 (num+1) F'/\dO F F' w w':=by
 obtain⟨pd,pc,M,Fd,Fc,h⟩:=h;have H:=Z h;have c0:w.cell? ⟨v,0,none⟩=some (au pd):=aa h.own 0;have c2:w.cell? ⟨v,2,none⟩=some (.int .i64 (num:Int)):=aa h.own 2;have c4:w.cell? ⟨v,4,none⟩=some (.bool false):=aa h.own 4;have hnI:¬(1099511627776:Int)<=(num:Int):=J
 have hl:(t2.length:Int)<=40:=J
 obtain⟨SY,Ht,Hn⟩:=K3 (pz h.disk) ht hn;clear h ht hn;go_enter func140,ntmps140;go_wp2_with fail;refine SY.mono ?_;rintro e w1 ⟨rfl,Fd1,OU,hk1⟩;have oc:=hk1.mod.size;have X1:pS w1 v pd pc d.sync text num M Fd1 Fc (λb=>F b\/Fd1 b):=
  { own:=ab hk1.mod H.own H.nd,disk:=OU,cache:=H.cache.same (hk1.mod.on (λb hb hd=>H.apart b hd hb)) oc,
    good:=λk s hk=>by rw[AQ];exact H.good k s hk
    fv:=.inl H.fv,fd:=λb hb=>.inr hb,fc:=λb hb=>.inl (H.fc b hb),
    apart:=λb hb hc=>(hk1.foot b hb).elim (λhd=>H.apart b hd hc) (λhge=>by have:=H.lt b (H.fc b hc);omega),
    nd:=λhv=>(hk1.foot v hv).elim H.nd (λhge=>by have:=H.lt v H.fv;omega),nc:=H.nc,many:=by rw[dx];exact H.many,num:=by have:=Hn.o;omega,
    lt:=λb hb=>hb.elim (λh=>by have:=H.lt b h;omega) (λh=>OU.lt b h) }
 have K1:Hid (dO F (λb=>F b\/Fd1 b) w w1):=Z ⟨hk1.mod.mono (λi _ hi=>H.fd i hi),λb hb=>hb.elim .inl (λhd=>(hk1.foot b hd).imp (H.fd b) id)⟩;have pR:=Z X1;clear X1 hk1 OU c0 c2 c4 SY;go_wp2_with fail;refine(Px pR.o).mono ?_;rintro e w2 ⟨rfl,X2,m2⟩;have c2:w2.cell? ⟨v,2,none⟩=some (.int .i64 (num:Int)):=aa X2.own 2;have e1:((num+1:Nat):Int)=(num:Int)+1:=J
 have KE:=zN X2 t2 (num+1) Ht.o (by have:=Hn.o;omega);rw[e1]at KE;have od:=Z KE;have Kq2:Hid (dO F (λb=>F b\/Fd1 b) w w2):=Z (K1.trans ⟨m2.mono (λi _ e=>by subst e;exact pR.fv),λb hb=>.inl hb⟩);clear X2 m2 KE e1;go_wp2_with fail;refine od.mono ?_;rintro e w3 ⟨rfl,F3,h3,dr⟩;obtain⟨Kq3,H3⟩:=K2 (Kq2.trans dr) h3;clear h3 dr;go_wp2;go_ret;exact⟨rfl,F3,H3.o,Kq3.o⟩
theorem Qk {d:Dk}(h:bE w p d F)(hs:32<=d.size):
  Calls prog 173 #[au p] w λe w'=>∃ v pc Fc,e=.returned (.tuple #[au v,.int .i64 0])/\af w w'/\w.heap.size<=v/\(∀ b,Fc b->w.heap.size<=b)/\pS w' v p pc d [] 0 (λ_=>none) F Fc (λb=>F b\/Fc b\/b=v):=by
 obtain⟨SE,H⟩:=K2 (jt h) h;have ph:=h.ok.many;have cJ:d.size<=16384:=ph;have HS:=Z (And.intro hs cJ);have q1:¬((d.size:Int)/4)<8:=J
 have q2:(d.size:Int)/4<=4096:=J
 clear h hs ph cJ;generalize hq:d.size=sz at*;have Hq:=Z hq;clear hq;go_enter func173,ntmps173;go_wp2_with fail;refine SE.mono ?_;rintro e w1 ⟨rfl,rfl⟩;go_wp2_with fail;refine(Pv w1).mono ?_;rintro e w2 ⟨c,rfl,hc,hk,Fc,hca,hFc⟩;obtain⟨HK,HC,HF⟩:=K3 hk hca hFc;clear hk hca hFc;go_wp2;go_ret2;have cJ:=HK.size;have hsd:=HS.o;have k3:af w2 (w2.alloc (.cells (lN p c [] 0) 171)):=(ai.refl _ w2).alloc _;have k13:af w1 (w2.alloc (.cells (lN p c [] 0) 171)):=HK.alloc _;have o3:World.blk (w2.alloc (.cells (lN p c [] 0) 171)) w2.heap.size (lN p c [] 0) 171:=av w2 _ _;have h4:(w2.alloc (.cells #[au p,.string ⟨#[]⟩,.int .i64 0,au c,.bool false] 171)).heap.size=w2.heap.size+1:=by simp
 refine⟨w2.heap.size,c,Fc,rfl,k13,cJ,HF.o,?_⟩
 exact { own:=o3,disk:=(H.mod HK.o (λ_ _=>id)).mod k3 (λ_ _=>id),cache:=HC.same (k3.on (λ_ _=>id)) k3.size,
         good:=λ_ _ h=>by cases h
         fv:=.inr (.inr rfl),fd:=λb hb=>.inl hb,fc:=λb hb=>.inr (.inl hb),
         apart:=λb hb hc=>by have:=H.lt b hb;have:=HF.o b hc;omega
         nd:=λhv=>by have:=H.lt _ hv;omega
         nc:=λhv=>by have:=HC.lt _ hv;omega
         many:=by rw[Hq.o];exact hsd
         num:=J
         lt:=λb hb=>by
          rw[h4];rcases hb with hb|hb|hb
          ·have:=H.lt b hb;omega
          ·have:=HC.lt b hb;omega
          ·omega }
theorem DZ {d:Dk}(h:bE w p d F)(hs:32<=d.size)(text:ay)(ht:text.length<=40):
  Calls prog 97 #[au p,.string ⟨text.toArray⟩] w λe w'=>∃ v,e=.returned (.tuple #[au v,.int .i64 0])/\w.heap.size<=v/\∃ F',gS w' v (ku (d.put 0 (List.replicate 64 0)) text 1) text 1 F'/\dO F F' w w':=by
 obtain⟨MA,H⟩:=K2 (Qk h hs) h;have hl:(text.length:Int)<=40:=J
 obtain⟨Ht,HS⟩:=K2 ht hs;clear h ht hs;go_enter func97,ntmps97;go_wp2_with fail;refine MA.mono ?_;rintro e w1 ⟨v,pc,Fc,rfl,hk1,hv,hFc,X1⟩;obtain⟨cC,pR,HV⟩:=K3 hk1 X1 (And.intro hv hFc);clear hk1 X1 hv hFc MA;have R:=Z (Tryz.strings_Repeat ⟨[(0:UInt8)].toArray⟩ 64 w1 J dc7);go_wp2_with fail;refine R.mono ?_;rintro e w2 ⟨rfl,fh⟩;have dK:af w1 w2:=ai.ofBelow fh;have er:Lib.repeatL (ByteArray.mk [(0:UInt8)].toArray).data.toList 64=List.replicate 64 0:=XM;rw[er];have WR:=kw (pR.disk.mod dK (λ_ _=>id)) 0 (by have:=HS.o;omega) (List.replicate 64 0) rfl;obtain⟨lg,bJ,HWR⟩:=K3 (pR.same (dK.on (λ_ _=>id)) dK.size) (cC.keep dK) WR;have akE:=dK.size;generalize hz:List.replicate 64 (0:UInt8)=z0 at*;clear dK WR fh R pR;go_wp2_with fail;refine HWR.mono ?_;rintro e w3 ⟨rfl,NQ,O5,dr⟩;have Cx:=dr.mod.size;have X3:pS w3 v p pc (d.put 0 z0) [] 0 (λ_=>none) NQ Fc (λb=>(F b\/Fc b\/b=v)\/NQ b):=
  { own:=ab dr.mod lg.own lg.nd,disk:=O5,cache:=lg.cache.same (dr.mod.on (λb hb hd=>lg.apart b hd hb)) Cx,
    good:=λ_ _ h=>by cases h
    fv:=.inl lg.fv,fd:=λb hb=>.inr hb,fc:=λb hb=>.inl (lg.fc b hb),
    apart:=λb hb hc=>(dr.foot b hb).elim (λhd=>lg.apart b hd hc) (λhge=>by have:=lg.lt b (lg.fc b hc);omega),
    nd:=λhv=>(dr.foot v hv).elim lg.nd (λhge=>by have:=lg.lt v lg.fv;omega),nc:=lg.nc,many:=by rw[ft];exact lg.many,num:=J,
    lt:=λb hb=>hb.elim (λh=>by have:=lg.lt b h;omega) (λh=>O5.lt b h) }
 have nS:ai F w w3:=(bJ.mono (λ_ _ h=>h.elim)).trans (dr.mod) (λ_ _ h=>h);have Kq3:Hid (dO F (λb=>(F b\/Fc b\/b=v)\/NQ b) w w3):=Z ⟨nS,λb hb=>by
  have h1:=HV.o;have h2:=bJ.size;rcases hb with(hb|hb|hb)|hb
  ·exact .inl hb
  ·exact .inr (h1.2 b hb)
  ·exact .inr J
  ·exact(dr.foot b hb).imp id (λhge=>J)⟩
 have KE:=zN X3 text 1 Ht.o J;have od:=Z KE;clear KE O5 dr X3 nS;go_wp2_with fail;refine od.mono ?_;rintro e w4 ⟨rfl,F4,h4,jE⟩;obtain⟨Kq4,H4⟩:=K2 (Kq3.trans jE) h4;clear h4 jE;go_wp2;go_ret2;exact⟨v,rfl,HV.1,F4,by rw[hz];exact H4.o,Kq4.o⟩
abbrev az (l:ay):Value:=.string ⟨l.toArray⟩
def ZL (n:Nat)(L:List ay):Array Value:=#[.int .i64 (n:Int),az (L.getD 0 []),az (L.getD 1 []),az (L.getD 2 []),az (L.getD 3 []),az (L.getD 4 []),az (L.getD 5 []),az (L.getD 6 []),az (L.getD 7 [])]
structure dp (w:World)(m n:Nat)(L:List ay):Prop where
 own:World.blk w m (ZL n L) 145
 many:n<=4096
 eight:L.length=8
 short:∀ p,(L.getD p []).length<=1000000
theorem dp.mod {w':World}{L:List ay}{S:Nat->Prop}(h:dp w m n L)(k:ai S w w')(hS:¬ S m):dp w' m n L:=⟨ab k h.own hS,h.many,h.eight,h.short⟩
theorem dp.lt {L:List ay}(h:dp w m n L):m<w.heap.size:=ak h.own
theorem dp.cell {L:List ay}(h:dp w m n L)(p:Nat)(hp:p<8):w.cell? ⟨m,1+p,none⟩=some (az (L.getD p [])):=by
 have:=aa h.own (1+p);rw[this];have CK:p=0\/p=1\/p=2\/p=3\/p=4\/p=5\/p=6\/p=7:=J
 rcases CK with rfl|rfl|rfl|rfl|rfl|rfl|rfl|rfl<;>rfl
theorem Ql (w:World)(n:Nat)(hn:8<=n/\n<=4096):
  Calls prog 101 #[.int .i64 (n:Int)] w λe w'=>∃ m,e=.returned (.tuple #[au m,.int .i64 0])/\w.heap.size<=m/\dp w' m n (List.replicate 8 [])/\af w w':=by
 have h1:¬(n:Int)<8:=J
 have h2:¬(4096:Int)<(n:Int):=J
 have H:=Z hn;clear hn;go_enter func101,ntmps101;go_wp2;go_ret2;exact⟨w.heap.size,rfl,av9 _,⟨av w _ _,by have:=H.o;omega,by simp,λp=>by
  by_cases hp:p<8
  ·have CK:p=0\/p=1\/p=2\/p=3\/p=4\/p=5\/p=6\/p=7:=J
   rcases CK with rfl|rfl|rfl|rfl|rfl|rfl|rfl|rfl<;>simp
  ·rw[List.getD,awY (by simp;omega)];simp⟩,(ai.refl _ w).alloc _⟩
theorem gX {L:List ay}(h:dp w m n L):
  Calls prog 128 #[au m] w λe w'=>e=.returned (.int .i64 (n:Int))/\w'=w:=by
 have c0:w.cell? ⟨m,0,none⟩=some (.int .i64 (n:Int)):=aa h.own 0;clear h;go_enter func128,ntmps128
 go_wp2
 go_ret;exact⟨rfl,rfl⟩
theorem Bj (w:World)(b:Nat)(l:List Nat)(hl:l.length<=2)(hp:∀ p∈l,p<8)(h:World.blk w b (l.map λp:Nat=>Value.int .i64 (p:Int)).toArray 3):
  Calls prog 92 #[.slice (some ⟨b,0,none⟩) l.length l.length] w λe w'=>e=.returned (.bool true)/\w'=w:=by
 obtain⟨H,HP⟩:=K2 h hp;clear h hp;generalize hn:l.length=n at*;have Hn:=Z hn;clear hn;go_enter func92,ntmps92;go_wp2_with fail
 go_loopw [7] (λi wr=>∃ k:Nat,k<=n/\i=.int .i64 (k:Int)/\wr=w) (λi _=>n-(intOf i).toNat)
 case atStart=>exact⟨0,J,rfl,rfl⟩
 case round=>
  obtain⟨k,hk,rfl,rfl⟩:=hrel;by_cases aP:k<n
  ·obtain⟨p,hp⟩:∃ p,l[k]?=some p:=⟨_,av6 (by rw[Hn.o];exact aP)⟩
   have c0:wr.cell? ⟨b,k,none⟩=some (.int .i64 (p:Int)):=by
    rw[aa H.o k];simp[hp]
   have hp8:=HP.o p (av7 hp);have h1:¬(p:Int)<0:=J
   have h2:¬(8:Int)<=(p:Int):=J
   have dL:(k:Int)<(n:Int):=J
   clear hp hp8;go_wp2_with fail
   go_roundw
   case rel=>exact⟨k+1,J,by go_num,trivial⟩
   case measure=>simp[intOf];omega
  ·obtain rfl:k=n:=J
   go_wp2;go_ret;exact⟨rfl,rfl⟩
theorem wQ {L:List ay}(h:dp w m n L)(p:Nat)(hp:p<8):
  Calls prog 46 #[au m,.int .i64 (p:Int)] w λe w'=>e=.returned (.tuple #[az (L.getD p []),.int .i64 0])/\af w w':=by
 have IS:=Z (Bj (w.alloc (.cells #[.int .i64 (p:Int)] 3)) w.heap.size [p] sp7 (by simp;omega) (av w _ _));have c:=(h.mod ((ai.refl (λ_=>False) w).alloc (.cells #[.int .i64 (p:Int)] 3)) id).cell p hp;have h1:(p:Int)<8:=J
 clear h hp;go_enter func46,ntmps46;go_wp2_with fail;refine IS.mono ?_;rintro e w1 ⟨rfl,rfl⟩;go_wp2;go_ret2;exact⟨rfl,(ai.refl _ w).alloc _⟩
theorem wS {L:List ay}(h:dp w m n L):
  Calls prog 91 #[au m] w λe w'=>∃ c,e=.returned (au c)/\w.heap.size<=c/\dp w' c n L/\af w w':=by
 have H:=Z h;have c0:w.cell? ⟨m,0,none⟩=some (.int .i64 (n:Int)):=aa h.own 0;have c1:=h.cell 0 J;have c2:=h.cell 1 J;have c3:=h.cell 2 J;have c4:=h.cell 3 J;have c5:=h.cell 4 J;have c6:=h.cell 5 J;have c7:=h.cell 6 J;have c8:=h.cell 7 J;simp only[Nat.reduceAdd]at c1 c2 c3 c4 c5 c6 c7 c8;clear h;go_enter func91,ntmps91;go_wp2;go_ret;exact⟨w.heap.size,rfl,av9 _,⟨av w _ _,H.many,H.eight,H.short⟩,(ai.refl _ w).alloc _⟩
theorem dp.put {L:List ay}(h:dp w m n L)(p:Nat)(hp:p<8)(s:ay)(hs:s.length<=1000000):dp (w.setCell ⟨m,1+p,none⟩ (az s)) m n (L.set p s):=by
 refine⟨?_,h.many,by simp[h.eight],λq=>?_⟩
 ·have hb:=ah h.own (1+p) (az s);have h8:=h.eight
  match L,h8 with
  |[a0,a1,a2,a3,a4,a5,a6,a7],_=>
   have CK:p=0\/p=1\/p=2\/p=3\/p=4\/p=5\/p=6\/p=7:=J
   rcases CK with rfl|rfl|rfl|rfl|rfl|rfl|rfl|rfl<;>exact hb
 ·rw[List.getD,List.getElem?_set];by_cases hq:p=q
  ·subst hq;rw[awd rfl,awd (by have:=h.eight;omega)];exact hs
  ·rw[awf hq];exact h.short q
theorem wT {L:List ay}(h:dp w m n L)(p:Nat)(hp:p<8)(s:ay)(hs:s.length<=1000000)(h0:aq s 0=false)(hx:gm s n=none):
  Calls prog 135 #[au m,.int .i64 (p:Int),az s] w λe w'=>e=.returned (.int .i64 0)/\dp w' m n (L.set p (dZ s []))/\ai (λb=>b=m) w w':=by
 have NX:=Z (DQ s n w (av2 hs dc7) (by have:=h.many;omega));have c0:w.cell? ⟨m,0,none⟩=some (.int .i64 (n:Int)):=aa h.own 0;obtain⟨W,hW⟩:∃ W,w.alloc (.cells #[.int .i64 (p:Int)] 3)=W:=⟨_,rfl⟩
 have k0:af w W:=by rw[<-hW];exact(ai.refl _ w).alloc _
 have IS:=Bj W w.heap.size [p] sp7 (by simp;omega) (by rw[<-hW];exact av w _ _);have HA:=Bc s 0 W J J;rw[show mr s 0=false by unfold mr;simpa using h0]at HA;obtain⟨HIS,HHA,HH,HK⟩:=K4 IS HA (h.mod k0 id) k0;have HOR:=λX=>jX s [] X (av2 hs dc7) sp7;have HOS:=lA s [];have HHO:=Z HOR;have h1:(p:Int)<8:=J
 obtain⟨HP,NO⟩:=K2 hp hx;have CG:Hid ((dZ s []).length<=1000000):=Z (by simp at HOS;omega);clear h hp IS HA k0 hx h0 hs HOR HOS;go_enter func135,ntmps135;go_wp2_with fail;refine NX.mono ?_;rintro e w1 ⟨rfl,rfl⟩;rw[NO.o];unfold Bd;go_wp2_with fail;refine HIS.mono ?_;rintro e w1 ⟨rfl,rfl⟩;go_wp2_with fail;refine HHA.mono ?_;rintro e w1 ⟨rfl,rfl⟩;go_wp2_with fail;refine im 3 7 kr7 kr7 (λ_ o _ _ _ h=>by cases o<;>exact h) ?_;simp only[awS,awT,awU,awV];refine fq (λL hL=>?_)
 go_simp
 first|refine hL _ ?_|refine⟨_,λ_=>rfl,hL _ ?_⟩
 clear hL L;refine fq (λL hL=>?_)
 go_simp
 first|refine hL _ ?_|refine⟨_,λ_=>rfl,hL _ ?_⟩
 clear hL L;refine fq (λL hL=>?_)
 go_simp
 first|refine hL _ ?_|refine⟨_,λ_=>rfl,hL _ ?_⟩
 clear hL L;refine ko ?_
 repeat (quiet_step (with_reducible exact ar (HHO.o _)))
 refine awX ?_;intro _ bD;obtain⟨xq,rfl⟩:=bD;have nG:=aC w1 xq;have f1:=ae (ab nG HH.own id) ⟨m,1+p,none⟩ rfl;obtain⟨H2,bJ⟩:=K2 (HH.mod nG id) (HK.keep nG);have cs:=H2.cell p HP.o;clear nG;go_wp2;go_ret;exact⟨rfl,H2.put p HP.o _ CG.o,(bJ.mono (T:=λb=>b=m) (λ_ _ h=>h.elim)).setCell (p:=⟨m,1+p,none⟩) (.inl rfl) _⟩
theorem LX (n:Nat):gm [] n=none:=by
 unfold gm;rw[aw4];intro x _;simp[fJ]
theorem If {L:List ay}(h:dp w m n L)(p:Nat)(hp:p<8):
  Calls prog 133 #[au m,.int .i64 (p:Int)] w λe w'=>e=.returned (.int .i64 0)/\dp w' m n (L.set p [])/\ai (λb=>b=m) w w':=by
 have PU:=Z (wT h p hp [] sp7 rfl (LX n));clear h;go_enter func133,ntmps133;go_wp2_with fail;refine PU.mono ?_;rintro e w1 ⟨rfl,h1,h2⟩;obtain⟨H1,H2⟩:=K2 h1 h2;clear h1 h2;go_wp2;go_ret;exact⟨rfl,H1.o,H2.o⟩
end
end Go.Proofs.YtkghpdcloaiflaaGreatDoor
