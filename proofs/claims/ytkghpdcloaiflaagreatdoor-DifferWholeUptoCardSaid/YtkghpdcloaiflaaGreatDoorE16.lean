import Derived.Test.YtkghpdcloaiflaaGreatDoorE15
import Derived.Lib.SlBytesConst
set_option maxHeartbeats 4000000
set_option maxRecDepth 100000
namespace Go.Proofs.YtkghpdcloaiflaaGreatDoor
open _root_.Go.Proofs.Tryz
section
open Go.RowKit Go.Shelf
attribute [local go_sem] auv
def eK (n k:Nat):List UInt8:=(List.range k).map fun i=>UInt8.ofNat (n/256 ^ i%256)
theorem wX (n k:Nat):eK n (k+1)=eK n k++[UInt8.ofNat (n/256 ^ k%256)]:=by unfold eK;rw[List.range_succ,List.map_append];rfl
theorem ij (n k:Nat):(eK n k).length=k:=by simp[eK]
def P5 (w:World)(base:Nat)(v:Value)(l:List UInt8):Prop:=bR w base v l\/(∃ b,v=.slice (some ⟨b,0,none⟩) l.length l.length/\base<=b/\w.heap[b]?=some (.cells (aQ l) 5 (l.length,l.length+1)))
theorem um {w w0:World}{base:Nat}{v:Value}{l:List UInt8}(h:P5 w base v l)(c:UInt8)(hn:l.length<=1000000)(hb:base<=w.heap.size)(h0:af w0 w)(iM:w0.heap.size<=base):
  ∃ v' w',(Builtin.append_ #[131,131] 131 #[v,.slice (some ⟨w.heap.size,0,none⟩) 1 1]).run prog (w.alloc (.cells #[.int .u8 (c.toNat:Int)] 5))=.ok v' w'/\bR w' base v' (l++[c])/\af w0 w'/\ah (fun g=>base<=g/\∃ c fr,w.heap[g]?=some (.cells c 5 fr)) w w':=by
 rcases h with h|⟨b,rfl,TO,AC⟩
 ·obtain⟨v',w',r,own,m,_⟩:=hZ (P:=prog) underlying131 j7 rfl (by decide) base v _ _ w h (gz [c]) rfl (by simp[gz,Value.oneCell']) (by unfold maxLen;omega) (by omega) hb;refine⟨v',w',r,?_,h0.trans m (fun g hg hv=>by have:=(h.lt g hv).1;omega),m.mono fun g hg hv=>⟨(h.lt g hv).1,?_⟩⟩
  ·have e:gz (l++[c])=gz l++gz [c]:=by simp[gz]
   have e2:(l++[c]).length=l.length+1:=by simp
   unfold bR;rw[e,e2];exact own
  ·rcases h.2 with⟨e,_⟩|⟨g',cap,dz,e,_,R6,_⟩
   ·rw[e]at hv;cases hv
   ·rw[e]at hv;have:g'=g:=by simpa[Value.ownBlock]using hv
    subst this;exact⟨_,_,R6⟩
 ·obtain⟨i0,hi,nX,mZ,oH⟩:=auO j7;have oG:b<w.heap.size:=(auW.1 AC).1;have hr:=run_append_grow (P:=prog) (w:=w.alloc (.cells #[.int .u8 (c.toNat:Int)] 5)) 131 131 5 i0 (.int .u8 0) underlying131 hi nX ⟨b,0,none⟩ l.length l.length (gz l) (by rw[mZ];simp[gz]) (fun j x hj=>by
   rw[gA,avm];have h1:(w.alloc (.cells #[.int .u8 (c.toNat:Int)] 5)).heap[b]?=some (.cells (aQ l) 5 (l.length,l.length+1)):=by
    rw[((ah.refl (fun _=>False) w).alloc _).block b oG id];exact AC
   simp only[World.cell?,h1];simpa[aQ]using hj) ⟨w.heap.size,0,none⟩ 1 1 [.int .u8 (c.toNat:Int)] (by rw[mZ];rfl) (fun j x hj=>by
   rw[gA,avm,World.cell?_alloc_at _ _ _ _ rfl];simpa using hj) (by omega) (by omega) (by rw[oH];exact growslice_fits (by omega) (by omega))
  have hge:=grownCap_ge (w.alloc (.cells #[.int .u8 (c.toNat:Int)] 5)) (l.length+1) l.length 5;have IY:=grownCap_le_maxLen (w.alloc (.cells #[.int .u8 (c.toNat:Int)] 5)) (l.length+1) l.length 5 (by unfold maxLen;omega);refine⟨_,_,hr,?_,(h0.alloc _).drew.alloc _,(((ah.refl _ w).alloc _).drew.alloc _)⟩;have e:gz (l++[c])=gz l++[.int .u8 (c.toNat:Int)]:=by simp[gz]
  unfold bR;rw[e,show(l++[c]).length=l.length+1 by simp];refine⟨by simp[gz],.inr ⟨_,_,_,rfl,by simp;omega,aw (w.alloc (.cells #[.int .u8 (c.toNat:Int)] 5)).drew _ _,hge,IY,?_,?_⟩⟩
  ·have hz:(Value.int IntKind.u8 0).cells.size=1:=rfl;simp only[Array.size_append,avU,size_zeroCells,hz,gz,au4,auA,avK];omega
  ·simp only[Array.toList_append,avi];rw[<-avi];exact List.take_left' (by simp[gz])
theorem wY {w:World}{base:Nat}{v:Value}{l:List UInt8}(h:P5 w base v l)(hl:l≠[]):∃ g n c,v=.slice (some ⟨g,0,none⟩) n c:=by
 rcases h with h|⟨b,e,_⟩
 ·rcases h.2 with⟨_,e⟩|⟨g,cap,dz,e,_⟩
  ·exact absurd e (by simp;exact hl)
  ·exact⟨g,_,cap,e⟩
 ·exact⟨b,_,_,e⟩
theorem GW (text:List UInt8)(num:Nat)(w:World)(ht:text.length<=40)(hn:num<=1099511627776):
  Calls prog 236 #[.agg #[.string ⟨text.toArray⟩,.int .i64 (num:Int)]] w fun e w'=>e=.returned (.string ⟨(CV text num).toArray⟩)/\af w w':=by
 have hf:=fun W=>we ([82,84]++JE num++[UInt8.ofNat (text.length%256)]++text) 56 W (by simp[JE];omega) (by omega);have HFI:=hd0 hf;have Ht:=hd0 ht;have Hn:=hd0 hn;clear hf ht hn;have Ks:=Lib.run_convert_bytes_const (P:=prog) (w.alloc (.cells #[.string ⟨text.toArray⟩,.int .i64 (num:Int)] 168)) 131 5 #[.int .u8 82,.int .u8 84] 2 2 underlying131 underlying5;have zl:(w.alloc (.cells #[.string ⟨text.toArray⟩,.int .i64 (num:Int)] 168)).heap.size=w.heap.size+1:=by simp
 rw[zl]at Ks;have h0:P5 ((w.alloc (.cells #[.string ⟨text.toArray⟩,.int .i64 (num:Int)] 168)).alloc (.cells #[.int .u8 82,.int .u8 84] 5 (2,3))) w.heap.size (.slice (some ⟨w.heap.size+1,0,none⟩) 2 2) [82,84]:=.inr ⟨w.heap.size+1,rfl,by omega,by
  rw[<-zl];show((w.alloc (.cells #[.string ⟨text.toArray⟩,.int .i64 (num:Int)] 168)).heap.push (.cells #[.int .u8 82,.int .u8 84] 5 (2,3)))[(w.alloc (.cells #[.string ⟨text.toArray⟩,.int .i64 (num:Int)] 168)).heap.size]?=some (.cells (aQ [82,84]) 5 (2,3));rw[Array.getElem?_push_size];rfl⟩
 have TR:=hd0 h0;have nU:Hid (World.blk ((w.alloc (.cells #[.string ⟨text.toArray⟩,.int .i64 (num:Int)] 168)).alloc (.cells #[.int .u8 82,.int .u8 84] 5 (2,3))) w.heap.size #[.string ⟨text.toArray⟩,.int .i64 (num:Int)] 168):=hd0 (aH (aw w _ _) _);have dO:Hid (af w ((w.alloc (.cells #[.string ⟨text.toArray⟩,.int .i64 (num:Int)] 168)).alloc (.cells #[.int .u8 82,.int .u8 84] 5 (2,3)))):=hd0 (((ah.refl _ w).alloc _).alloc _);clear h0 zl;go_enter func236,ntmps236;go_wp2_with fail
 go_loopw [7,3] (fun i v wr=>∃ k:Nat,k<=6/\i=.int .i64 (k:Int)/\P5 wr w.heap.size v ([82,84]++eK num k)/\World.blk wr w.heap.size #[.string ⟨text.toArray⟩,.int .i64 (num:Int)] 168/\af w wr) (fun i _ _=>6-(intOf i).toNat)
 case atStart=>exact⟨0,by omega,rfl,TR.out,nU.out,dO.out⟩
 case round=>
  clear TR nU dO Ks;obtain⟨k,hk,rfl,ho,hb,hK⟩:=hrel;by_cases aL:k<6
  ·have dN:(k:Int)<6:=by omega
   have c1:wr.cell? ⟨w.heap.size,1,none⟩=some (.int .i64 (num:Int)):=aa hb 1;have aV:([82,84]++eK num k:List UInt8).length<=8:=by simp[eK];omega
   obtain⟨v',w',bi,bw,FQ,Wq⟩:=um ho (UInt8.ofNat (num/256 ^ k%256)) (by omega) hK.size hK (auE _);have eb:((UInt8.ofNat (num/256 ^ k%256)).toNat:Int)=(num:Int)/2 ^ (8*k)%256:=by
    rw[show(UInt8.ofNat (num/256 ^ k%256)).toNat=num/256 ^ k%256 by simp,show(256:Nat) ^ k=2 ^ (8*k) by rw[Nat.pow_mul]];simp
   rw[eb]at bi;have HR:=hd0 bi;have HO:=hd0 bw;have HK:=hd0 FQ;have jI:=hd0 (ab Wq hb (fun⟨_,c,fr,e⟩=>by unfold World.blk at hb;rw[hb]at e;cases e));have Wg:(8*(k:Int))<=40:=by omega
   clear bi bw FQ Wq;go_wp2_with (at_builtin;refine aB HR.out rfl rfl rfl rfl ?_)
   go_roundw
   case rel=>exact⟨k+1,by omega,by go_num,.inl (by rw[wX,<-avi];exact HO.out),jI.out,HK.out⟩
   case measure=>simp[intOf];omega
  ·obtain rfl:k=6:=by omega
   have e6:eK num 6=JE num:=rfl;rw[e6]at ho;have c0:wr.cell? ⟨w.heap.size,0,none⟩=some (.string ⟨text.toArray⟩):=aa hb 0;have oG:=ai hb;go_wp2_with fail;refine gM 100 [0,1,2,3,4,7,8] [5,6,9,10,11,12] (fun W=>W.cell? ⟨w.heap.size,0,none⟩=some (.string ⟨text.toArray⟩)) (fun _=>True) (by kernel_rfl) (by kernel_rfl) (fun _ o _ _ _ h=>by cases o<;>exact h) ?_
   iterate 7 (refine fH rfl (fun L hL=>?_);go_simp;(first|refine hL _ ?_|refine⟨_,fun _ _=>rfl,hL _ ?_⟩|refine⟨_,fun W hW=>by simp only[hW];rfl,hL _ ?_⟩);clear hL L)
   refine ja ?_;obtain⟨W0,rA⟩:∃ W0:World,({ wr with drawn:=wr.drawn+1 }:World)=W0:=⟨_,rfl⟩
   have dE:af wr W0:=by rw[<-rA];exact(ah.refl _ wr).drawn _
   have d0:W0.cell? ⟨w.heap.size,0,none⟩=some (.string ⟨text.toArray⟩):=(dE.cell (p:=⟨w.heap.size,0,none⟩) oG id).trans c0;have iM:=ab dE hb id;have RV:P5 W0 w.heap.size u3 ([82,84]++JE num):=by
    rcases ho with h|⟨b,e,h1,h2⟩
    ·exact .inl (iA h dE)
    ·exact .inr ⟨b,e,h1,dE.obj h2 id⟩
   have hK0:=hK.keep dE;obtain⟨gu,nu,cu,eu⟩:=wY RV (by simp);subst eu;have aef:([82,84]++JE num:List UInt8).length=8:=by simp[JE]
   have yw:=Ht.out;have hwr:IntKind.u8.wrap (text.length:Int)=(text.length:Int):=by simp only[IntKind.wrap,IntKind.signed,IntKind.bits];simp;omega
   have hbt:((UInt8.ofNat (text.length%256)).toNat:Int)=(text.length:Int):=by simp;omega
   obtain⟨v1,w1,r1,yl,k1,m1⟩:=um RV (UInt8.ofNat (text.length%256)) (by omega) hK0.size hK0 (auE _);rw[hbt]at r1;have hb1:=ab m1 iM (fun⟨_,c,fr,e⟩=>by unfold World.blk at iM;rw[iM]at e;cases e);have d1:w1.cell? ⟨w.heap.size,0,none⟩=some (.string ⟨text.toArray⟩):=aa hb1 0;obtain⟨i0,hi,nX,mZ,oH⟩:=auO j7;have hbs:({ data:=text.toArray }:ByteArray).size=text.length:=by simp[ByteArray.size]
   obtain⟨v2,w2,r2,N6,m2,_⟩:=qq (P:=prog) 131 9 131 5 i0 underlying131 underlying9 hi nX mZ oH w1 v1 _ _ (eX yl (avk _)) ⟨text.toArray⟩ (by rw[hbs];simp[JE];omega);have dW:v1.ownBlock≠some w.heap.size:=fun e=>by
    rcases yl.2 with⟨h,_⟩|⟨g,cap,dz,h,_,hg,_⟩
    ·rw[h]at e;cases e
    ·rw[h]at e;have:g=w.heap.size:=by simpa[Value.ownBlock]using e
     subst this;unfold World.blk at hb1;rw[hb1]at hg;cases hg
   obtain⟨gv,nv,cv,ev⟩:=wY (.inl yl) (by simp);subst ev;have fi:=ab m2 hb1 dW;have d2:w2.cell? ⟨w.heap.size,0,none⟩=some (.string ⟨text.toArray⟩):=aa fi 0;have de:af w w2:=k1.trans m2 (fun g hg hv=>by have:=(yl.lt g hv).1;omega);have Xh:bR w2 0 v2 ([82,84]++JE num++[UInt8.ofNat (text.length%256)]++text):=by
    have e:gz ([82,84]++JE num++[UInt8.ofNat (text.length%256)]++text)=gz ([82,84]++JE num++[UInt8.ofNat (text.length%256)])++Lib.strCells ⟨text.toArray⟩:=by simp[gz,Lib.strCells]
    have e2:([82,84]++JE num++[UInt8.ofNat (text.length%256)]++text).length=([82,84]++JE num++[UInt8.ofNat (text.length%256)]).length+(⟨text.toArray⟩:ByteArray).size:=by rw[auS,hbs]
    unfold bR;rw[e,e2];exact N6
   have yt:=lN Xh;have ta:∀ o,(W0.alloc o).cell? ⟨w.heap.size,0,none⟩=some (.string ⟨text.toArray⟩):=fun o=>(((ah.refl (fun _=>False) W0).alloc o).cell (p:=⟨w.heap.size,0,none⟩) (ak d0) id).trans d0;have Wn:=hd0 r1;have rE:=hd0 r2;have bu:=hd0 de;have jI:=hd0 fi;rw[rA];clear rA dE iM RV hK0 hbt r1 yl k1 m1 hb1 hi nX mZ oH r2 N6 m2 dW fi de Xh ho hb hK c0 oG aef yw;refine bS rfl ⟨d0,.inr trivial⟩ ?_;go_wp2_with fail;refine bS rfl ⟨ta _,.inr trivial⟩ ?_;refine aB Wn.out rfl rfl rfl rfl ?_;go_wp2_with fail;refine bS rfl ⟨d1,.inr trivial⟩ ?_;refine lc rE.out rfl rfl rfl rfl ?_;go_wp2_with fail;refine bS rfl ⟨d2,.inr trivial⟩ ?_;go_wp2_with fail;refine bS rfl ⟨d2,.inr trivial⟩ ?_;go_wp2_with fail;refine(HFI.out _).mono ?_;rintro e w3 ⟨rfl,dw⟩;have d3:w3.cell? ⟨w.heap.size,0,none⟩=some (.string ⟨text.toArray⟩):=aa (ab dw jI.out id) 0;have dZ:=hd0 (bu.out.keep dw);clear dw;go_wp2_with fail;refine bS rfl ⟨d3,.inr trivial⟩ ?_;go_wp2_with fail;refine pP ⟨d3,.inr trivial⟩ ?_;go_wp2;go_ret;exact⟨rfl,dZ.out⟩
end
section
open Go.RowKit Go.Shelf
attribute [local go_sem] auv
theorem zP {w:World}{v pd pc:Nat}{d:Dk}{text:az}{num:Nat}{M:Int->Option az}{Fd Fc F:Nat->Prop}(h:qi w v pd pc d text num M Fd Fc F)(t2:az)(n2:Nat)(ht:t2.length<=40)(hn:n2<=1099511627776):
  Calls prog 174 #[aq v,.agg #[.string ⟨t2.toArray⟩,.int .i64 (n2:Int)]] w fun e w'=>e=.returned (.int .i64 0)/\∃ F',ic w' v (kK d t2 n2) t2 n2 F'/\d6 F F' w w':=by
 obtain⟨W,hW⟩:∃ W,w.alloc (.cells #[.string ⟨t2.toArray⟩,.int .i64 (n2:Int)] 168)=W:=⟨_,rfl⟩
 have k0:af w W:=by rw[<-hW];exact(ah.refl _ w).alloc _
 have cK:W.heap.size=w.heap.size+1:=by rw[<-hW];simp
 have rp:World.blk W w.heap.size #[.string ⟨t2.toArray⟩,.int .i64 (n2:Int)] 168:=by rw[<-hW];exact aw w _ _
 have H0:=hd0 (h.same (k0.on (fun _ _=>id)) k0.size);have HB:=hd0 rp;have HK:=hd0 k0;have HL:Hid (∀ b,F b->b<w.heap.size):=hd0 h.lt;have HX:=hd0 h;have c0:W.cell? ⟨v,0,none⟩=some (aq pd):=aa H0.out.own 0;have b0:W.cell? ⟨w.heap.size,0,none⟩=some (.string ⟨t2.toArray⟩):=aa rp 0;have b1:W.cell? ⟨w.heap.size,1,none⟩=some (.int .i64 (n2:Int)):=aa rp 1;have hr:(n2:Int).tmod 2=((n2%2:Nat):Int):=by rw[Int.tmod_eq_emod_of_nonneg (by omega)];rfl
 have Ht:=hd0 ht;have Hn:=hd0 hn;clear h rp k0 ht;go_enter func174,ntmps174;go_wp2_with fail;refine gM 100 [0,1,2,3,4,5,6,7,8] [9,10,11,12] (fun X=>X.cell? ⟨v,0,none⟩=some (aq pd)/\X.cell? ⟨w.heap.size,0,none⟩=some (.string ⟨t2.toArray⟩)/\X.cell? ⟨w.heap.size,1,none⟩=some (.int .i64 (n2:Int))) (fun _=>True) (by kernel_rfl) (by kernel_rfl) (fun _ o _ _ _ h=>by cases o<;>exact h) ?_
 iterate 9 (refine fH rfl (fun L hL=>?_);go_simp;(first|refine hL _ ?_|refine⟨_,fun _ _ _ _=>rfl,hL _ ?_⟩|refine⟨_,fun X h1 h2 h3=>by simp only[h1,h2,h3];rfl,hL _ ?_⟩|refine⟨_,fun X h1 h2 h3=>by simp only[h2,h3,Result.andThen];rfl,hL _ ?_⟩|(trace_state;fail));clear hL L)
 refine ja ?_;obtain⟨W0,rA⟩:∃ W0:World,({ W with drawn:=W.drawn+1 }:World)=W0:=⟨_,rfl⟩
 have kd:af W W0:=by rw[<-rA];exact(ah.refl _ W).drawn _
 have H1:=hd0 (H0.out.same (kd.on (fun _ _=>id)) kd.size);have jp:=hd0 (ab kd HB.out id);have bU:=hd0 (HK.out.keep kd);rw[rA];clear rA kd c0 b0 b1;have st:∀ X:World,World.blk X v (l9 pd pc text num) 171->World.blk X w.heap.size #[.string ⟨t2.toArray⟩,.int .i64 (n2:Int)] 168->(X.cell? ⟨v,0,none⟩=some (aq pd)/\X.cell? ⟨w.heap.size,0,none⟩=some (.string ⟨t2.toArray⟩)/\X.cell? ⟨w.heap.size,1,none⟩=some (.int .i64 (n2:Int)))/\(false=true\/True):=fun X h1 h2=>⟨⟨aa h1 0,aa h2 0,aa h2 1⟩,.inr trivial⟩
 have rB:=hd0 st;clear st;refine bS rfl (rB.out _ H1.out.own jp.out) ?_;go_wp2_with fail;refine(GW t2 n2 _ Ht.out Hn.out).mono ?_;rintro e w1 ⟨rfl,ks⟩;have H2:=hd0 (H1.out.same (ks.on (fun _ _=>id)) ks.size);have jI:=hd0 (ab ks jp.out id);have bu:=hd0 (bU.out.keep ks);clear ks H1 jp bU H0 HB HK;go_wp2_with fail;refine bS rfl (rB.out _ H2.out.own jI.out) ?_;go_wp2_with fail;refine(kP H2.out.disk (n2%2) (by have:=H2.out.many;omega) (CV t2 n2) (K0 Ht.out n2)).mono ?_;rintro e w2 ⟨rfl,Ot,Kh,tU⟩;have nF:¬ F w.heap.size:=fun hf=>by have:=HL.out _ hf;omega
 have nv2:¬ Ot v:=fun hv=>(tU.foot v hv).elim H2.out.nd (fun hge=>by have:=H2.out.lt v H2.out.fv;omega);have ho2:=ab tU.mod H2.out.own H2.out.nd;have BM:=H2.out.cache.same (tU.mod.on (fun b hb hd=>H2.out.apart b hd hb)) tU.mod.size;have fi:=ab tU.mod jI.out (fun hd=>nF (H2.out.fd _ hd));have oF:Hid (ah F w w2):=hd0 ((bu.out.mono (fun _ _ h=>h.elim)).trans (tU.mod.mono (T:=F) (fun i _ hi=>H2.out.fd i hi)) (fun _ _ h=>h));have Th:Hid (∀ b,Ot b->Fd b\/w1.heap.size<=b):=hd0 tU.foot;have ZA:=hd0 Kh;have Tl:=hd0 ho2;have Hc2:=hd0 BM;have ox:=hd0 fi;have aka:=tU.mod.size;clear Kh tU ho2 BM fi;go_wp2_with fail;refine bS rfl (rB.out _ Tl.out ox.out) ?_;go_wp2_with fail;refine(wg Tl.out).mono ?_;rintro e w3 ⟨rfl,AD,lz⟩;have vF:F v:=H2.out.fv;have hwv:v≠w.heap.size:=fun e=>nF (e▸vF);have uV:=ab lz ox.out (fun e=>hwv e.symm);have V4:=hd0 (ZA.out.mod lz (fun b hb e=>nv2 (e▸hb)));have Hc3:=hd0 (Hc2.out.same (lz.on (fun b hb e=>H2.out.nc (e▸hb))) lz.size);have nW:Hid (ah F w w3):=hd0 (oF.out.trans (lz.mono (T:=F) (fun i _ e=>by subst e;exact vF)) (fun _ _ h=>h));have SJ:=hd0 AD;have FG:=hd0 uV;have aql:=lz.size;clear AD lz uV ox Tl Hc2 oF ZA;go_wp2_with fail;refine bS rfl (rB.out _ SJ.out FG.out) ?_;go_wp2_with fail;refine pP (rB.out _ SJ.out FG.out) ?_;have c0:w3.cell? ⟨v,0,none⟩=some (aq pd):=aa SJ.out 0;have SY:=hd0 (pO V4.out);go_wp2_with fail;refine SY.out.mono ?_;rintro e w4 ⟨rfl,Fd4,hd4,Cg⟩;clear SY c0;have nv4:¬ Fd4 v:=fun hv=>(Cg.foot v hv).elim nv2 (fun hge=>by have:=H2.out.lt v vF;omega);have nb4:¬ Ot w.heap.size:=fun hd=>(Th.out _ hd).elim (fun h=>nF (H2.out.fd _ h)) (fun hge=>by have:=ai jI.out;omega);have akD:∀ b,Ot b->¬ Fc b:=fun b hb Kp=>(Th.out b hb).elim (fun hd=>H2.out.apart b hd Kp) (fun hge=>by have:=H2.out.lt b (H2.out.fc b Kp);omega);have TU:=hd0 (ab Cg.mod SJ.out nv2);have F0:=hd0 (ab Cg.mod FG.out nb4);have Hc5:=hd0 (Hc3.out.same (Cg.mod.on (fun b hb hd=>akD b hd hb)) Cg.mod.size);have hsw:w.heap.size<=w1.heap.size:=by have:=ai jI.out;omega
 have Cr:Hid (ah F w w4):=hd0 (nW.out.trans Cg.mod (fun i hi hd=>(Th.out i hd).elim (H2.out.fd i) (fun hge=>by omega)));have HF4:Hid (∀ b,Fd4 b->Fd b\/w1.heap.size<=b):=hd0 (fun b hb=>(Cg.foot b hb).elim (Th.out b) (fun hge=>.inr (by omega)));have aoD:=Cg.mod.size;have Hd5:=hd0 hd4;clear hd4 Cg SJ FG Hc3 nW V4 rB;go_wp2_with fail;refine(wg TU.out).mono ?_;rintro e w5 ⟨rfl,NN,rF⟩;have FH:=ab rF F0.out (fun e=>hwv e.symm);have ZK:=hd0 (Hd5.out.mod rF (fun b hb e=>nv4 (e▸hb)));have Hc6:=hd0 (Hc5.out.same (rF.on (fun b hb e=>H2.out.nc (e▸hb))) rF.size);have OE:Hid (ah F w w5):=hd0 (Cr.out.trans (rF.mono (T:=F) (fun i _ e=>by subst e;exact vF)) (fun _ _ h=>h));have Ho6:=hd0 NN;have b0:w5.cell? ⟨w.heap.size,0,none⟩=some (.string ⟨t2.toArray⟩):=aa FH 0;have b1:w5.cell? ⟨w.heap.size,1,none⟩=some (.int .i64 (n2:Int)):=aa FH 1;have c1:w5.cell? ⟨v,1,none⟩=some (.string ⟨text.toArray⟩):=aa NN 1;have c2:w5.cell? ⟨v,2,none⟩=some (.int .i64 (num:Int)):=aa NN 2;have f1:=ae NN ⟨v,1,none⟩ rfl;have f2:=ae NN ⟨v,2,none⟩ rfl;clear NN rF FH TU F0 Hc5 Cr Hd5;go_wp2;go_ret;have m7:ah (fun b=>b=v) w5 ((w5.setCell ⟨v,1,none⟩ (.string ⟨t2.toArray⟩)).setCell ⟨v,2,none⟩ (.int .i64 (n2:Int))):=((ah.refl (fun b=>b=v) w5).setCell (p:=⟨v,1,none⟩) (.inl rfl) _).setCell (p:=⟨v,2,none⟩) (.inl rfl) _;have o7:World.blk ((w5.setCell ⟨v,1,none⟩ (.string ⟨t2.toArray⟩)).setCell ⟨v,2,none⟩ (.int .i64 (n2:Int))) v (l9 pd pc t2 n2) 171:=ag (ag Ho6.out 1 _) 2 _;generalize (w5.setCell ⟨v,1,none⟩ (.string ⟨t2.toArray⟩)).setCell ⟨v,2,none⟩ (.int .i64 (n2:Int))=w6 at*;have s56:=m7.size;have s05:=OE.out.size;refine⟨rfl,fun b=>F b\/Fd4 b,⟨pd,pc,M,Fd4,Fc,?_⟩,OE.out.trans (m7.mono (T:=F) (fun i _ e=>by subst e;exact vF)) (fun _ _ h=>h),fun b hb=>hb.elim .inl (fun hd=>(HF4.out b hd).elim (fun h=>.inl (H2.out.fd b h)) (fun h=>.inr (by omega)))⟩
 exact { own:=o7,disk:=ZK.out.mod m7 (fun b hb e=>nv4 (e▸hb)),cache:=Hc6.out.same (m7.on (fun b hb e=>H2.out.nc (e▸hb))) m7.size,
         good:=fun k s hk=>by rw[vN];exact H2.out.good k s hk
         fv:=.inl vF,fd:=fun b hb=>.inr hb,fc:=fun b hb=>.inl (H2.out.fc b hb),
         apart:=fun b hb hc=>(HF4.out b hb).elim (fun hd=>H2.out.apart b hd hc) (fun hge=>by have:=H2.out.lt b (H2.out.fc b hc);omega),
         nd:=nv4,nc:=H2.out.nc,many:=by rw[qH];exact H2.out.many,num:=hn,
         lt:=fun b hb=>hb.elim (fun h=>by have:=HL.out b h;omega) (fun h=>by have:=ZK.out.lt b h;omega) }
theorem DK {w:World}{v:Nat}{d:Dk}{text:az}{num:Nat}{F:Nat->Prop}(h:ic w v d text num F)(t2:az)(ht:t2.length<=40)(hn:num<1099511627776):
  Calls prog 140 #[aq v,.string ⟨t2.toArray⟩] w fun e w'=>e=.returned (.int .i64 0)/\∃ F',ic w' v (kK d.sync t2 (num+1)) t2 (num+1) F'/\d6 F F' w w':=by
 obtain⟨pd,pc,M,Fd,Fc,h⟩:=h;have H:=hd0 h;have c0:w.cell? ⟨v,0,none⟩=some (aq pd):=aa h.own 0;have c2:w.cell? ⟨v,2,none⟩=some (.int .i64 (num:Int)):=aa h.own 2;have c4:w.cell? ⟨v,4,none⟩=some (.bool false):=aa h.own 4;have hnI:¬(1099511627776:Int)<=(num:Int):=by omega
 have hl:(t2.length:Int)<=40:=by omega
 have SY:=hd0 (pO h.disk);have Ht:=hd0 ht;have Hn:=hd0 hn;clear h ht hn;go_enter func140,ntmps140;go_wp2_with fail;refine SY.out.mono ?_;rintro e w1 ⟨rfl,Fd1,IZ,hk1⟩;have sQ:=hk1.mod.size;have X1:qi w1 v pd pc d.sync text num M Fd1 Fc (fun b=>F b\/Fd1 b):=
  { own:=ab hk1.mod H.out.own H.out.nd,disk:=IZ,cache:=H.out.cache.same (hk1.mod.on (fun b hb hd=>H.out.apart b hd hb)) sQ,
    good:=fun k s hk=>by rw[AQ];exact H.out.good k s hk
    fv:=.inl H.out.fv,fd:=fun b hb=>.inr hb,fc:=fun b hb=>.inl (H.out.fc b hb),
    apart:=fun b hb hc=>(hk1.foot b hb).elim (fun hd=>H.out.apart b hd hc) (fun hge=>by have:=H.out.lt b (H.out.fc b hc);omega),
    nd:=fun hv=>(hk1.foot v hv).elim H.out.nd (fun hge=>by have:=H.out.lt v H.out.fv;omega),nc:=H.out.nc,many:=by rw[dF];exact H.out.many,num:=by have:=Hn.out;omega,
    lt:=fun b hb=>hb.elim (fun h=>by have:=H.out.lt b h;omega) (fun h=>IZ.lt b h) }
 have K1:Hid (d6 F (fun b=>F b\/Fd1 b) w w1):=hd0 ⟨hk1.mod.mono (fun i _ hi=>H.out.fd i hi),fun b hb=>hb.elim .inl (fun hd=>(hk1.foot b hd).imp (H.out.fd b) id)⟩;have qg:=hd0 X1;clear X1 hk1 IZ c0 c2 c4 SY;go_wp2_with fail;refine(Ph qg.out).mono ?_;rintro e w2 ⟨rfl,X2,m2⟩;have c2:w2.cell? ⟨v,2,none⟩=some (.int .i64 (num:Int)):=aa X2.own 2;have e1:((num+1:Nat):Int)=(num:Int)+1:=by omega
 have KE:=zP X2 t2 (num+1) Ht.out (by have:=Hn.out;omega);rw[e1]at KE;have CA:=hd0 KE;have K2:Hid (d6 F (fun b=>F b\/Fd1 b) w w2):=hd0 (K1.out.trans ⟨m2.mono (fun i _ e=>by subst e;exact qg.out.fv),fun b hb=>.inl hb⟩);clear X2 m2 KE e1;go_wp2_with fail;refine CA.out.mono ?_;rintro e w3 ⟨rfl,F3,h3,dw⟩;have K3:=hd0 (K2.out.trans dw);have H3:=hd0 h3;clear h3 dw;go_wp2;go_ret;exact⟨rfl,F3,H3.out,K3.out⟩
end
section
open Go.RowKit Go.Shelf
attribute [local go_sem] auv
theorem P7 {w:World}{p:Nat}{d:Dk}{F:Nat->Prop}(h:bC w p d F)(hs:32<=d.size):
  Calls prog 173 #[aq p] w fun e w'=>∃ v pc Fc,e=.returned (.tuple #[aq v,.int .i64 0])/\af w w'/\w.heap.size<=v/\(∀ b,Fc b->w.heap.size<=b)/\qi w' v p pc d [] 0 (fun _=>none) F Fc (fun b=>F b\/Fc b\/b=v):=by
 have SE:=hd0 (jA h);have H:=hd0 h;have pE:=h.ok.many;have cK:d.size<=16384:=pE;have HS:=hd0 (And.intro hs cK);have q1:¬((d.size:Int)/4)<8:=by omega
 have q2:(d.size:Int)/4<=4096:=by omega
 clear h hs pE cK;generalize hq:d.size=sz at*;have Hq:=hd0 hq;clear hq;go_enter func173,ntmps173;go_wp2_with fail;refine SE.out.mono ?_;rintro e w1 ⟨rfl,rfl⟩;go_wp2_with fail;refine(Pf w1).mono ?_;rintro e w2 ⟨c,rfl,hc,hk,Fc,hca,hFc⟩;have HK:=hd0 hk;have HC:=hd0 hca;have HF:=hd0 hFc;clear hk hca hFc;go_wp2;go_ret2;have cK:=HK.out.size;have hsd:=HS.out;have k3:af w2 (w2.alloc (.cells (l9 p c [] 0) 171)):=(ah.refl _ w2).alloc _;have k13:af w1 (w2.alloc (.cells (l9 p c [] 0) 171)):=HK.out.alloc _;have o3:World.blk (w2.alloc (.cells (l9 p c [] 0) 171)) w2.heap.size (l9 p c [] 0) 171:=aw w2 _ _;have h4:(w2.alloc (.cells #[aq p,.string ⟨#[]⟩,.int .i64 0,aq c,.bool false] 171)).heap.size=w2.heap.size+1:=by simp
 refine⟨w2.heap.size,c,Fc,rfl,k13,cK,HF.out,?_⟩
 exact { own:=o3,disk:=(H.out.mod HK.out (fun _ _=>id)).mod k3 (fun _ _=>id),cache:=HC.out.same (k3.on (fun _ _=>id)) k3.size,
         good:=fun _ _ h=>by cases h
         fv:=.inr (.inr rfl),fd:=fun b hb=>.inl hb,fc:=fun b hb=>.inr (.inl hb),
         apart:=fun b hb hc=>by have:=H.out.lt b hb;have:=HF.out b hc;omega
         nd:=fun hv=>by have:=H.out.lt _ hv;omega
         nc:=fun hv=>by have:=HC.out.lt _ hv;omega
         many:=by rw[Hq.out];exact hsd
         num:=by omega
         lt:=fun b hb=>by
          rw[h4];rcases hb with hb|hb|hb
          ·have:=H.out.lt b hb;omega
          ·have:=HC.out.lt b hb;omega
          ·omega }
theorem DM {w:World}{p:Nat}{d:Dk}{F:Nat->Prop}(h:bC w p d F)(hs:32<=d.size)(text:az)(ht:text.length<=40):
  Calls prog 97 #[aq p,.string ⟨text.toArray⟩] w fun e w'=>∃ v,e=.returned (.tuple #[aq v,.int .i64 0])/\w.heap.size<=v/\∃ F',ic w' v (kK (d.put 0 (List.replicate 64 0)) text 1) text 1 F'/\d6 F F' w w':=by
 have MA:=hd0 (P7 h hs);have H:=hd0 h;have hl:(text.length:Int)<=40:=by omega
 have Ht:=hd0 ht;have HS:=hd0 hs;clear h ht hs;go_enter func97,ntmps97;go_wp2_with fail;refine MA.out.mono ?_;rintro e w1 ⟨v,pc,Fc,rfl,hk1,hv,hFc,X1⟩;have bU:=hd0 hk1;have qg:=hd0 X1;have HV:=hd0 (And.intro hv hFc);clear hk1 X1 hv hFc MA;have R:=hd0 (Tryz.strings_Repeat ⟨[(0:UInt8)].toArray⟩ 64 w1 (by omega) (by decide));go_wp2_with fail;refine R.out.mono ?_;rintro e w2 ⟨rfl,fi⟩;have de:af w1 w2:=ah.ofBelow fi;have er:Lib.repeatL (ByteArray.mk [(0:UInt8)].toArray).data.toList 64=List.replicate 64 0:=WQ;rw[er];have WR:=kP (qg.out.disk.mod de (fun _ _=>id)) 0 (by have:=HS.out;omega) (List.replicate 64 0) rfl;have lE:=hd0 (qg.out.same (de.on (fun _ _=>id)) de.size);have bu:=hd0 (bU.out.keep de);have HWR:=hd0 WR;have aka:=de.size;generalize hz:List.replicate 64 (0:UInt8)=z0 at*;clear de WR fi R qg;go_wp2_with fail;refine HWR.out.mono ?_;rintro e w3 ⟨rfl,NL,I5,dw⟩;have rG:=dw.mod.size;have X3:qi w3 v p pc (d.put 0 z0) [] 0 (fun _=>none) NL Fc (fun b=>(F b\/Fc b\/b=v)\/NL b):=
  { own:=ab dw.mod lE.out.own lE.out.nd,disk:=I5,cache:=lE.out.cache.same (dw.mod.on (fun b hb hd=>lE.out.apart b hd hb)) rG,
    good:=fun _ _ h=>by cases h
    fv:=.inl lE.out.fv,fd:=fun b hb=>.inr hb,fc:=fun b hb=>.inl (lE.out.fc b hb),
    apart:=fun b hb hc=>(dw.foot b hb).elim (fun hd=>lE.out.apart b hd hc) (fun hge=>by have:=lE.out.lt b (lE.out.fc b hc);omega),
    nd:=fun hv=>(dw.foot v hv).elim lE.out.nd (fun hge=>by have:=lE.out.lt v lE.out.fv;omega),nc:=lE.out.nc,many:=by rw[fF];exact lE.out.many,num:=by omega,
    lt:=fun b hb=>hb.elim (fun h=>by have:=lE.out.lt b h;omega) (fun h=>I5.lt b h) }
 have lz:ah F w w3:=(bu.out.mono (fun _ _ h=>h.elim)).trans (dw.mod) (fun _ _ h=>h);have K3:Hid (d6 F (fun b=>(F b\/Fc b\/b=v)\/NL b) w w3):=hd0 ⟨lz,fun b hb=>by
  have h1:=HV.out;have h2:=bu.out.size;rcases hb with(hb|hb|hb)|hb
  ·exact .inl hb
  ·exact .inr (h1.2 b hb)
  ·exact .inr (by omega)
  ·exact(dw.foot b hb).imp id (fun hge=>by omega)⟩
 have KE:=zP X3 text 1 Ht.out (by omega);have CA:=hd0 KE;clear KE I5 dw X3 lz;go_wp2_with fail;refine CA.out.mono ?_;rintro e w4 ⟨rfl,F4,h4,iT⟩;have K4:=hd0 (K3.out.trans iT);have H4:=hd0 h4;clear h4 iT;go_wp2;go_ret2;exact⟨v,rfl,HV.out.1,F4,by rw[hz];exact H4.out,K4.out⟩
end
section
open Go.RowKit Go.Shelf
attribute [local go_sem] auv
abbrev aC (l:az):Value:=.string ⟨l.toArray⟩
def YN (n:Nat)(L:List az):Array Value:=#[.int .i64 (n:Int),aC (L.getD 0 []),aC (L.getD 1 []),aC (L.getD 2 []),aC (L.getD 3 []),aC (L.getD 4 []),aC (L.getD 5 []),aC (L.getD 6 []),aC (L.getD 7 [])]
structure dy (w:World)(m n:Nat)(L:List az):Prop where
 own:World.blk w m (YN n L) 145
 many:n<=4096
 eight:L.length=8
 short:∀ p,(L.getD p []).length<=1000000
theorem dy.mod {w w':World}{m n:Nat}{L:List az}{S:Nat->Prop}(h:dy w m n L)(k:ah S w w')(hS:¬ S m):dy w' m n L:=⟨ab k h.own hS,h.many,h.eight,h.short⟩
theorem dy.lt {w:World}{m n:Nat}{L:List az}(h:dy w m n L):m<w.heap.size:=ai h.own
theorem dy.cell {w:World}{m n:Nat}{L:List az}(h:dy w m n L)(p:Nat)(hp:p<8):w.cell? ⟨m,1+p,none⟩=some (aC (L.getD p [])):=by
 have:=aa h.own (1+p);rw[this];have CC:p=0\/p=1\/p=2\/p=3\/p=4\/p=5\/p=6\/p=7:=by omega
 rcases CC with rfl|rfl|rfl|rfl|rfl|rfl|rfl|rfl<;>rfl
theorem P8 (w:World)(n:Nat)(hn:8<=n/\n<=4096):
  Calls prog 101 #[.int .i64 (n:Int)] w fun e w'=>∃ m,e=.returned (.tuple #[aq m,.int .i64 0])/\w.heap.size<=m/\dy w' m n (List.replicate 8 [])/\af w w':=by
 have h1:¬(n:Int)<8:=by omega
 have h2:¬(4096:Int)<(n:Int):=by omega
 have H:=hd0 hn;clear hn;go_enter func101,ntmps101;go_wp2;go_ret2;exact⟨w.heap.size,rfl,auE _,⟨aw w _ _,by have:=H.out;omega,by simp,fun p=>by
  by_cases hp:p<8
  ·have CC:p=0\/p=1\/p=2\/p=3\/p=4\/p=5\/p=6\/p=7:=by omega
   rcases CC with rfl|rfl|rfl|rfl|rfl|rfl|rfl|rfl<;>simp
  ·rw[List.getD,avu (by simp;omega)];simp⟩,(ah.refl _ w).alloc _⟩
theorem ik {w:World}{m n:Nat}{L:List az}(h:dy w m n L):
  Calls prog 128 #[aq m] w fun e w'=>e=.returned (.int .i64 (n:Int))/\w'=w:=by
 have c0:w.cell? ⟨m,0,none⟩=some (.int .i64 (n:Int)):=aa h.own 0;clear h;go_enter func128,ntmps128
 go_wp2
 go_ret;exact⟨rfl,rfl⟩
theorem Bg (w:World)(b:Nat)(l:List Nat)(hl:l.length<=2)(hp:∀ p∈l,p<8)(h:World.blk w b (l.map fun p:Nat=>Value.int .i64 (p:Int)).toArray 3):
  Calls prog 92 #[.slice (some ⟨b,0,none⟩) l.length l.length] w fun e w'=>e=.returned (.bool true)/\w'=w:=by
 have H:=hd0 h;have HP:=hd0 hp;clear h hp;generalize hn:l.length=n at*;have Hn:=hd0 hn;clear hn;go_enter func92,ntmps92;go_wp2_with fail
 go_loopw [7] (fun i wr=>∃ k:Nat,k<=n/\i=.int .i64 (k:Int)/\wr=w) (fun i _=>n-(intOf i).toNat)
 case atStart=>exact⟨0,by omega,rfl,rfl⟩
 case round=>
  obtain⟨k,hk,rfl,rfl⟩:=hrel;by_cases aL:k<n
  ·obtain⟨p,hp⟩:∃ p,l[k]?=some p:=⟨_,auB (by rw[Hn.out];exact aL)⟩
   have c0:wr.cell? ⟨b,k,none⟩=some (.int .i64 (p:Int)):=by
    rw[aa H.out k];simp[hp]
   have hp8:=HP.out p (auC hp);have h1:¬(p:Int)<0:=by omega
   have h2:¬(8:Int)<=(p:Int):=by omega
   have dN:(k:Int)<(n:Int):=by omega
   clear hp hp8;go_wp2_with fail
   go_roundw
   case rel=>exact⟨k+1,by omega,by go_num,trivial⟩
   case measure=>simp[intOf];omega
  ·obtain rfl:k=n:=by omega
   go_wp2;go_ret;exact⟨rfl,rfl⟩
theorem xc {w:World}{m n:Nat}{L:List az}(h:dy w m n L)(p:Nat)(hp:p<8):
  Calls prog 46 #[aq m,.int .i64 (p:Int)] w fun e w'=>e=.returned (.tuple #[aC (L.getD p []),.int .i64 0])/\af w w':=by
 have IS:=hd0 (Bg (w.alloc (.cells #[.int .i64 (p:Int)] 3)) w.heap.size [p] (by simp) (by simp;omega) (aw w _ _));have c:=(h.mod ((ah.refl (fun _=>False) w).alloc (.cells #[.int .i64 (p:Int)] 3)) id).cell p hp;have h1:(p:Int)<8:=by omega
 clear h hp;go_enter func46,ntmps46;go_wp2_with fail;refine IS.out.mono ?_;rintro e w1 ⟨rfl,rfl⟩;go_wp2;go_ret2;exact⟨rfl,(ah.refl _ w).alloc _⟩
theorem xd {w:World}{m n:Nat}{L:List az}(h:dy w m n L):
  Calls prog 91 #[aq m] w fun e w'=>∃ c,e=.returned (aq c)/\w.heap.size<=c/\dy w' c n L/\af w w':=by
 have H:=hd0 h;have c0:w.cell? ⟨m,0,none⟩=some (.int .i64 (n:Int)):=aa h.own 0;have c1:=h.cell 0 (by omega);have c2:=h.cell 1 (by omega);have c3:=h.cell 2 (by omega);have c4:=h.cell 3 (by omega);have c5:=h.cell 4 (by omega);have c6:=h.cell 5 (by omega);have c7:=h.cell 6 (by omega);have c8:=h.cell 7 (by omega);simp only[Nat.reduceAdd]at c1 c2 c3 c4 c5 c6 c7 c8;clear h;go_enter func91,ntmps91;go_wp2;go_ret;exact⟨w.heap.size,rfl,auE _,⟨aw w _ _,H.out.many,H.out.eight,H.out.short⟩,(ah.refl _ w).alloc _⟩
theorem dy.put {w:World}{m n:Nat}{L:List az}(h:dy w m n L)(p:Nat)(hp:p<8)(s:az)(hs:s.length<=1000000):dy (w.setCell ⟨m,1+p,none⟩ (aC s)) m n (L.set p s):=by
 refine⟨?_,h.many,by simp[h.eight],fun q=>?_⟩
 ·have hb:=ag h.own (1+p) (aC s);have h8:=h.eight
  match L,h8 with
  |[a0,a1,a2,a3,a4,a5,a6,a7],_=>
   have CC:p=0\/p=1\/p=2\/p=3\/p=4\/p=5\/p=6\/p=7:=by omega
   rcases CC with rfl|rfl|rfl|rfl|rfl|rfl|rfl|rfl<;>exact hb
 ·rw[List.getD,List.getElem?_set];by_cases hq:p=q
  ·subst hq;rw[auI rfl,auI (by have:=h.eight;omega)];exact hs
  ·rw[auK hq];exact h.short q
theorem xe {w:World}{m n:Nat}{L:List az}(h:dy w m n L)(p:Nat)(hp:p<8)(s:az)(hs:s.length<=1000000)(h0:am s 0=false)(hx:mu s n=none):
  Calls prog 135 #[aq m,.int .i64 (p:Int),aC s] w fun e w'=>e=.returned (.int .i64 0)/\dy w' m n (L.set p (eH s []))/\ah (fun b=>b=m) w w':=by
 have NX:=hd0 (P3 s n w (aux hs (by decide)) (by have:=h.many;omega));have c0:w.cell? ⟨m,0,none⟩=some (.int .i64 (n:Int)):=aa h.own 0;obtain⟨W,hW⟩:∃ W,w.alloc (.cells #[.int .i64 (p:Int)] 3)=W:=⟨_,rfl⟩
 have k0:af w W:=by rw[<-hW];exact(ah.refl _ w).alloc _
 have IS:=Bg W w.heap.size [p] (by simp) (by simp;omega) (by rw[<-hW];exact aw w _ _);have HA:=JY s 0 W (by omega) (by omega);rw[show wS s 0=false by unfold wS;simpa using h0]at HA;have HIS:=hd0 IS;have HHA:=hd0 HA;have HH:=hd0 (h.mod k0 id);have HK:=hd0 k0;have HOR:=fun X=>lT s [] X (aux hs (by decide)) (by simp);have HOS:=lS s [];have HHO:=hd0 HOR;have h1:(p:Int)<8:=by omega
 have HP:=hd0 hp;have NO:=hd0 hx;have uW:Hid ((eH s []).length<=1000000):=hd0 (by simp at HOS;omega);clear h hp IS HA k0 hx h0 hs HOR HOS;go_enter func135,ntmps135;go_wp2_with fail;refine NX.out.mono ?_;rintro e w1 ⟨rfl,rfl⟩;rw[NO.out];unfold LJ;go_wp2_with fail;refine HIS.out.mono ?_;rintro e w1 ⟨rfl,rfl⟩;go_wp2_with fail;refine HHA.out.mono ?_;rintro e w1 ⟨rfl,rfl⟩;go_wp2_with fail;refine iy 3 7 (by kernel_rfl) (by kernel_rfl) (fun _ o _ _ _ h=>by cases o<;>exact h) ?_;simp only[avn,avo,avq,avr];refine fE (fun L hL=>?_)
 go_simp
 first|refine hL _ ?_|refine⟨_,fun _=>rfl,hL _ ?_⟩
 clear hL L;refine fE (fun L hL=>?_)
 go_simp
 first|refine hL _ ?_|refine⟨_,fun _=>rfl,hL _ ?_⟩
 clear hL L;refine fE (fun L hL=>?_)
 go_simp
 first|refine hL _ ?_|refine⟨_,fun _=>rfl,hL _ ?_⟩
 clear hL L;refine kH ?_
 repeat (quiet_step (with_reducible exact aZ (HHO.out _)))
 refine avt ?_;intro _ cf;obtain⟨xq,rfl⟩:=cf;have nY:=ay w1 xq;have f1:=ae (ab nY HH.out.own id) ⟨m,1+p,none⟩ rfl;have H2:=hd0 (HH.out.mod nY id);have bu:=hd0 (HK.out.keep nY);have cs:=H2.out.cell p HP.out;clear nY;go_wp2;go_ret;exact⟨rfl,H2.out.put p HP.out _ uW.out,(bu.out.mono (T:=fun b=>b=m) (fun _ _ h=>h.elim)).setCell (p:=⟨m,1+p,none⟩) (.inl rfl) _⟩
theorem LQ (n:Nat):mu [] n=none:=by
 unfold mu;rw[avA];intro x _;simp[gJ]
theorem GX {w:World}{m n:Nat}{L:List az}(h:dy w m n L)(p:Nat)(hp:p<8):
  Calls prog 133 #[aq m,.int .i64 (p:Int)] w fun e w'=>e=.returned (.int .i64 0)/\dy w' m n (L.set p [])/\ah (fun b=>b=m) w w':=by
 have PU:=hd0 (xe h p hp [] (by simp) rfl (LQ n));clear h;go_enter func133,ntmps133;go_wp2_with fail;refine PU.out.mono ?_;rintro e w1 ⟨rfl,h1,h2⟩;have H1:=hd0 h1;have H2:=hd0 h2;clear h1 h2;go_wp2;go_ret;exact⟨rfl,H1.out,H2.out⟩
end
end Go.Proofs.YtkghpdcloaiflaaGreatDoor
