import Derived.Test.YtkghpdcloaiflaaGreatDoorD08
import Derived.Test.YtkghpdcloaiflaaGreatDoorD14
set_option maxHeartbeats 4000000
set_option maxRecDepth 100000
namespace Go.Proofs.YtkghpdcloaiflaaGreatDoor
open _root_.Go.Proofs.Tryz
section
open Go.RowKit Go.Shelf
attribute [local go_sem] auG
theorem YZ (n each:Nat)(w:World)(hn:n<=1000000)(he:1<=each/\each<=1000):
  Calls prog 305 #[.int .i64 (n:Int),.int .i64 (each:Int)] w fun e w'=>e=.returned (.int .i64 ((bN n each:Nat):Int))/\w=w':=by
 have e1:((bN n each:Nat):Int)=((n:Int)+(each:Int)-1)/(each:Int):=by
  have e:((n+each-1:Nat):Int)=(n:Int)+(each:Int)-1:=by omega
  unfold bN;rw[Int.natCast_ediv,e]
 have e2:((n:Int)+(each:Int)-1).tdiv (each:Int)=((n:Int)+(each:Int)-1)/(each:Int):=avW (by omega);have e3:¬(each:Int)=0:=by omega
 have b1:(n:Int)<=1000000:=by omega
 have b2:(each:Int)<=1000:=by omega
 have b3:(1:Int)<=each:=by omega
 have hq:((n:Int)+(each:Int)-1)/(each:Int)<=1001000:=by
  refine Int.le_trans (Int.ediv_le_self _ (by omega)) (by omega)
 have hq0:(0:Int)<=((n:Int)+(each:Int)-1)/(each:Int):=Int.ediv_nonneg (by omega) (by omega);go_enter func305,ntmps305;go_wp2;go_ret;exact⟨by rw[e1];rfl,rfl⟩
theorem rU (size:Nat):(au size).length<=3:=by
 unfold au;simp only;split
 ·simp
 ·split
  ·simp
  ·split<;>simp
theorem pg {size:Nat}(hs:size<=16384):∀ n∈au size,1<=n/\n<=69:=by
 have h1:bN size 240<=69:=(aL (by decide)).2 (by omega);intro n hn;rcases aN size with⟨_,e⟩|⟨h2,_,e⟩|⟨h2,_,e⟩|⟨h2,e⟩<;>rw[e]at hn
 ·simp at hn
 ·simp at hn;omega
 ·have:1<bN size 240:=by
   apply avG;intro hc;have:=(aL (n:=size) (each:=240) (k:=1) (by decide)).1 (by omega);omega
  simp at hn;omega
 ·have h3:60<bN size 240:=by
   apply avG;intro hc;have:=(aL (n:=size) (each:=240) (k:=60) (by decide)).1 (by omega);omega
  have h4:bN (bN size 240) 60=2:=by
   have a:=(aL (n:=bN size 240) (each:=60) (k:=2) (by decide)).2 (by omega);have b:¬ bN (bN size 240) 60<=1:=fun hc=>by
    have:=(aL (n:=bN size 240) (each:=60) (k:=1) (by decide)).1 hc;omega
   omega
  simp at hn;omega
theorem LH {size:Nat}(hs:size<=16384){k:Nat}(hk:k<(au size).length):(au size).getD k 0=1↔k+1=(au size).length:=by
 rcases aN size with⟨_,e⟩|⟨h2,_,e⟩|⟨h2,_,e⟩|⟨h2,e⟩<;>rw[e]at hk ⊢
 ·simp at hk
 ·simp at hk;subst hk;simp
 ·have:1<bN size 240:=by
   apply avG;intro hc;have:=(aL (n:=size) (each:=240) (k:=1) (by decide)).1 (by omega);omega
  simp at hk;rcases(by omega:k=0\/k=1)with rfl|rfl
  ·simp;omega
  ·simp
 ·have h3:60<bN size 240:=by
   apply avG;intro hc;have:=(aL (n:=size) (each:=240) (k:=60) (by decide)).1 (by omega);omega
  have h4:1<bN (bN size 240) 60:=by
   apply avG;intro hc;have:=(aL (n:=bN size 240) (each:=60) (k:=1) (by decide)).1 (by omega);omega
  simp at hk;rcases(by omega:k=0\/k=1\/k=2)with rfl|rfl|rfl
  ·simp;omega
  ·simp;omega
  ·simp
theorem nE {size:Nat}:(au size).getD 0 0=bN size 240:=by
 unfold au;simp only;split
 ·simp[*]
 ·split
  ·simp[*]
  ·split<;>simp
theorem UQ (w:World)(t:TypeId)(base:Nat)(v:Value)(hb:base<=w.heap.size):(w.alloc (.cells #[v] t)).ownsRow base t 1 (.slice (some ⟨w.heap.size,0,none⟩) 1 1) 1 [v]:=
 ⟨rfl,.inr ⟨w.heap.size,1,#[v],rfl,hb,aw w _ _,auP _,by decide,rfl,rfl⟩⟩
theorem qS (size:Nat)(w:World)(hs:size<=16384):
  Calls prog 267 #[.int .i64 (size:Int)] w fun e w'=>∃ v,e=.returned v/\aI w' w.heap.size v (eU (au size))/\af w w':=by
 have U:=fun(n each:Nat) (h1:n<=1000000) (h2:1<=each/\each<=1000) W=>YZ n each W h1 h2;have HU:=hd0 U;have U1:=hd0 (U size 240 (by omega) (by omega));have H0:Hid (bN size 240=0->au size=[]):=hd0 (fun h=>by unfold au;simp[h]);have H1:Hid (bN size 240≠0->1<=(au size).length):=hd0 (fun h=>by unfold au;simp only;rw[auV h];split<;>(try split)<;>simp);have HL:=hd0 (fun k (h:k<(au size).length)=>LH hs h);have HM:=hd0 (pg hs);have HUp:=hd0 (mG size hs);have H3:=hd0 (rU size);have HF:=hd0 (nE (size:=size));have yy:bN size 240<=69:=(aL (by decide)).2 (by omega);generalize au size=L at*;generalize hq:bN size 240=q at*;have Hq:=hd0 hq;clear hq U hs;go_enter func267,ntmps267;go_wp2_with fail;refine(U1.out _).mono ?_;rintro e w1 ⟨rfl,rfl⟩;by_cases h0:q=0
 ·have hL:=H0.out h0;subst h0;go_wp2;go_ret;rw[hL];exact⟨_,rfl,⟨rfl,.inl ⟨rfl,rfl⟩⟩,ah.refl _ _⟩
 ·have OW:(((q:Nat):Int)==0)=false:=by simp;omega
  have h1:=H1.out h0;have e0:Hid (L.take 1=[q]):=hd0 (by
   have:=HF.out;rcases L with _|⟨a,r⟩
   ·simp at h1
   ·simp at this;subst this;rfl)
  go_wp2_with fail;have HO:=hd0 (UQ w 3 w.heap.size (.int .i64 (q:Int)) (auP _))
  go_loopw [3,4] (fun n v wr=>∃ k:Nat,1<=k/\k<=L.length/\n=.int .i64 ((L.getD (k-1) 0:Nat):Int)/\aI wr w.heap.size v (eU (L.take k))/\af w wr) (fun n _ _=>(intOf n).toNat)
  case atStart=>exact⟨1,by omega,h1,by rw[<-HF.out],by rw[e0.out];exact HO.out,(ah.refl _ w).alloc _⟩
  case round=>
   clear HO e0;obtain⟨k,hk1,df,rfl,ho,hK⟩:=hrel;have fi:=HM.out (L.getD (k-1) 0) (by rw[av4,auM (by omega)];exact avl _);have Sa:=HL.out (k-1) (by omega);have HO:=hd0 ho;have HK:=hd0 hK;clear ho hK;by_cases hk:k=L.length
   ·have hx:L.getD (k-1) 0=1:=Sa.2 (by omega);rw[hx];go_wp2;go_ret;refine⟨_,rfl,?_,HK.out⟩;have:=HO.out;rw[hk,auQ]at this;exact this
   ·have hx:¬ L.getD (k-1) 0=1:=fun h=>by have:=Sa.1 h;omega
    obtain⟨x,RZ⟩:∃ x,L.getD (k-1) 0=x:=⟨_,rfl⟩
    have pD:=HUp.out (k-1) (by omega);rw[show k-1+1=k by omega]at pD;rw[RZ]at pD fi hx ⊢;have UX:=hd0 (HU.out x 60 (by omega) (by omega));rw[<-pD]at UX;have hxi:(1:Int)<(x:Int):=by omega
    have aep:=HM.out (L.getD k 0) (by rw[av4,auM (by omega)];exact avl _);have Hxd:=hd0 (show L.getD k 0<x from by
     rw[pD];have:=(aL (n:=x) (each:=60) (k:=x-1) (by decide)).2 (by omega);omega)
    have Cy:=hd0 pD;have Hxx:=hd0 RZ;have Het:Hid (eU (L.take (k+1))=eU (L.take k)++[(L.getD k 0:Int)]):=hd0 (by
     unfold eU;rw[List.take_succ_eq_append_getElem (show k<L.length by omega),List.map_append];simp only[auJ,List.map_nil,av4,auM (show k<L.length by omega),avm])
    obtain⟨y,hy⟩:∃ y,L.getD k 0=y:=⟨_,rfl⟩
    rw[hy]at UX aep Hxd Het;have Hy:=hd0 hy;clear pD RZ Sa hy hx;go_wp2_with fail;refine(UX.out _).mono ?_;rintro e w2 ⟨rfl,rfl⟩;have aW:(eU (L.take k)).length<=3:=by have:=H3.out;simp[eU];omega
    have Ha:=hd0 (iV (P:=prog) underlying46 ib rfl w.heap.size u4 _ _ wr w HO.out [.int .i64 (y:Int)] (by simp[Value.oneCell']) (by unfold maxLen;show(eU (L.take k)).length+1<=_;omega) (by show((eU (L.take k)).length+1)*8<=_;omega) HK.out.size HK.out (auP _));obtain⟨v',w3,bh,aZ,dm,_⟩:=Ha.out;have HR:=hd0 bh;have Fx:=hd0 (iW aZ);have dJ:=hd0 dm;clear bh aZ dm Ha;go_wp2_with (at_builtin;refine az HR.out rfl rfl rfl rfl ?_)
    go_roundw
    case rel=>exact⟨k+1,by omega,by omega,by rw[show k+1-1=k by omega,Hy.out],by rw[Het.out];exact Fx.out,dJ.out⟩
    case measure=>have:=Hxd.out;simp[intOf];omega
end
section
open Go.RowKit Go.Shelf
attribute [local go_sem] auG
theorem Bf (a b s:Nat)(ha:a<2 ^ s)(hb:a+b*2 ^ s<9223372036854775808):bits .or .i64 (a:Int) ((b*2 ^ s:Nat):Int)=((a+b*2 ^ s:Nat):Int):=by
 have e:=Nat.two_pow_add_eq_or_of_lt ha b;rw[Nat.mul_comm,Nat.or_comm]at e;have e1:(BitVec.ofInt 64 (a:Int)|||BitVec.ofInt 64 ((b*2 ^ s:Nat):Int)).toNat=a+b*2 ^ s:=by
  rw[BitVec.ofInt_natCast,BitVec.ofInt_natCast,BitVec.toNat_or,BitVec.toNat_ofNat,BitVec.toNat_ofNat,awb (by omega),awb (by omega),<-e];omega
 show IntKind.i64.wrap (((BitVec.ofInt 64 (a:Int)|||BitVec.ofInt 64 ((b*2 ^ s:Nat):Int)).toNat:Nat):Int)=_;rw[e1,IntKind.wrap_i64];omega
def DE (s:ay)(k:Nat):Nat:=(s.getD (4*k) 0).toNat+256*(s.getD (4*k+1) 0).toNat+65536*(s.getD (4*k+2) 0).toNat+16777216*(s.getD (4*k+3) 0).toNat
theorem wK:∀(m:Nat) (s:ay),s.length=4*m->cr s=(List.range m).map fun k=>(DE s k:Int)
 |0,s,h=>by
  have:s=[]:=avj.1 (by omega);subst this;rfl
 |m+1,s,h=>by
  match s,h with
  |a::b::c::d::r,h=>
   have ih:=wK m r (by simp at h;omega);rw[cr,ih,List.range_succ_eq_map,auJ,avb]
   congr 1
  |[],h=>simp at h
  |[_],h=>simp at h;omega
  |[_,_],h=>simp at h;omega
  |[_,_,_],h=>simp at h;omega
theorem wO {m:Nat}{s:ay}(h:s.length=4*m):(cr s).length=m:=by rw[wK m s h];simp
theorem LJ {m k:Nat}{s:ay}(h:s.length=4*m)(hk:k<m):(cr s).take (k+1)=(cr s).take k++[(DE s k:Int)]:=by
 rw[wK m s h,List.take_succ_eq_append_getElem (by simpa using hk)];simp
theorem Bg (s:List UInt8)(m:Nat)(w:World)(hs:s.length=4*m)(hm:m<=100000):
  Calls prog 306 #[.string ⟨s.toArray⟩] w fun e w'=>∃ v,e=.returned v/\aI w' w.heap.size v (cr s)/\af w w':=by
 have Hl:=hd0 (wO hs);have hT:=fun k (h:k<m)=>LJ hs h;have HT:=hd0 hT;have Hs:=hd0 hs;have Wb:(s.length:Int)=4*(m:Int):=by omega
 generalize hP:cr s=P at*;clear hT hP hs;go_enter func306,ntmps306;go_wp2_with fail
 go_loopw [3,4] (fun v i wr=>∃ k:Nat,k<=m/\i=.int .i64 (4*(k:Int))/\aI wr w.heap.size v (P.take k)/\af w wr) (fun _ i _=>4*m-(intOf i).toNat)
 case atStart=>exact⟨0,by omega,rfl,⟨rfl,.inl ⟨rfl,rfl⟩⟩,ah.refl _ _⟩
 case round=>
  obtain⟨k,hk,rfl,ho,hK⟩:=hrel;have HO:=hd0 ho;have HK:=hd0 hK;clear ho hK;by_cases aK:k<m
  ·have dR:4*(k:Int)<4*(m:Int):=by omega
   have Tb:(k:Int)<=100000:=by omega
   have g:=fun j (hj:j<4)=>(show s[4*k+j]?=some (s.getD (4*k+j) 0) by have:=Hs.out;rw[av4,auM (by omega)];rfl)
   have g0:=g 0 (by omega);have g1:=g 1 (by omega);have g2:=g 2 (by omega);have g3:=g 3 (by omega);have OI:Hid (DE s k=(s.getD (4*k+0) 0).toNat+256*(s.getD (4*k+1) 0).toNat+65536*(s.getD (4*k+2) 0).toNat+16777216*(s.getD (4*k+3) 0).toNat):=hd0 rfl;generalize s.getD (4*k+0) 0=b0 at*;generalize s.getD (4*k+1) 0=b1 at*;generalize s.getD (4*k+2) 0=b2 at*;generalize s.getD (4*k+3) 0=b3 at*;have l0:=b0.toNat_lt;have l1:=b1.toNat_lt;have l2:=b2.toNat_lt;have l3:=b3.toNat_lt;have sP:=aS (P:=prog) underlying9 s .i64 (4*(k:Int)) b0 (by omega) (by rw[show(4*(k:Int)).toNat=4*k+0 by omega];exact g0);have B3:=aS (P:=prog) underlying9 s .i64 (4*(k:Int)+1) b1 (by omega) (by rw[show(4*(k:Int)+1).toNat=4*k+1 by omega];exact g1);have vr:=aS (P:=prog) underlying9 s .i64 (4*(k:Int)+2) b2 (by omega) (by rw[show(4*(k:Int)+2).toNat=4*k+2 by omega];exact g2);have XG:=aS (P:=prog) underlying9 s .i64 (4*(k:Int)+3) b3 (by omega) (by rw[show(4*(k:Int)+3).toNat=4*k+3 by omega];exact g3);have w1:IntKind.i64.wrap (4*(k:Int)+1)=4*(k:Int)+1:=fA (by omega);have w2:IntKind.i64.wrap (4*(k:Int)+2)=4*(k:Int)+2:=fA (by omega);have w3:IntKind.i64.wrap (4*(k:Int)+3)=4*(k:Int)+3:=fA (by omega);have o1:=Bf b0.toNat b1.toNat 8 (by omega) (by omega);have o2:=Bf (b0.toNat+b1.toNat*2 ^ 8) b2.toNat 16 (by omega) (by omega);have o3:=Bf (b0.toNat+b1.toNat*2 ^ 8+b2.toNat*2 ^ 16) b3.toNat 24 (by omega) (by omega);have Se:bits .or .i64 (bits .or .i64 (bits .or .i64 (IntKind.i64.wrap (b0.toNat:Int)) (IntKind.i64.wrap (IntKind.i64.wrap (b1.toNat:Int)*256))) (IntKind.i64.wrap (IntKind.i64.wrap (b2.toNat:Int)*65536))) (IntKind.i64.wrap (IntKind.i64.wrap (b3.toNat:Int)*16777216))=((DE s k:Nat):Int):=by
    have a0:IntKind.i64.wrap (b0.toNat:Int)=(b0.toNat:Int):=fA (by omega);have a1:IntKind.i64.wrap (b1.toNat:Int)=(b1.toNat:Int):=fA (by omega);have a2:IntKind.i64.wrap (b2.toNat:Int)=(b2.toNat:Int):=fA (by omega);have a3:IntKind.i64.wrap (b3.toNat:Int)=(b3.toNat:Int):=fA (by omega);have c1:IntKind.i64.wrap ((b1.toNat:Int)*256)=((b1.toNat*2 ^ 8:Nat):Int):=by rw[fA (by omega)];omega
    have c2:IntKind.i64.wrap ((b2.toNat:Int)*65536)=((b2.toNat*2 ^ 16:Nat):Int):=by rw[fA (by omega)];omega
    have c3:IntKind.i64.wrap ((b3.toNat:Int)*16777216)=((b3.toNat*2 ^ 24:Nat):Int):=by rw[fA (by omega)];omega
    rw[a0,a1,a2,a3,c1,c2,c3,o1,o2,o3,OI.out];omega
   have ail:=hd0 Se;clear g g0 g1 g2 g3 Se o1 o2 o3;have vk:=hd0 (HT.out k aK);have aW:(P.take k).length<=100000:=by have:=Hl.out;simp;omega
   go_wp2_with fail;refine iz 1 26 (by kernel_rfl) (by kernel_rfl) (fun _ o _ _ _ h=>by cases o<;>exact h) ?_;simp only[avz,avA,avB,avC];refine fE (fun L hL=>?_)
   go_simp
   first|refine hL _ ?_|refine⟨_,fun _=>rfl,hL _ ?_⟩
   clear hL L;refine kH ?_
   repeat (quiet_step (fail))
   refine avE ?_;intro _ cL;obtain⟨xq,rfl⟩:=cL;rw[ail.out];have zl:Hid (aI (wr.ext xq) w.heap.size u3 (P.take k)):=hd0 (iB HO.out (aD wr xq));have bw:Hid (af w (wr.ext xq)):=hd0 (HK.out.keep (aD wr xq));obtain⟨W,hW⟩:∃ W,wr.ext xq=W:=⟨_,rfl⟩
   rw[hW]at zl bw ⊢;obtain⟨y,hy⟩:∃ y,((DE s k:Nat):Int)=y:=⟨_,rfl⟩
   rw[hy]at vk ⊢;have Ha:=iV (P:=prog) underlying46 ib rfl w.heap.size u3 _ _ W w zl.out [.int .i64 y] (by simp[Value.oneCell']) (by unfold maxLen;show(P.take k).length+1<=_;omega) (by show((P.take k).length+1)*8<=_;omega) bw.out.size bw.out (auP _);obtain⟨v',w3',bh,aZ,dm,_⟩:=Ha;have HR:=hd0 bh;have Fx:=hd0 (iW aZ);have dJ:=hd0 dm;clear bh aZ dm hW hy zl bw HK HO sP B3 vr XG w1 w2 w3;go_wp2_with (at_builtin;refine az HR.out rfl rfl rfl rfl ?_)
   go_roundw
   case rel=>exact⟨k+1,by omega,by go_num,by rw[vk.out];exact Fx.out,dJ.out⟩
   case measure=>simp[intOf];omega
  ·obtain rfl:k=m:=by omega
   go_wp2;go_ret;have:=HO.out;rw[<-Hl.out,auQ]at this;exact⟨_,rfl,this,HK.out⟩
end
section
open Go.RowKit Go.Shelf
attribute [local go_sem] auG
theorem UR {w:World}{base m n sz:Nat}{t:TypeId}{a:Option Addr}{cap:Nat}{xs:List Value}(h:w.ownsRow base t sz (.slice a n cap) m xs):n<=cap:=by
 rcases h.2 with⟨e,_⟩|⟨g,c,dz,e,_,_,h3,_⟩
 ·injection e with e1 e2 e3;omega
 ·injection e with e1 e2 e3;omega
theorem LK (l:List Int){k:Nat}{x:Int}(h:l[k]?=some x):cM (l.take (k+1))=cM (l.take k)++WZ x:=by
 have hk:=(au0.1 h).1;have hx:=(au0.1 h).2;unfold cM;rw[List.take_succ_eq_append_getElem hk,au2,hx];simp
theorem UT {x:Int}(h:0<=x/\x<4294967296):gx (WZ x)=[.int .u8 (x%256),.int .u8 (x/256%256),.int .u8 (x/65536%256),.int .u8 (x/16777216)]:=by
 obtain⟨n,rfl⟩:=Int.eq_ofNat_of_zero_le h.1;simp only[WZ,gx,auJ,List.map_nil,avn];have e:=fun m=>(show((UInt8.ofNat (m%256)).toNat:Int)=(m:Int)%256 by simp)
 rw[e,e,e,e];have e24:((n/16777216:Nat):Int)%256=(n:Int)/16777216:=by omega
 rw[e24];simp only[Int.natCast_ediv];rfl
theorem GW {w:World}{base:Nat}{v:Value}{l m:List UInt8}(h:w.ownsRow base 5 1 v (l.length+(gx m).length) (gx l++gx m)):bP w base v (l++m):=by
 have e:gx (l++m)=gx l++gx m:=by simp[gx]
 have e2:(l++m).length=l.length+(gx m).length:=by simp[gx]
 unfold bP;rw[e,e2];exact h
theorem DG (l:List Int)(v:Value)(w:World)(hv:eI w v (ba l))(hl:l.length<=100000)(hr:∀ n∈l,0<=n/\n<4294967296):
  Calls prog 270 #[v] w fun e w'=>e=.returned (.string ⟨(cM l).toArray⟩)/\af w w':=by
 obtain⟨a,cap,rfl,hx⟩:=hv;rw[fS];have HX:=hd0 hx;have HR:=hd0 hr;have Cx:(l.length:Int)<=100000:=by omega
 clear hx hr;go_enter func270,ntmps270;go_wp2_with fail
 go_loopw [3,8] (fun u i wr=>∃ k:Nat,k<=l.length/\i=.int .i64 (k:Int)/\bP wr w.heap.size u (cM (l.take k))/\af w wr) (fun _ i _=>l.length-(intOf i).toNat)
 case atStart=>exact⟨0,by omega,rfl,⟨rfl,.inl ⟨rfl,rfl⟩⟩,ah.refl _ _⟩
 case round=>
  obtain⟨k,hk,rfl,ho,hK⟩:=hrel;have HO:=hd0 ho;have HK:=hd0 hK;clear ho hK;by_cases aK:k<l.length
  ·have dR:(k:Int)<(l.length:Int):=by omega
   obtain⟨x,RZ⟩:∃ x,l[k]?=some x:=⟨_,auM aK⟩
   obtain⟨b,o,rfl,hc⟩:=HX.out k (.int .i64 x) (by simp[ba,RZ]);have c0:wr.cell? ⟨b,o+k,none⟩=some (.int .i64 x):=by rw[HK.out.cell (p:=⟨b,o+k,none⟩) (am hc) id];exact hc
   have sP:=HR.out x (auN RZ);have B3:=sP.1;have vr:=sP.2;have Hu:=hd0 (UT sP);have Ht:=hd0 (LK l RZ);have aW:(cM (l.take k)).length<=400000:=by rw[rR];simp;omega
   have Ha:=hd0 (iV (P:=prog) underlying131 ke rfl w.heap.size u3 _ _ wr w HO.out (gx (WZ x)) (fun u hu=>by simp only[gx,avh]at hu;obtain⟨y,_,rfl⟩:=hu;rfl) (by unfold maxLen;show(cM (l.take k)).length+4<=_;omega) (by show((cM (l.take k)).length+4)*1<=_;omega) HK.out.size HK.out (auP _));obtain⟨v',w3,bh,aZ,dm,_⟩:=Ha.out;have Fx:=hd0 (GW aZ);rw[Hu.out]at bh;have IZ:=hd0 bh;have dJ:=hd0 dm;clear bh aZ dm Ha hc sP RZ;go_wp2_with (at_builtin;refine az IZ.out rfl rfl rfl rfl ?_)
   go_roundw
   case rel=>exact⟨k+1,by omega,by go_num,by rw[Ht.out];exact Fx.out,dJ.out⟩
   case measure=>simp[intOf];omega
  ·obtain rfl:k=l.length:=by omega
   have bh:=lN (by have h:=HO.out;rw[auQ]at h;exact h);go_wp2;go_ret;exact⟨rfl,HK.out⟩
theorem zO (s:List UInt8)(i:Nat)(w:World)(hs:s.length<=100000)(hi:i<=100000):
  Calls prog 268 #[.string ⟨s.toArray⟩,.int .i64 (i:Int)] w fun e w'=>e=.returned (.string ⟨(aO s i).toArray⟩)/\af w w':=by
 have Wb:(s.length:Int)<=100000:=by omega
 have hii:(i:Int)<=100000:=by omega
 have w1:IntKind.i64.wrap ((i:Int)*240)=(i:Int)*240:=fA (by omega);have w2:IntKind.i64.wrap ((i:Int)*240+240)=(i:Int)*240+240:=fA (by omega);by_cases h:i*240<s.length
 ·have h1:¬(s.length:Int)<=(i:Int)*240:=by omega
  have hcut:=fun W=>AZ s (i*240) (min s.length (i*240+240)) ((i:Int)*240) (min (s.length:Int) ((i:Int)*240+240)) (by omega) (by omega) (by omega) (by omega) W;have e:min s.length (i*240+240)-i*240=min (s.length-i*240) 240:=by omega
  have e2:(s.drop (i*240)).take (min s.length (i*240+240)-i*240)=aO s i:=by
   rw[e];unfold aO;rw[List.take_eq_take_iff];simp;omega
  have e2':=e2;clear hcut e e2;go_enter func268,ntmps268;go_wp2;go_ret;refine⟨?_,ah.refl _ _⟩;have e3:(min (s.length:Int) ((i:Int)*240+240)).toNat=min s.length (i*240+240):=by omega
  show Ending.returned (.string ⟨((s.drop (i*240)).take ((min (s.length:Int) ((i:Int)*240+240)).toNat-i*240)).toArray⟩)=_;rw[e3,e2']
 ·have h1:(s.length:Int)<=(i:Int)*240:=by omega
  have e:aO s i=[]:=by unfold aO;rw[awc (by omega)];rfl
  rw[e];go_enter func268,ntmps268;go_wp2;go_ret;exact⟨rfl,ah.refl _ _⟩
theorem zP (l:List Int)(i:Nat)(v:Value)(w:World)(base:Nat)(hv:aI w base v l)(hl:l.length<=100000)(hi:60*i<l.length):
  Calls prog 271 #[v,.int .i64 (i:Int)] w fun e w'=>∃ v',e=.returned v'/\eI w' v' (ba (aV l i))/\w=w':=by
 obtain⟨a,cap,rfl,hx⟩:=aY hv;rw[fS]at hv;have zm:=UR hv;have aW:(aV l i).length=min (l.length-i*60) 60:=jd l i;obtain⟨b,o,rfl,_⟩:=hx 0 (.int .i64 (l.getD 0 0)) (by unfold ba;rw[avM,av4,auM (by omega)];rfl);have Cx:(l.length:Int)<=100000:=by omega
 have hii:(i:Int)<=100000:=by omega
 have w1:IntKind.i64.wrap ((i:Int)*60)=(i:Int)*60:=fA (by omega);have w2:IntKind.i64.wrap ((i:Int)*60+60)=(i:Int)*60+60:=fA (by omega);have m1:min (l.length:Int) ((i:Int)*60)=(i:Int)*60:=by omega
 obtain⟨q,hq⟩:∃ q,min l.length (i*60+60)=q:=⟨_,rfl⟩
 have m2:min (l.length:Int) ((i:Int)*60+60)=(q:Int):=by omega
 have q1:i*60<=q:=by omega
 have q2:q<=cap:=by omega
 have q1i:(i:Int)*60<=(q:Int):=by omega
 have q2i:(q:Int)<=(cap:Int):=by omega
 have Hx:=hd0 hx;have Hl:=hd0 aW;have Hq:=hd0 hq;clear hx hv aW hq;rw[fS];go_enter func271,ntmps271;go_wp2;go_ret;refine⟨_,rfl,?_,rfl⟩;have e1:(ba (aV l i)).length=q-i*60:=by rw[fS,Hl.out,<-Hq.out];omega
 refine⟨some ⟨b,o+i*60,none⟩,cap-i*60,by rw[e1];rfl,fun j x hj=>⟨b,o+i*60,rfl,?_⟩⟩;have hj2:j<q-i*60:=by rw[<-e1];exact(au0.1 hj).1
 have h2:(ba l)[i*60+j]?=some x:=by
  unfold ba aV at hj;rw[avM,List.getElem?_take,avU]at hj;split at hj
  ·unfold ba;rw[avM];exact hj
  ·cases hj
 obtain⟨b',o',e2,hc⟩:=Hx.out _ _ h2;injection e2 with e2;injection e2 with e3 e4;subst e3 e4;rw[au1];exact hc
end
section
open Go.RowKit
theorem qp {P:Program}(t u ty e:TypeId)(i:TypeInfo)(ht:P.underlying t=some (.slice e))(hu:P.underlying u=some .string)(hi:P.info? e=some i)(hz:i.zero=some (.int .u8 0))
  (Kz:i.size=1) (hby:i.bytes=1) (w:World) (v:Value) (n:Nat) (xs:List Value) (aZ:w.ownsRow 0 e 1 v n xs) (s:ByteArray) (hb:n+s.size<=140737488355328):
  ∃ v' w',(Builtin.append_ #[t,u] ty #[v,.string s]).run P w=.ok v' w'/\w'.ownsRow 0 e 1 v' (n+s.size) (xs++Lib.strCells s)/\ah (fun g=>v.ownBlock=some g) w w'/\(v'.ownBlock=v.ownBlock\/∃ k,v'.ownBlock=some k/\w.heap.size<=k):=by
 have h63:n+s.size<=maxLen:=by unfold maxLen;omega
 obtain⟨v',w',hr,h2,h3,h4⟩:=Lib.run_append_own_string (P:=P) w 0 t u ty e i ht hu hi hz Kz hby v n xs aZ s h63 hb (avw _);refine⟨v',w',hr,h2,ah.grown (ah.refl _ w) h3 (fun k hk=>.inl hk),?_⟩;rcases aZ.2 with⟨rfl,h0⟩|⟨g,cap,dz,rfl,hbg,hg,Ko,Fe,Kv,Ys⟩
 ·have ow:w.ownsRow w.heap.size e 1 (.slice none 0 0) n xs:=⟨aZ.1,.inl ⟨rfl,h0⟩⟩
  obtain⟨v2,w2,tT,h22,_⟩:=Lib.run_append_own_string (P:=P) w w.heap.size t u ty e i ht hu hi hz Kz hby (.slice none 0 0) n xs ow s h63 hb (auP _);rw[hr]at tT;injection tT with e1 e2;subst e1 e2;rcases h22.2 with⟨e1,_⟩|⟨g,cap,dz,e1,hbg,_⟩
  ·left;rw[e1]
  ·right;exact⟨g,by rw[e1];rfl,hbg⟩
 ·by_cases lY:n+s.size<=cap
  ·have tT:=Lib.run_append_room_string (P:=P) w t u ty e i ht hu hi Kz g n cap dz hg s lY (by omega);rw[hr]at tT;injection tT with e1 e2
   left;rw[e1];rfl
  ·have R5:xs.length=n:=by simpa using aZ.1
   have holds:∀ j u,xs[j]?=some u->w.cell? ((⟨g,0,none⟩:Addr).add j)=some u:=aZ.cells (g:=g) rfl;have tT:=Lib.run_append_grow_string (P:=P) w t u ty e i (.int .u8 0) ht hu hi hz ⟨g,0,none⟩ n cap xs (by rw[Kz];simpa using R5) holds s (by omega) (by omega) (by rw[hby];exact growslice_fits (by omega) (by omega));rw[hr]at tT;injection tT with e1 e2
   right;exact⟨w.heap.size,by rw[e1];rfl,auP _⟩
theorem kZ {P:Program}{w w':World}{aC:Array Oper}{rest:List Oper}{o:Oper}{a:Act}{Q:Exit->Act->World->Prop}{s x:Operand}{t u:TypeId}{v xv v':Value}
  (bh:(Builtin.append_ #[t,u] o.type #[v,xv]).run P w=.ok v' w') (Cu:o.guard=none) (ho:o.op=.call { callee:=.builtin .append,args:=#[s,x],argTypes:=#[t,u] }) (hs:a.eval s=v) (hx:a.eval x=xv)
  (h:wpList P aC Q rest (a.put o.dst v') w'):wpList P aC Q (o::rest) a w:=
 wpList_plain Cu fun _ hK=>by
  unfold Oper.wp execOp;simp only[ho,resolve,invoke,builtin,Sem.run_bind,Sem.run_pure,Result.andThen_ok,List.map_toArray,auJ,List.map_nil,hs,hx,bh];exact hK _ _ h
theorem LL:liesAt prog prog.depth 302 (8/prog.cellsOf 302) 4 176 1=true:=by kernel_rfl
theorem DH (b:Nat)(w:World)(h0:w.cell? ⟨b,4,none⟩=some (.pointer (some ⟨b,4,none⟩))):
  Calls prog 187 #[.pointer (some ⟨b,4,none⟩)] w fun e w'=>e=.returned (.tuple #[])/\w'=w:=by
 obtain⟨j,hj,_⟩:=avX.1 rL;go_enter func187,ntmps187;go_wp2_with fail;rw[Lib.run_neq_ptr_same w _ underlying174 hj];go_wp2_with fail;go_end0;exact⟨rfl,rfl⟩
theorem Bh (b:Nat)(w:World)(h0:w.cell? ⟨b,4,none⟩=some (.pointer none))(hsh:w.shape? b=some (302,8))(hfz:w.frozen? ⟨b,4,none⟩=false):
  Calls prog 187 #[.pointer (some ⟨b,4,none⟩)] w fun e w'=>e=.returned (.tuple #[])/\w'=w.setCell ⟨b,4,none⟩ (.pointer (some ⟨b,4,none⟩)):=by
 obtain⟨j,hj,hjs⟩:=avX.1 rL;go_enter func187,ntmps187;go_wp2_with fail;rw[Lib.run_to_unsafe w ⟨b,4,none⟩ underlying174 underlying310 hj (by rw[hjs];decide) hsh (by show(4:Nat)<8;decide)];simp only[Result.andThen];rw[Oper.upon_value];go_wp2_with fail;rw[av5 func241 (by kernel_rfl) (by kernel_rfl) (by kernel_rfl) (e:=Extern.AbiNoEscape.same) (by kernel_rfl)];rw[Lib.run_noEscape];simp only[Result.andThen];rw[Oper.upon_value];go_wp2_with fail;rw[Lib.run_from_unsafe w ⟨b,4,none⟩ underlying310 underlying174 hj hsh LL];simp only[Result.andThen];rw[Oper.upon_value];go_wp2_with fail;go_end0;exact⟨rfl,rfl⟩
abbrev kn (x0 x1 x2 x3 pv dv x6 x7:Value):Array Value:=#[x0,x1,x2,x3,pv,dv,x6,x7]
theorem LM {w:World}{b:Nat}{c:Array Value}{t:TypeId}(h:World.blk w b c t):w.shape? b=some (t,c.size):=by
 unfold World.blk at h;simp[World.shape?,h]
theorem GX (b:Nat)(w:World){x0 x1 x2 x3 pv dv x6 x7:Value}(h:World.blk w b (kn x0 x1 x2 x3 pv dv x6 x7) 302)(hp:pv=.pointer none\/pv=.pointer (some ⟨b,4,none⟩)):
  Calls prog 187 #[.pointer (some ⟨b,4,none⟩)] w fun e w'=>e=.returned (.tuple #[])/\World.blk w' b (kn x0 x1 x2 x3 (.pointer (some ⟨b,4,none⟩)) dv x6 x7) 302/\ah (fun g=>g=b) w w':=by
 rcases hp with rfl|rfl
 ·refine(Bh b w (aa h 4) (LM h) (ae h _ rfl)).mono ?_;rintro e w' ⟨rfl,rfl⟩;exact⟨rfl,ag h 4 _,(ah.refl (fun g=>g=b) w).setCell (p:=⟨b,4,none⟩) (.inl rfl) _⟩
 ·refine(DH b w (aa h 4)).mono ?_;rintro e w' ⟨rfl,rfl⟩;exact⟨rfl,h,ah.refl _ _⟩
theorem Qb (b:Nat)(w:World){x0 x1 x2 x3 pv dv x6 x7:Value}(D s:List UInt8)(h:World.blk w b (kn x0 x1 x2 x3 pv dv x6 x7) 302)(hp:pv=.pointer none\/pv=.pointer (some ⟨b,4,none⟩))(ho:bP w 0 dv D)(hn:dv.ownBlock≠some b)(hl:D.length+s.length<=1000000):
  Calls prog 110 #[.pointer (some ⟨b,4,none⟩),.string ⟨s.toArray⟩] w fun e w'=>e=.returned (.tuple #[.int .i64 (s.length:Int),.nilIface])/\∃ FJ,World.blk w' b (kn x0 x1 x2 x3 (.pointer (some ⟨b,4,none⟩)) FJ x6 x7) 302/\bP w' 0 FJ (D++s)/\ah (fun g=>g=b\/dv.ownBlock=some g) w w'/\(FJ.ownBlock=dv.ownBlock\/∃ k,FJ.ownBlock=some k/\w.heap.size<=k):=by
 have rC:({ data:=s.toArray }:ByteArray).size=s.length:=by simp[ByteArray.size]
 obtain⟨i0,hi,nY,mU,oE⟩:=auZ ke;have ajk:(s.length:Int)<=9223372036854775807:=by omega
 have Sf:b<w.heap.size:=ak h;have C:=hd0 (GX b w h hp);have HO:=hd0 ho;have Hl:=hd0 hl;have Hn:=hd0 hn;clear h hp ho hl hn;go_enter func110,ntmps110;go_wp2_with fail;refine C.out.mono ?_;rintro e w1 ⟨rfl,h1,m1⟩;have Tl:bP w1 0 dv D:=aA HO.out (fun g hg=>m1.block g (by
  rcases HO.out.2 with⟨e,_⟩|⟨g',cap,dz,e,_,SZ,_⟩
  ·rw[e]at hg;cases hg
  ·rw[e]at hg;have:g'=g:=by simpa[Value.ownBlock]using hg
   subst this;exact(au7.1 SZ).1) (fun e=>Hn.out (by rw[hg,e])))
 obtain⟨v',w2,bh,aZ,gX,ni⟩:=qp (P:=prog) 131 9 131 5 i0 underlying131 underlying9 hi nY mU oE w1 dv _ _ Tl ⟨s.toArray⟩ (by rw[rC];have:=Hl.out;omega);obtain⟨ao,n',cap,rfl⟩:∃ ao n' cap,v'=.slice ao n' cap:=by
  rcases aZ.2 with⟨hv,_⟩|⟨g,cap,dz,hv,_⟩
  ·exact⟨_,_,_,hv⟩
  ·exact⟨_,_,_,hv⟩
 have h2:=ab gX h1 Hn.out;have e5:w1.cell? ⟨b,5,none⟩=some dv:=aa h1 5;have f5:w2.frozen? ⟨b,5,none⟩=false:=ae h2 _ rfl;have c5:w2.cell? ⟨b,5,none⟩=some dv:=aa h2 5;have H2:=hd0 h2;have HR:=hd0 bh;have zl:=hd0 aZ;have oD:=hd0 gX;have yD:=hd0 m1;have Hat:=hd0 ni;clear h1 h2 bh aZ gX m1 Tl ni hi nY mU oE;go_wp2_with (at_builtin;refine kZ HR.out rfl rfl rfl rfl ?_);go_ret2;have m3:ah (fun g=>g=b) w2 (w2.setCell ⟨b,5,none⟩ (.slice ao n' cap)):=(ah.refl (fun g=>g=b) w2).setCell (p:=⟨b,5,none⟩) (.inl rfl) _;refine⟨rfl,.slice ao n' cap,ag H2.out 5 _,?_,?_,?_⟩
 ·have e:gx (D++s)=gx D++Lib.strCells ⟨s.toArray⟩:=by simp[gx,Lib.strCells]
  have e2:(D++s).length=D.length+(⟨s.toArray⟩:ByteArray).size:=by rw[au3,rC]
  unfold bP;rw[e,e2];refine aA zl.out (fun g hg=>m3.block g ?_ ?_)
  ·rcases zl.out.2 with⟨e,_⟩|⟨g',cap,dz,e,_,SZ,_⟩
   ·rw[e]at hg;cases hg
   ·rw[e]at hg;have:g'=g:=by simpa[Value.ownBlock]using hg
    subst this;exact(au7.1 SZ).1
  ·rintro rfl;rcases Hat.out with h|⟨k,h,hk⟩
   ·rw[hg]at h;exact Hn.out h.symm
   ·rw[hg]at h;cases h;have:=yD.out.size;omega
 ·exact((yD.out.mono (fun _ _ h=>.inl h)).trans oD.out (fun _ _ h=>.inr h)).setCell (p:=⟨b,5,none⟩) (.inl (.inl rfl)) _
 ·rcases Hat.out with h|⟨k,h,hk⟩
  ·exact .inl h
  ·exact .inr ⟨k,h,auI yD.out.size hk⟩
theorem GY {S:Nat->Prop}{w w':World}{p:Addr}(h:ah S w w')(hp:S p.block)(n:Nat):ah S w (w'.freeze p n):=by
 unfold World.freeze;split
 ·exact h
 ·refine⟨h.os,h.tape,h.output,by simpa using h.size,fun k hk hS=>?_⟩;rw[<-h.block k hk hS,Array.getElem?_modify];rw[auV (fun e=>hS (by rw[<-e];exact hp))]
theorem DJ (b:Nat)(w:World){x0 x1 x2 x3 pv dv x6 x7:Value}(D:List UInt8)(h:World.blk w b (kn x0 x1 x2 x3 pv dv x6 x7) 302)(ho:(D=[]/\dv=.slice none 0 0)\/(D≠[]/\bP w 0 dv D)):
  Calls prog 112 #[.pointer (some ⟨b,4,none⟩)] w fun e w'=>e=.returned (.string ⟨D.toArray⟩)/\ah (fun g=>dv.ownBlock=some g) w w':=by
 have c0:w.cell? ⟨b,5,none⟩=some dv:=aa h 5;rcases ho with⟨rfl,rfl⟩|⟨h0,aZ⟩
 ·have Z7:=fun W q=>Lib.run_unsafeString_none (P:=prog) W 266 3 9 q;have hSD:(Builtin.unsafeSliceData_ #[131] 266 #[.slice none 0 0]).run prog w.drew=.ok (.pointer none) w.drew:=rfl;clear h;go_enter func112,ntmps112;go_wp2_with fail
  go_region
  all_goals (go_wp2;go_ret;exact⟨rfl,(ah.refl _ w).drew⟩)
 ·have uN:D.length≠0:=by simpa using h0
  obtain⟨g,cap,dz,rfl,hbg,hg,Ko,Fe,Kv,Ys⟩:∃ g cap dz,dv=.slice (some ⟨g,0,none⟩) D.length cap/\0<=g/\w.heap[g]?=some (.cells dz 5 (0,0))/\D.length<=cap/\cap<=maxLen/\dz.size=cap*1/\dz.toList.take (D.length*1)=gx D:=by
   rcases aZ.2 with⟨_,hz⟩|⟨g,cap,dz,hv,r⟩
   ·exact absurd hz uN
   ·exact⟨g,cap,dz,hv,r⟩
  have hSD:(Builtin.unsafeSliceData_ #[131] 266 #[.slice (some ⟨g,0,none⟩) D.length cap]).run prog w.drew=.ok (.pointer (some ⟨g,0,none⟩)) w.drew:=
   Lib.run_unsafeSliceData_row _ _ _ _ _ _ (by omega)
  have Z7:(Builtin.unsafeString_ #[266,3] 9 #[.pointer (some ⟨g,0,none⟩),.int .i64 D.length]).run prog w.drew=.ok (.string ⟨D.toArray⟩) (w.drew.freeze ⟨g,0,none⟩ D.length):=by
   refine Lib.run_unsafeString_row w.drew 266 3 9 5 underlying266 (by kernel_rfl) g dz.size (by have hg':w.drew.heap[g]?=some (.cells dz 5 (0,0)):=hg;simp[World.shape?,hg']) D h0 (by omega) (by unfold maxLen at Fe;omega) ?_;intro j x hx;have:=aZ.cells (g:=g) rfl j (.int .u8 x.toNat) (by simp[gx,hx]);exact this
  clear h aZ hg Ys;go_enter func112,ntmps112;go_wp2_with fail
  go_region
  all_goals (go_wp2;go_ret;exact⟨rfl,GY (S:=fun g'=>(Value.slice (some ⟨g,0,none⟩) D.length cap).ownBlock=some g') (p:=⟨g,0,none⟩) ((ah.refl _ w).drew) rfl _⟩)
end
end Go.Proofs.YtkghpdcloaiflaaGreatDoor
