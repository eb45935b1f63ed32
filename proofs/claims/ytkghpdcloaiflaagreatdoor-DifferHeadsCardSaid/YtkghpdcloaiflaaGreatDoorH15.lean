import Derived.Test.YtkghpdcloaiflaaGreatDoorH08
import Derived.Test.YtkghpdcloaiflaaGreatDoorH14
set_option maxHeartbeats 4000000
set_option maxRecDepth 100000
namespace Go.Proofs.YtkghpdcloaiflaaGreatDoor
open _root_.Go.Proofs.Tryz
variable {P:Program}{base k m size:Nat}{dv pv v x0 x1 x2 x3 x6 x7:Value}{w w':World}{x:Int}
section
open Go.RowKit Go.Shelf
attribute [local go_sem] av0
theorem ZK (n each:Nat)(w:World)(hn:n<=1000000)(he:1<=each/\each<=1000):
  Calls prog 305 #[.int .i64 (n:Int),.int .i64 (each:Int)] w λe w'=>e=.returned (.int .i64 ((bQ n each:Nat):Int))/\w=w':=by
 have e1:((bQ n each:Nat):Int)=((n:Int)+(each:Int)-1)/(each:Int):=by
  have e:((n+each-1:Nat):Int)=(n:Int)+(each:Int)-1:=J
  unfold bQ;rw[Int.natCast_ediv,e]
 have e2:((n:Int)+(each:Int)-1).tdiv (each:Int)=((n:Int)+(each:Int)-1)/(each:Int):=axf J;have e3:¬(each:Int)=0:=J
 have b1:(n:Int)<=1000000:=J
 have b2:(each:Int)<=1000:=J
 have b3:(1:Int)<=each:=J
 have hq:((n:Int)+(each:Int)-1)/(each:Int)<=1001000:=by
  refine Int.le_trans (Int.ediv_le_self _ J) J
 have hq0:(0:Int)<=((n:Int)+(each:Int)-1)/(each:Int):=Int.ediv_nonneg J J;go_enter func305,ntmps305;go_wp2;go_ret;exact⟨by rw[e1];rfl,rfl⟩
theorem rP (size:Nat):(ax size).length<=3:=by
 unfold ax;simp only;split
 ·simp
 ·split
  ·simp
  ·split<;>simp
theorem oM (hs:size<=16384):∀ n∈ax size,1<=n/\n<=69:=by
 have h1:bQ size 240<=69:=(aL dc7).2 J;intro n hn;rcases aN size with⟨_,e⟩|⟨h2,_,e⟩|⟨h2,_,e⟩|⟨h2,e⟩<;>rw[e]at hn
 ·simp at hn
 ·simp at hn;omega
 ·have:1<bQ size 240:=by
   apply awZ;intro hc;have:=(aL (n:=size) (each:=240) (k:=1) dc7).1 J;omega
  simp at hn;omega
 ·have h3:60<bQ size 240:=by
   apply awZ;intro hc;have:=(aL (n:=size) (each:=240) (k:=60) dc7).1 J;omega
  have h4:bQ (bQ size 240) 60=2:=by
   have a:=(aL (n:=bQ size 240) (each:=60) (k:=2) dc7).2 J;have b:¬ bQ (bQ size 240) 60<=1:=λhc=>by
    have:=(aL (n:=bQ size 240) (each:=60) (k:=1) dc7).1 hc;omega
   omega
  simp at hn;omega
theorem LQ (hs:size<=16384)(hk:k<(ax size).length):(ax size).getD k 0=1↔k+1=(ax size).length:=by
 rcases aN size with⟨_,e⟩|⟨h2,_,e⟩|⟨h2,_,e⟩|⟨h2,e⟩<;>rw[e]at hk ⊢
 ·simp at hk
 ·simp at hk;subst hk;simp
 ·have:1<bQ size 240:=by
   apply awZ;intro hc;have:=(aL (n:=size) (each:=240) (k:=1) dc7).1 J;omega
  simp at hk;rcases(by omega:k=0\/k=1)with rfl|rfl
  ·simp;omega
  ·simp
 ·have h3:60<bQ size 240:=by
   apply awZ;intro hc;have:=(aL (n:=size) (each:=240) (k:=60) dc7).1 J;omega
  have h4:1<bQ (bQ size 240) 60:=by
   apply awZ;intro hc;have:=(aL (n:=bQ size 240) (each:=60) (k:=1) dc7).1 J;omega
  simp at hk;rcases(by omega:k=0\/k=1\/k=2)with rfl|rfl|rfl
  ·simp;omega
  ·simp;omega
  ·simp
theorem mX:(ax size).getD 0 0=bQ size 240:=by
 unfold ax;simp only;split
 ·simp[*]
 ·split
  ·simp[*]
  ·split<;>simp
theorem Vt (w:World)(t:TypeId)(base:Nat)(v:Value)(hb:base<=w.heap.size):(w.alloc (.cells #[v] t)).ownsRow base t 1 (.slice (some ⟨w.heap.size,0,none⟩) 1 1) 1 [v]:=
 ⟨rfl,.inr ⟨w.heap.size,1,#[v],rfl,hb,av w _ _,av9 _,by decide,rfl,rfl⟩⟩
theorem qN (size:Nat)(w:World)(hs:size<=16384):
  Calls prog 267 #[.int .i64 (size:Int)] w λe w'=>∃ v,e=.returned v/\aO w' w.heap.size v (gh (ax size))/\af w w':=by
 have U:=λ(n each:Nat) (h1:n<=1000000) (h2:1<=each/\each<=1000) W=>ZK n each W h1 h2;obtain⟨HU,U1⟩:=K2 U (U size 240 J J);have H0:Hid (bQ size 240=0->ax size=[]):=Z (λh=>by unfold ax;simp[h]);have H1:Hid (bQ size 240≠0->1<=(ax size).length):=Z (λh=>by unfold ax;simp only;rw[awf h];split<;>(try split)<;>simp);obtain⟨HL,HM,HUp,H3,HF⟩:=K5 (λk (h:k<(ax size).length)=>LQ hs h) (oM hs) (mo size hs) (rP size) (mX (size:=size));have yo:bQ size 240<=69:=(aL dc7).2 J;generalize ax size=L at*;generalize hq:bQ size 240=q at*;have Hq:=Z hq;clear hq U hs;go_enter func267,ntmps267;go_wp2_with fail;refine(U1.o _).mono ?_;rintro e w1 ⟨rfl,rfl⟩;by_cases h0:q=0
 ·have hL:=H0.o h0;subst h0;go_wp2;go_ret;rw[hL];exact⟨_,rfl,⟨rfl,.inl ⟨rfl,rfl⟩⟩,ai.refl _ _⟩
 ·have OG:(((q:Nat):Int)==0)=false:=by simp;omega
  have h1:=H1.o h0;have e0:Hid (L.take 1=[q]):=Z (by
   have:=HF.o;rcases L with _|⟨a,r⟩
   ·simp at h1
   ·simp at this;subst this;rfl)
  go_wp2_with fail;have HO:=Z (Vt w 3 w.heap.size (.int .i64 (q:Int)) (av9 _))
  go_loopw [3,4] (λn v wr=>∃ k:Nat,1<=k/\k<=L.length/\n=.int .i64 ((L.getD (k-1) 0:Nat):Int)/\aO wr w.heap.size v (gh (L.take k))/\af w wr) (λn _ _=>(intOf n).toNat)
  case atStart=>exact⟨1,J,h1,by rw[<-HF.o],by rw[e0.o];exact HO.o,(ai.refl _ w).alloc _⟩
  case round=>
   clear HO e0;obtain⟨k,hk1,dK,rfl,ho,hK⟩:=hrel;have gx:=HM.o (L.getD (k-1) 0) (by rw[axm,av6 J];exact awF _);have SJ:=HL.o (k-1) J;obtain⟨HO,HK⟩:=K2 ho hK;clear ho hK;by_cases hk:k=L.length
   ·have hx:L.getD (k-1) 0=1:=SJ.2 J;rw[hx];go_wp2;go_ret;refine⟨_,rfl,?_,HK.o⟩;have:=HO.o;rw[hk,awa]at this;exact this
   ·have hx:¬ L.getD (k-1) 0=1:=λh=>by have:=SJ.1 h;omega
    obtain⟨x,Sz⟩:∃ x,L.getD (k-1) 0=x:=⟨_,rfl⟩
    have pn:=HUp.o (k-1) J;rw[show k-1+1=k by omega]at pn;rw[Sz]at pn gx hx ⊢;have UX:=Z (HU.o x 60 J J);rw[<-pn]at UX;have hxi:(1:Int)<(x:Int):=J
    have aen:=HM.o (L.getD k 0) (by rw[axm,av6 J];exact awF _);have Hxd:=Z (show L.getD k 0<x from by
     rw[pn];have:=(aL (n:=x) (each:=60) (k:=x-1) dc7).2 J;omega)
    obtain⟨yk,Hxx⟩:=K2 pn Sz;have Het:Hid (gh (L.take (k+1))=gh (L.take k)++[(L.getD k 0:Int)]):=Z (by
     unfold gh;rw[List.take_succ_eq_append_getElem (show k<L.length by omega),List.map_append];simp only[av3,List.map_nil,axm,av6 (show k<L.length by omega),awG])
    obtain⟨y,hy⟩:∃ y,L.getD k 0=y:=⟨_,rfl⟩
    rw[hy]at UX aen Hxd Het;have Hy:=Z hy;clear pn Sz SJ hy hx;go_wp2_with fail;refine(UX.o _).mono ?_;rintro e w2 ⟨rfl,rfl⟩;have bt:(gh (L.take k)).length<=3:=by have:=H3.o;simp[gh];omega
    have Ha:=Z (kv (P:=prog) underlying46 iQ rfl w.heap.size u4 _ _ wr w HO.o [.int .i64 (y:Int)] (by simp[Value.oneCell']) (by unfold maxLen;show(gh (L.take k)).length+1<=_;omega) (by show((gh (L.take k)).length+1)*8<=_;omega) HK.size HK.o (av9 _));obtain⟨v',w3,bN,bC,dr,_⟩:=Ha.o;obtain⟨HR,Ot,ez⟩:=K3 bN (j6 bC) dr;clear bN bC dr Ha;go_wp2_with (at_builtin;refine aB HR.o rfl rfl rfl rfl ?_)
    go_roundw
    case rel=>exact⟨k+1,J,J,by rw[show k+1-1=k by omega,Hy.o],by rw[Het.o];exact Ot.o,ez.o⟩
    case measure=>have:=Hxd.o;simp[intOf];omega
theorem Bg (a b s:Nat)(ha:a<2 ^ s)(hb:a+b*2 ^ s<9223372036854775808):bits .or .i64 (a:Int) ((b*2 ^ s:Nat):Int)=((a+b*2 ^ s:Nat):Int):=by
 have e:=Nat.two_pow_add_eq_or_of_lt ha b;rw[Nat.mul_comm,Nat.or_comm]at e;have e1:(BitVec.ofInt 64 (a:Int)|||BitVec.ofInt 64 ((b*2 ^ s:Nat):Int)).toNat=a+b*2 ^ s:=by
  rw[BitVec.ofInt_natCast,BitVec.ofInt_natCast,BitVec.toNat_or,BitVec.toNat_ofNat,BitVec.toNat_ofNat,axt J,axt J,<-e];omega
 show IntKind.i64.wrap (((BitVec.ofInt 64 (a:Int)|||BitVec.ofInt 64 ((b*2 ^ s:Nat):Int)).toNat:Nat):Int)=_;rw[e1,IntKind.wrap_i64];omega
def DU (s:ay)(k:Nat):Nat:=(s.getD (4*k) 0).toNat+256*(s.getD (4*k+1) 0).toNat+65536*(s.getD (4*k+2) 0).toNat+16777216*(s.getD (4*k+3) 0).toNat
theorem wI:∀(m:Nat) (s:ay),s.length=4*m->co s=(List.range m).map λk=>(DU s k:Int)
 |0,s,h=>by
  have:s=[]:=awD.1 J;subst this;rfl
 |m+1,s,h=>by
  match s,h with
  |a::b::c::d::r,h=>
   have ih:=wI m r (by simp at h;omega);rw[co,ih,List.range_succ_eq_map,av3,awv]
   congr 1
  |[],h=>simp at h
  |[_],h=>simp at h;omega
  |[_,_],h=>simp at h;omega
  |[_,_,_],h=>simp at h;omega
theorem wJ {s:ay}(h:s.length=4*m):(co s).length=m:=by rw[wI m s h];simp
theorem LR {s:ay}(h:s.length=4*m)(hk:k<m):(co s).take (k+1)=(co s).take k++[(DU s k:Int)]:=by
 rw[wI m s h,List.take_succ_eq_append_getElem (by simpa using hk)];simp
theorem Bh (s:List UInt8)(m:Nat)(w:World)(hs:s.length=4*m)(hm:m<=100000):
  Calls prog 306 #[.string ⟨s.toArray⟩] w λe w'=>∃ v,e=.returned v/\aO w' w.heap.size v (co s)/\af w w':=by
 have Hl:=Z (wJ hs);have hT:=λk (h:k<m)=>LR hs h;obtain⟨HT,Hs⟩:=K2 hT hs;have hsi:(s.length:Int)=4*(m:Int):=J
 generalize hP:co s=P at*;clear hT hP hs;go_enter func306,ntmps306;go_wp2_with fail
 go_loopw [3,4] (λv i wr=>∃ k:Nat,k<=m/\i=.int .i64 (4*(k:Int))/\aO wr w.heap.size v (P.take k)/\af w wr) (λ_ i _=>4*m-(intOf i).toNat)
 case atStart=>exact⟨0,J,rfl,⟨rfl,.inl ⟨rfl,rfl⟩⟩,ai.refl _ _⟩
 case round=>
  obtain⟨k,hk,rfl,ho,hK⟩:=hrel;obtain⟨HO,HK⟩:=K2 ho hK;clear ho hK;by_cases aP:k<m
  ·have dL:4*(k:Int)<4*(m:Int):=J
   have TT:(k:Int)<=100000:=J
   have g:=λj (hj:j<4)=>(show s[4*k+j]?=some (s.getD (4*k+j) 0) by have:=Hs.o;rw[axm,av6 J];rfl)
   have g0:=g 0 J;have g1:=g 1 J;have g2:=g 2 J;have g3:=g 3 J;have UJ:Hid (DU s k=(s.getD (4*k+0) 0).toNat+256*(s.getD (4*k+1) 0).toNat+65536*(s.getD (4*k+2) 0).toNat+16777216*(s.getD (4*k+3) 0).toNat):=Z rfl;generalize s.getD (4*k+0) 0=b0 at*;generalize s.getD (4*k+1) 0=b1 at*;generalize s.getD (4*k+2) 0=b2 at*;generalize s.getD (4*k+3) 0=b3 at*;have l0:=b0.toNat_lt;have l1:=b1.toNat_lt;have l2:=b2.toNat_lt;have l3:=b3.toNat_lt;have rf:=aM (P:=prog) underlying9 s .i64 (4*(k:Int)) b0 J (by rw[show(4*(k:Int)).toNat=4*k+0 by omega];exact g0);have Cs:=aM (P:=prog) underlying9 s .i64 (4*(k:Int)+1) b1 J (by rw[show(4*(k:Int)+1).toNat=4*k+1 by omega];exact g1);have vg:=aM (P:=prog) underlying9 s .i64 (4*(k:Int)+2) b2 J (by rw[show(4*(k:Int)+2).toNat=4*k+2 by omega];exact g2);have YV:=aM (P:=prog) underlying9 s .i64 (4*(k:Int)+3) b3 J (by rw[show(4*(k:Int)+3).toNat=4*k+3 by omega];exact g3);have w1:IntKind.i64.wrap (4*(k:Int)+1)=4*(k:Int)+1:=eZ J;have w2:IntKind.i64.wrap (4*(k:Int)+2)=4*(k:Int)+2:=eZ J;have w3:IntKind.i64.wrap (4*(k:Int)+3)=4*(k:Int)+3:=eZ J;have o1:=Bg b0.toNat b1.toNat 8 J J;have o2:=Bg (b0.toNat+b1.toNat*2 ^ 8) b2.toNat 16 J J;have o3:=Bg (b0.toNat+b1.toNat*2 ^ 8+b2.toNat*2 ^ 16) b3.toNat 24 J J;have Of:bits .or .i64 (bits .or .i64 (bits .or .i64 (IntKind.i64.wrap (b0.toNat:Int)) (IntKind.i64.wrap (IntKind.i64.wrap (b1.toNat:Int)*256))) (IntKind.i64.wrap (IntKind.i64.wrap (b2.toNat:Int)*65536))) (IntKind.i64.wrap (IntKind.i64.wrap (b3.toNat:Int)*16777216))=((DU s k:Nat):Int):=by
    have a0:IntKind.i64.wrap (b0.toNat:Int)=(b0.toNat:Int):=eZ J;have a1:IntKind.i64.wrap (b1.toNat:Int)=(b1.toNat:Int):=eZ J;have a2:IntKind.i64.wrap (b2.toNat:Int)=(b2.toNat:Int):=eZ J;have a3:IntKind.i64.wrap (b3.toNat:Int)=(b3.toNat:Int):=eZ J;have c1:IntKind.i64.wrap ((b1.toNat:Int)*256)=((b1.toNat*2 ^ 8:Nat):Int):=by rw[eZ J];omega
    have c2:IntKind.i64.wrap ((b2.toNat:Int)*65536)=((b2.toNat*2 ^ 16:Nat):Int):=by rw[eZ J];omega
    have c3:IntKind.i64.wrap ((b3.toNat:Int)*16777216)=((b3.toNat*2 ^ 24:Nat):Int):=by rw[eZ J];omega
    rw[a0,a1,a2,a3,c1,c2,c3,o1,o2,o3,UJ.o];omega
   have aj9:=Z Of;clear g g0 g1 g2 g3 Of o1 o2 o3;have BZ:=Z (HT.o k aP);have bt:(P.take k).length<=100000:=by have:=Hl.o;simp;omega
   go_wp2_with fail;refine im 1 26 kr7 kr7 (λ_ o _ _ _ h=>by cases o<;>exact h) ?_;simp only[awS,awT,awU,awV];refine fq (λL hL=>?_)
   go_simp
   first|refine hL _ ?_|refine⟨_,λ_=>rfl,hL _ ?_⟩
   clear hL L;refine ko ?_
   repeat (quiet_step (fail))
   refine awX ?_;intro _ bD;obtain⟨xq,rfl⟩:=bD;rw[aj9.o];have zi:Hid (aO (wr.ext xq) w.heap.size u3 (P.take k)):=Z (ip HO.o (aC wr xq));have bJ:Hid (af w (wr.ext xq)):=Z (HK.keep (aC wr xq));obtain⟨W,hW⟩:∃ W,wr.ext xq=W:=⟨_,rfl⟩
   rw[hW]at zi bJ ⊢;obtain⟨y,hy⟩:∃ y,((DU s k:Nat):Int)=y:=⟨_,rfl⟩
   rw[hy]at BZ ⊢;have Ha:=kv (P:=prog) underlying46 iQ rfl w.heap.size u3 _ _ W w zi.o [.int .i64 y] (by simp[Value.oneCell']) (by unfold maxLen;show(P.take k).length+1<=_;omega) (by show((P.take k).length+1)*8<=_;omega) bJ.size bJ.o (av9 _);obtain⟨v',w3',bN,bC,dr,_⟩:=Ha;obtain⟨HR,Ot,ez⟩:=K3 bN (j6 bC) dr;clear bN bC dr hW hy zi bJ HK HO rf Cs vg YV w1 w2 w3;go_wp2_with (at_builtin;refine aB HR.o rfl rfl rfl rfl ?_)
   go_roundw
   case rel=>exact⟨k+1,J,by go_num,by rw[BZ.o];exact Ot.o,ez.o⟩
   case measure=>simp[intOf];omega
  ·obtain rfl:k=m:=J
   go_wp2;go_ret;have:=HO.o;rw[<-Hl.o,awa]at this;exact⟨_,rfl,this,HK.o⟩
theorem Vu {n sz:Nat}{t:TypeId}{a:Option Addr}{cap:Nat}{xs:List Value}(h:w.ownsRow base t sz (.slice a n cap) m xs):n<=cap:=by
 rcases h.2 with⟨e,_⟩|⟨g,c,dW,e,_,_,h3,_⟩
 ·injection e with e1 e2 e3;omega
 ·injection e with e1 e2 e3;omega
theorem LT (l:List Int)(h:l[k]?=some x):cM (l.take (k+1))=cM (l.take k)++XJ x:=by
 have hk:=(awk.1 h).1;have hx:=(awk.1 h).2;unfold cM;rw[List.take_succ_eq_append_getElem hk,awm,hx];simp
theorem Vv (h:0<=x/\x<4294967296):gg (XJ x)=[.int .u8 (x%256),.int .u8 (x/256%256),.int .u8 (x/65536%256),.int .u8 (x/16777216)]:=by
 obtain⟨n,rfl⟩:=Int.eq_ofNat_of_zero_le h.1;simp only[XJ,gg,av3,List.map_nil,awH];have e:=λm=>(show((UInt8.ofNat (m%256)).toNat:Int)=(m:Int)%256 by simp)
 rw[e,e,e,e];have e24:((n/16777216:Nat):Int)%256=(n:Int)/16777216:=J
 rw[e24];simp only[Int.natCast_ediv];rfl
theorem Ib {l m:List UInt8}(h:w.ownsRow base 5 1 v (l.length+(gg m).length) (gg l++gg m)):bR w base v (l++m):=by
 have e:gg (l++m)=gg l++gg m:=by simp[gg]
 have e2:(l++m).length=l.length+(gg m).length:=by simp[gg]
 unfold bR;rw[e,e2];exact h
theorem DV (l:List Int)(v:Value)(w:World)(hv:eg w v (bu l))(hl:l.length<=100000)(hr:∀ n∈l,0<=n/\n<4294967296):
  Calls prog 270 #[v] w λe w'=>e=.returned (.string ⟨(cM l).toArray⟩)/\af w w':=by
 obtain⟨a,cap,rfl,hx⟩:=hv;rw[fK];obtain⟨HX,HR⟩:=K2 hx hr;have FK:(l.length:Int)<=100000:=J
 clear hx hr;go_enter func270,ntmps270;go_wp2_with fail
 go_loopw [3,8] (λu i wr=>∃ k:Nat,k<=l.length/\i=.int .i64 (k:Int)/\bR wr w.heap.size u (cM (l.take k))/\af w wr) (λ_ i _=>l.length-(intOf i).toNat)
 case atStart=>exact⟨0,J,rfl,⟨rfl,.inl ⟨rfl,rfl⟩⟩,ai.refl _ _⟩
 case round=>
  obtain⟨k,hk,rfl,ho,hK⟩:=hrel;obtain⟨HO,HK⟩:=K2 ho hK;clear ho hK;by_cases aP:k<l.length
  ·have dL:(k:Int)<(l.length:Int):=J
   obtain⟨x,Sz⟩:∃ x,l[k]?=some x:=⟨_,av6 aP⟩
   obtain⟨b,o,rfl,hc⟩:=HX.o k (.int .i64 x) (by simp[bu,Sz]);have c0:wr.cell? ⟨b,o+k,none⟩=some (.int .i64 x):=by rw[HK.cell (p:=⟨b,o+k,none⟩) (am hc) id];exact hc
   have rf:=HR.o x (av7 Sz);have Cs:=rf.1;have vg:=rf.2;obtain⟨Hu,Ht⟩:=K2 (Vv rf) (LT l Sz);have bt:(cM (l.take k)).length<=400000:=by rw[ws];simp;omega
   have Ha:=Z (kv (P:=prog) underlying131 jT rfl w.heap.size u3 _ _ wr w HO.o (gg (XJ x)) (λu hu=>by simp only[gg,awB]at hu;obtain⟨y,_,rfl⟩:=hu;rfl) (by unfold maxLen;show(cM (l.take k)).length+4<=_;omega) (by show((cM (l.take k)).length+4)*1<=_;omega) HK.size HK.o (av9 _));obtain⟨v',w3,bN,bC,dr,_⟩:=Ha.o;have Ot:=Z (Ib bC);rw[Hu.o]at bN;obtain⟨Ji,ez⟩:=K2 bN dr;clear bN bC dr Ha hc rf Sz;go_wp2_with (at_builtin;refine aB Ji.o rfl rfl rfl rfl ?_)
   go_roundw
   case rel=>exact⟨k+1,J,by go_num,by rw[Ht.o];exact Ot.o,ez.o⟩
   case measure=>simp[intOf];omega
  ·obtain rfl:k=l.length:=J
   have bN:=ls (by have h:=HO.o;rw[awa]at h;exact h);go_wp2;go_ret;exact⟨rfl,HK.o⟩
theorem zL (s:List UInt8)(i:Nat)(w:World)(hs:s.length<=100000)(hi:i<=100000):
  Calls prog 268 #[.string ⟨s.toArray⟩,.int .i64 (i:Int)] w λe w'=>e=.returned (.string ⟨(aQ s i).toArray⟩)/\af w w':=by
 have hsi:(s.length:Int)<=100000:=J
 have hii:(i:Int)<=100000:=J
 have w1:IntKind.i64.wrap ((i:Int)*240)=(i:Int)*240:=eZ J;have w2:IntKind.i64.wrap ((i:Int)*240+240)=(i:Int)*240+240:=eZ J;by_cases h:i*240<s.length
 ·have h1:¬(s.length:Int)<=(i:Int)*240:=J
  have hcut:=λW=>AX s (i*240) (min s.length (i*240+240)) ((i:Int)*240) (min (s.length:Int) ((i:Int)*240+240)) J J J J W;have e:min s.length (i*240+240)-i*240=min (s.length-i*240) 240:=J
  have e2:(s.drop (i*240)).take (min s.length (i*240+240)-i*240)=aQ s i:=by
   rw[e];unfold aQ;rw[List.take_eq_take_iff];simp;omega
  have e2':=e2;clear hcut e e2;go_enter func268,ntmps268;go_wp2;go_ret;refine⟨?_,ai.refl _ _⟩;have e3:(min (s.length:Int) ((i:Int)*240+240)).toNat=min s.length (i*240+240):=J
  show Ending.returned (.string ⟨((s.drop (i*240)).take ((min (s.length:Int) ((i:Int)*240+240)).toNat-i*240)).toArray⟩)=_;rw[e3,e2']
 ·have h1:(s.length:Int)<=(i:Int)*240:=J
  have e:aQ s i=[]:=by unfold aQ;rw[axu J];rfl
  rw[e];go_enter func268,ntmps268;go_wp2;go_ret;exact⟨rfl,ai.refl _ _⟩
theorem zM (l:List Int)(i:Nat)(v:Value)(w:World)(base:Nat)(hv:aO w base v l)(hl:l.length<=100000)(hi:60*i<l.length):
  Calls prog 271 #[v,.int .i64 (i:Int)] w λe w'=>∃ v',e=.returned v'/\eg w' v' (bu (aY l i))/\w=w':=by
 obtain⟨a,cap,rfl,hx⟩:=bh hv;rw[fK]at hv;have On:=Vu hv;have bt:(aY l i).length=min (l.length-i*60) 60:=kc l i;obtain⟨b,o,rfl,_⟩:=hx 0 (.int .i64 (l.getD 0 0)) (by unfold bu;rw[aw5,axm,av6 J];rfl);have FK:(l.length:Int)<=100000:=J
 have hii:(i:Int)<=100000:=J
 have w1:IntKind.i64.wrap ((i:Int)*60)=(i:Int)*60:=eZ J;have w2:IntKind.i64.wrap ((i:Int)*60+60)=(i:Int)*60+60:=eZ J;have m1:min (l.length:Int) ((i:Int)*60)=(i:Int)*60:=J
 obtain⟨q,hq⟩:∃ q,min l.length (i*60+60)=q:=⟨_,rfl⟩
 have m2:min (l.length:Int) ((i:Int)*60+60)=(q:Int):=J
 have q1:i*60<=q:=J
 have q2:q<=cap:=J
 have q1i:(i:Int)*60<=(q:Int):=J
 have q2i:(q:Int)<=(cap:Int):=J
 obtain⟨Hx,Hl,Hq⟩:=K3 hx bt hq;clear hx hv bt hq;rw[fK];go_enter func271,ntmps271;go_wp2;go_ret;refine⟨_,rfl,?_,rfl⟩;have e1:(bu (aY l i)).length=q-i*60:=by rw[fK,Hl.o,<-Hq.o];omega
 refine⟨some ⟨b,o+i*60,none⟩,cap-i*60,by rw[e1];rfl,λj x hj=>⟨b,o+i*60,rfl,?_⟩⟩;have hj2:j<q-i*60:=by rw[<-e1];exact(awk.1 hj).1
 have h2:(bu l)[i*60+j]?=some x:=by
  unfold bu aY at hj;rw[aw5,List.getElem?_take,axd]at hj;split at hj
  ·unfold bu;rw[aw5];exact hj
  ·cases hj
 obtain⟨b',o',e2,hc⟩:=Hx.o _ _ h2;injection e2 with e2;injection e2 with e3 e4;subst e3 e4;rw[awl];exact hc
end
section
open Go.RowKit
theorem qc (t u ty e:TypeId)(i:TypeInfo)(ht:P.underlying t=some (.slice e))(hu:P.underlying u=some .string)(hi:P.info? e=some i)(hz:i.zero=some (.int .u8 0))
  (KV:i.size=1) (hby:i.bytes=1) (w:World) (v:Value) (n:Nat) (xs:List Value) (bC:w.ownsRow 0 e 1 v n xs) (s:ByteArray) (hb:n+s.size<=140737488355328):
  ∃ v' w',(Builtin.append_ #[t,u] ty #[v,.string s]).run P w=.ok v' w'/\w'.ownsRow 0 e 1 v' (n+s.size) (xs++Lib.strCells s)/\ai (λg=>v.ownBlock=some g) w w'/\(v'.ownBlock=v.ownBlock\/∃ k,v'.ownBlock=some k/\w.heap.size<=k):=by
 have h63:n+s.size<=maxLen:=by unfold maxLen;omega
 obtain⟨v',w',hr,h2,h3,h4⟩:=Lib.run_append_own_string (P:=P) w 0 t u ty e i ht hu hi hz KV hby v n xs bC s h63 hb (awP _);refine⟨v',w',hr,h2,ai.grown (ai.refl _ w) h3 (λk hk=>.inl hk),?_⟩;rcases bC.2 with⟨rfl,h0⟩|⟨g,cap,dW,rfl,hbg,hg,Xn,CA,YE,YF⟩
 ·have nV:w.ownsRow w.heap.size e 1 (.slice none 0 0) n xs:=⟨bC.1,.inl ⟨rfl,h0⟩⟩
  obtain⟨v2,w2,nU,h22,_⟩:=Lib.run_append_own_string (P:=P) w w.heap.size t u ty e i ht hu hi hz KV hby (.slice none 0 0) n xs nV s h63 hb (av9 _);rw[hr]at nU;injection nU with e1 e2;subst e1 e2;rcases h22.2 with⟨e1,_⟩|⟨g,cap,dW,e1,hbg,_⟩
  ·left;rw[e1]
  ·right;exact⟨g,by rw[e1];rfl,hbg⟩
 ·by_cases lI:n+s.size<=cap
  ·have nU:=Lib.run_append_room_string (P:=P) w t u ty e i ht hu hi KV g n cap dW hg s lI J;rw[hr]at nU;injection nU with e1 e2
   left;rw[e1];rfl
  ·have TZ:xs.length=n:=by simpa using bC.1
   have holds:∀ j u,xs[j]?=some u->w.cell? ((⟨g,0,none⟩:Addr).add j)=some u:=bC.cells (g:=g) rfl;have nU:=Lib.run_append_grow_string (P:=P) w t u ty e i (.int .u8 0) ht hu hi hz ⟨g,0,none⟩ n cap xs (by rw[KV];simpa using TZ) holds s J J (by rw[hby];exact growslice_fits J J);rw[hr]at nU;injection nU with e1 e2
   right;exact⟨w.heap.size,by rw[e1];rfl,av9 _⟩
theorem kI {aF:Array Oper}{rest:List Oper}{o:Oper}{a:Act}{Q:Exit->Act->World->Prop}{s x:Operand}{t u:TypeId}{xv v':Value}
  (bN:(Builtin.append_ #[t,u] o.type #[v,xv]).run P w=.ok v' w') (O0:o.guard=none) (ho:o.op=.call { callee:=.builtin .append,args:=#[s,x],argTypes:=#[t,u] }) (hs:a.eval s=v) (hx:a.eval x=xv)
  (h:wpList P aF Q rest (a.put o.dst v') w'):wpList P aF Q (o::rest) a w:=
 wpList_plain O0 λ_ hK=>by
  unfold Oper.wp execOp;simp only[ho,resolve,invoke,builtin,Sem.run_bind,Sem.run_pure,Result.andThen_ok,List.map_toArray,av3,List.map_nil,hs,hx,bN];exact hK _ _ h
theorem LU:liesAt prog prog.depth 302 (8/prog.cellsOf 302) 4 176 1=true:=kr7
theorem DW (b:Nat)(w:World)(h0:w.cell? ⟨b,4,none⟩=some (.pointer (some ⟨b,4,none⟩))):
  Calls prog 187 #[.pointer (some ⟨b,4,none⟩)] w λe w'=>e=.returned (.tuple #[])/\w'=w:=by
 obtain⟨j,hj,_⟩:=axg.1 rH;go_enter func187,ntmps187;go_wp2_with fail;rw[Lib.run_neq_ptr_same w _ underlying174 hj];go_wp2_with fail;go_end0;exact⟨rfl,rfl⟩
theorem Bi (b:Nat)(w:World)(h0:w.cell? ⟨b,4,none⟩=some (.pointer none))(hsh:w.shape? b=some (302,8))(hfz:w.frozen? ⟨b,4,none⟩=false):
  Calls prog 187 #[.pointer (some ⟨b,4,none⟩)] w λe w'=>e=.returned (.tuple #[])/\w'=w.setCell ⟨b,4,none⟩ (.pointer (some ⟨b,4,none⟩)):=by
 obtain⟨j,hj,hjs⟩:=axg.1 rH;go_enter func187,ntmps187;go_wp2_with fail;rw[Lib.run_to_unsafe w ⟨b,4,none⟩ underlying174 underlying310 hj (by rw[hjs];decide) hsh (by show(4:Nat)<8;decide)];simp only[Result.andThen];rw[Oper.upon_value];go_wp2_with fail;rw[axn func241 kr7 kr7 kr7 (e:=Extern.AbiNoEscape.same) kr7];rw[Lib.run_noEscape];simp only[Result.andThen];rw[Oper.upon_value];go_wp2_with fail;rw[Lib.run_from_unsafe w ⟨b,4,none⟩ underlying310 underlying174 hj hsh LU];simp only[Result.andThen];rw[Oper.upon_value];go_wp2_with fail;go_end0;exact⟨rfl,rfl⟩
abbrev jY (x0 x1 x2 x3 pv dv x6 x7:Value):Array Value:=#[x0,x1,x2,x3,pv,dv,x6,x7]
theorem LW {b:Nat}{c:Array Value}{t:TypeId}(h:World.blk w b c t):w.shape? b=some (t,c.size):=by
 unfold World.blk at h;simp[World.shape?,h]
theorem Ic (b:Nat)(w:World)(h:World.blk w b (jY x0 x1 x2 x3 pv dv x6 x7) 302)(hp:pv=.pointer none\/pv=.pointer (some ⟨b,4,none⟩)):
  Calls prog 187 #[.pointer (some ⟨b,4,none⟩)] w λe w'=>e=.returned (.tuple #[])/\World.blk w' b (jY x0 x1 x2 x3 (.pointer (some ⟨b,4,none⟩)) dv x6 x7) 302/\ai (λg=>g=b) w w':=by
 rcases hp with rfl|rfl
 ·refine(Bi b w (aa h 4) (LW h) (ae h _ rfl)).mono ?_;rintro e w' ⟨rfl,rfl⟩;exact⟨rfl,ah h 4 _,(ai.refl (λg=>g=b) w).setCell (p:=⟨b,4,none⟩) (.inl rfl) _⟩
 ·refine(DW b w (aa h 4)).mono ?_;rintro e w' ⟨rfl,rfl⟩;exact⟨rfl,h,ai.refl _ _⟩
theorem Qi (b:Nat)(w:World)(D s:List UInt8)(h:World.blk w b (jY x0 x1 x2 x3 pv dv x6 x7) 302)(hp:pv=.pointer none\/pv=.pointer (some ⟨b,4,none⟩))(ho:bR w 0 dv D)(hn:dv.ownBlock≠some b)(hl:D.length+s.length<=1000000):
  Calls prog 110 #[.pointer (some ⟨b,4,none⟩),.string ⟨s.toArray⟩] w λe w'=>e=.returned (.tuple #[.int .i64 (s.length:Int),.nilIface])/\∃ F8,World.blk w' b (jY x0 x1 x2 x3 (.pointer (some ⟨b,4,none⟩)) F8 x6 x7) 302/\bR w' 0 F8 (D++s)/\ai (λg=>g=b\/dv.ownBlock=some g) w w'/\(F8.ownBlock=dv.ownBlock\/∃ k,F8.ownBlock=some k/\w.heap.size<=k):=by
 have CG:({ data:=s.toArray }:ByteArray).size=s.length:=by simp[ByteArray.size]
 obtain⟨i0,hi,iK,lX,mJ⟩:=awj jT;have aiX:(s.length:Int)<=9223372036854775807:=J
 have SD:b<w.heap.size:=ak h;obtain⟨C,HO,Hl,Hn⟩:=K4 (Ic b w h hp) ho hl hn;clear h hp ho hl hn;go_enter func110,ntmps110;go_wp2_with fail;refine C.mono ?_;rintro e w1 ⟨rfl,h1,m1⟩;have R9:bR w1 0 dv D:=aA HO.o (λg hg=>m1.block g (by
  rcases HO.2 with⟨e,_⟩|⟨g',cap,dW,e,_,Tk,_⟩
  ·rw[e]at hg;cases hg
  ·rw[e]at hg;have:g'=g:=by simpa[Value.ownBlock]using hg
   subst this;exact(awr.1 Tk).1) (λe=>Hn.o (by rw[hg,e])))
 obtain⟨v',w2,bN,bC,db,uE⟩:=qc (P:=prog) 131 9 131 5 i0 underlying131 underlying9 hi iK lX mJ w1 dv _ _ R9 ⟨s.toArray⟩ (by rw[CG];have:=Hl.o;omega);obtain⟨ao,n',cap,rfl⟩:∃ ao n' cap,v'=.slice ao n' cap:=by
  rcases bC.2 with⟨hv,_⟩|⟨g,cap,dW,hv,_⟩
  ·exact⟨_,_,_,hv⟩
  ·exact⟨_,_,_,hv⟩
 have h2:=ab db h1 Hn.o;have e5:w1.cell? ⟨b,5,none⟩=some dv:=aa h1 5;have f5:w2.frozen? ⟨b,5,none⟩=false:=ae h2 _ rfl;have c5:w2.cell? ⟨b,5,none⟩=some dv:=aa h2 5;obtain⟨H2,HR,zi,gi,rl,Hat⟩:=K6 h2 bN bC db m1 uE;clear h1 h2 bN bC db m1 R9 uE hi iK lX mJ;go_wp2_with (at_builtin;refine kI HR.o rfl rfl rfl rfl ?_);go_ret2;have m3:ai (λg=>g=b) w2 (w2.setCell ⟨b,5,none⟩ (.slice ao n' cap)):=(ai.refl (λg=>g=b) w2).setCell (p:=⟨b,5,none⟩) (.inl rfl) _;refine⟨rfl,.slice ao n' cap,ah H2.o 5 _,?_,?_,?_⟩
 ·have e:gg (D++s)=gg D++Lib.strCells ⟨s.toArray⟩:=by simp[gg,Lib.strCells]
  have e2:(D++s).length=D.length+(⟨s.toArray⟩:ByteArray).size:=by rw[awn,CG]
  unfold bR;rw[e,e2];refine aA zi.o (λg hg=>m3.block g ?_ ?_)
  ·rcases zi.2 with⟨e,_⟩|⟨g',cap,dW,e,_,Tk,_⟩
   ·rw[e]at hg;cases hg
   ·rw[e]at hg;have:g'=g:=by simpa[Value.ownBlock]using hg
    subst this;exact(awr.1 Tk).1
  ·rintro rfl;rcases Hat.o with h|⟨k,h,hk⟩
   ·rw[hg]at h;exact Hn.o h.symm
   ·rw[hg]at h;cases h;have:=rl.size;omega
 ·exact((rl.mono (λ_ _ h=>.inl h)).trans gi.o (λ_ _ h=>.inr h)).setCell (p:=⟨b,5,none⟩) (.inl (.inl rfl)) _
 ·rcases Hat.o with h|⟨k,h,hk⟩
  ·exact .inl h
  ·exact .inr ⟨k,h,av2 rl.size hk⟩
theorem Id {S:Nat->Prop}{p:Addr}(h:ai S w w')(hp:S p.block)(n:Nat):ai S w (w'.freeze p n):=by
 unfold World.freeze;split
 ·exact h
 ·refine⟨h.os,h.tape,h.output,by simpa using h.size,λk hk hS=>?_⟩;rw[<-h.block k hk hS,Array.getElem?_modify];rw[awf (λe=>hS (by rw[<-e];exact hp))]
theorem DX (b:Nat)(w:World)(D:List UInt8)(h:World.blk w b (jY x0 x1 x2 x3 pv dv x6 x7) 302)(ho:(D=[]/\dv=.slice none 0 0)\/(D≠[]/\bR w 0 dv D)):
  Calls prog 112 #[.pointer (some ⟨b,4,none⟩)] w λe w'=>e=.returned (.string ⟨D.toArray⟩)/\ai (λg=>dv.ownBlock=some g) w w':=by
 have c0:w.cell? ⟨b,5,none⟩=some dv:=aa h 5;rcases ho with⟨rfl,rfl⟩|⟨h0,bC⟩
 ·have hUS:=λW q=>Lib.run_unsafeString_none (P:=prog) W 266 3 9 q;have hSD:(Builtin.unsafeSliceData_ #[131] 266 #[.slice none 0 0]).run prog w.drew=.ok (.pointer none) w.drew:=rfl;clear h;go_enter func112,ntmps112;go_wp2_with fail
  go_region
  all_goals (go_wp2;go_ret;exact⟨rfl,(ai.refl _ w).drew⟩)
 ·have Jg:D.length≠0:=by simpa using h0
  obtain⟨g,cap,dW,rfl,hbg,hg,Xn,CA,YE,YF⟩:∃ g cap dW,dv=.slice (some ⟨g,0,none⟩) D.length cap/\0<=g/\w.heap[g]?=some (.cells dW 5 (0,0))/\D.length<=cap/\cap<=maxLen/\dW.size=cap*1/\dW.toList.take (D.length*1)=gg D:=by
   rcases bC.2 with⟨_,hz⟩|⟨g,cap,dW,hv,r⟩
   ·exact absurd hz Jg
   ·exact⟨g,cap,dW,hv,r⟩
  have hSD:(Builtin.unsafeSliceData_ #[131] 266 #[.slice (some ⟨g,0,none⟩) D.length cap]).run prog w.drew=.ok (.pointer (some ⟨g,0,none⟩)) w.drew:=
   Lib.run_unsafeSliceData_row _ _ _ _ _ _ J
  have hUS:(Builtin.unsafeString_ #[266,3] 9 #[.pointer (some ⟨g,0,none⟩),.int .i64 D.length]).run prog w.drew=.ok (.string ⟨D.toArray⟩) (w.drew.freeze ⟨g,0,none⟩ D.length):=by
   refine Lib.run_unsafeString_row w.drew 266 3 9 5 underlying266 kr7 g dW.size (by have hg':w.drew.heap[g]?=some (.cells dW 5 (0,0)):=hg;simp[World.shape?,hg']) D h0 J (by unfold maxLen at CA;omega) ?_;intro j x hx;have:=bC.cells (g:=g) rfl j (.int .u8 x.toNat) (by simp[gg,hx]);exact this
  clear h bC hg YF;go_enter func112,ntmps112;go_wp2_with fail
  go_region
  all_goals (go_wp2;go_ret;exact⟨rfl,Id (S:=λg'=>(Value.slice (some ⟨g,0,none⟩) D.length cap).ownBlock=some g') (p:=⟨g,0,none⟩) ((ai.refl _ w).drew) rfl _⟩)
end
end Go.Proofs.YtkghpdcloaiflaaGreatDoor
