import Derived.Test.YtkghpdcloaiflaaGreatDoorE08
import Derived.Test.YtkghpdcloaiflaaGreatDoorE14
set_option maxHeartbeats 4000000
set_option maxRecDepth 100000
namespace Go.Proofs.YtkghpdcloaiflaaGreatDoor
open _root_.Go.Proofs.Tryz
section
open Go.RowKit Go.Shelf
attribute [local go_sem] auv
theorem YM (n each:Nat)(w:World)(hn:n<=1000000)(he:1<=each/\each<=1000):
  Calls prog 305 #[.int .i64 (n:Int),.int .i64 (each:Int)] w fun e w'=>e=.returned (.int .i64 ((bN n each:Nat):Int))/\w=w':=by
 have e1:((bN n each:Nat):Int)=((n:Int)+(each:Int)-1)/(each:Int):=by
  have e:((n+each-1:Nat):Int)=(n:Int)+(each:Int)-1:=by omega
  unfold bN;rw[Int.natCast_ediv,e]
 have e2:((n:Int)+(each:Int)-1).tdiv (each:Int)=((n:Int)+(each:Int)-1)/(each:Int):=avL (by omega);have e3:¬(each:Int)=0:=by omega
 have b1:(n:Int)<=1000000:=by omega
 have b2:(each:Int)<=1000:=by omega
 have b3:(1:Int)<=each:=by omega
 have hq:((n:Int)+(each:Int)-1)/(each:Int)<=1001000:=by
  refine Int.le_trans (Int.ediv_le_self _ (by omega)) (by omega)
 have hq0:(0:Int)<=((n:Int)+(each:Int)-1)/(each:Int):=Int.ediv_nonneg (by omega) (by omega);go_enter func305,ntmps305;go_wp2;go_ret;exact⟨by rw[e1];rfl,rfl⟩
theorem rZ (size:Nat):(au size).length<=3:=by
 unfold au;simp only;split
 ·simp
 ·split
  ·simp
  ·split<;>simp
theorem ph {size:Nat}(hs:size<=16384):∀ n∈au size,1<=n/\n<=69:=by
 have h1:bN size 240<=69:=(aJ (by decide)).2 (by omega);intro n hn;rcases aM size with⟨_,e⟩|⟨h2,_,e⟩|⟨h2,_,e⟩|⟨h2,e⟩<;>rw[e]at hn
 ·simp at hn
 ·simp at hn;omega
 ·have:1<bN size 240:=by
   apply avv;intro hc;have:=(aJ (n:=size) (each:=240) (k:=1) (by decide)).1 (by omega);omega
  simp at hn;omega
 ·have h3:60<bN size 240:=by
   apply avv;intro hc;have:=(aJ (n:=size) (each:=240) (k:=60) (by decide)).1 (by omega);omega
  have h4:bN (bN size 240) 60=2:=by
   have a:=(aJ (n:=bN size 240) (each:=60) (k:=2) (by decide)).2 (by omega);have b:¬ bN (bN size 240) 60<=1:=fun hc=>by
    have:=(aJ (n:=bN size 240) (each:=60) (k:=1) (by decide)).1 hc;omega
   omega
  simp at hn;omega
theorem LK {size:Nat}(hs:size<=16384){k:Nat}(hk:k<(au size).length):(au size).getD k 0=1↔k+1=(au size).length:=by
 rcases aM size with⟨_,e⟩|⟨h2,_,e⟩|⟨h2,_,e⟩|⟨h2,e⟩<;>rw[e]at hk ⊢
 ·simp at hk
 ·simp at hk;subst hk;simp
 ·have:1<bN size 240:=by
   apply avv;intro hc;have:=(aJ (n:=size) (each:=240) (k:=1) (by decide)).1 (by omega);omega
  simp at hk;rcases(by omega:k=0\/k=1)with rfl|rfl
  ·simp;omega
  ·simp
 ·have h3:60<bN size 240:=by
   apply avv;intro hc;have:=(aJ (n:=size) (each:=240) (k:=60) (by decide)).1 (by omega);omega
  have h4:1<bN (bN size 240) 60:=by
   apply avv;intro hc;have:=(aJ (n:=bN size 240) (each:=60) (k:=1) (by decide)).1 (by omega);omega
  simp at hk;rcases(by omega:k=0\/k=1\/k=2)with rfl|rfl|rfl
  ·simp;omega
  ·simp;omega
  ·simp
theorem nE {size:Nat}:(au size).getD 0 0=bN size 240:=by
 unfold au;simp only;split
 ·simp[*]
 ·split
  ·simp[*]
  ·split<;>simp
theorem UD (w:World)(t:TypeId)(base:Nat)(v:Value)(hb:base<=w.heap.size):(w.alloc (.cells #[v] t)).ownsRow base t 1 (.slice (some ⟨w.heap.size,0,none⟩) 1 1) 1 [v]:=
 ⟨rfl,.inr ⟨w.heap.size,1,#[v],rfl,hb,aw w _ _,auE _,by decide,rfl,rfl⟩⟩
theorem qU (size:Nat)(w:World)(hs:size<=16384):
  Calls prog 267 #[.int .i64 (size:Int)] w fun e w'=>∃ v,e=.returned v/\aN w' w.heap.size v (gy (au size))/\af w w':=by
 have U:=fun(n each:Nat) (h1:n<=1000000) (h2:1<=each/\each<=1000) W=>YM n each W h1 h2;have HU:=hd0 U;have U1:=hd0 (U size 240 (by omega) (by omega));have H0:Hid (bN size 240=0->au size=[]):=hd0 (fun h=>by unfold au;simp[h]);have H1:Hid (bN size 240≠0->1<=(au size).length):=hd0 (fun h=>by unfold au;simp only;rw[auK h];split<;>(try split)<;>simp);have HL:=hd0 (fun k (h:k<(au size).length)=>LK hs h);have HM:=hd0 (ph hs);have HUp:=hd0 (mH size hs);have H3:=hd0 (rZ size);have HF:=hd0 (nE (size:=size));have yh:bN size 240<=69:=(aJ (by decide)).2 (by omega);generalize au size=L at*;generalize hq:bN size 240=q at*;have Hq:=hd0 hq;clear hq U hs;go_enter func267,ntmps267;go_wp2_with fail;refine(U1.out _).mono ?_;rintro e w1 ⟨rfl,rfl⟩;by_cases h0:q=0
 ·have hL:=H0.out h0;subst h0;go_wp2;go_ret;rw[hL];exact⟨_,rfl,⟨rfl,.inl ⟨rfl,rfl⟩⟩,ah.refl _ _⟩
 ·have Ow:(((q:Nat):Int)==0)=false:=by simp;omega
  have h1:=H1.out h0;have e0:Hid (L.take 1=[q]):=hd0 (by
   have:=HF.out;rcases L with _|⟨a,r⟩
   ·simp at h1
   ·simp at this;subst this;rfl)
  go_wp2_with fail;have HO:=hd0 (UD w 3 w.heap.size (.int .i64 (q:Int)) (auE _))
  go_loopw [3,4] (fun n v wr=>∃ k:Nat,1<=k/\k<=L.length/\n=.int .i64 ((L.getD (k-1) 0:Nat):Int)/\aN wr w.heap.size v (gy (L.take k))/\af w wr) (fun n _ _=>(intOf n).toNat)
  case atStart=>exact⟨1,by omega,h1,by rw[<-HF.out],by rw[e0.out];exact HO.out,(ah.refl _ w).alloc _⟩
  case round=>
   clear HO e0;obtain⟨k,hk1,de,rfl,ho,hK⟩:=hrel;have eG:=HM.out (L.getD (k-1) 0) (by rw[avS,auB (by omega)];exact ava _);have Sj:=HL.out (k-1) (by omega);have HO:=hd0 ho;have HK:=hd0 hK;clear ho hK;by_cases hk:k=L.length
   ·have hx:L.getD (k-1) 0=1:=Sj.2 (by omega);rw[hx];go_wp2;go_ret;refine⟨_,rfl,?_,HK.out⟩;have:=HO.out;rw[hk,auF]at this;exact this
   ·have hx:¬ L.getD (k-1) 0=1:=fun h=>by have:=Sj.1 h;omega
    obtain⟨x,To⟩:∃ x,L.getD (k-1) 0=x:=⟨_,rfl⟩
    have pH:=HUp.out (k-1) (by omega);rw[show k-1+1=k by omega]at pH;rw[To]at pH eG hx ⊢;have UX:=hd0 (HU.out x 60 (by omega) (by omega));rw[<-pH]at UX;have hxi:(1:Int)<(x:Int):=by omega
    have aeC:=HM.out (L.getD k 0) (by rw[avS,auB (by omega)];exact ava _);have Hxd:=hd0 (show L.getD k 0<x from by
     rw[pH];have:=(aJ (n:=x) (each:=60) (k:=x-1) (by decide)).2 (by omega);omega)
    have CG:=hd0 pH;have Hxx:=hd0 To;have Het:Hid (gy (L.take (k+1))=gy (L.take k)++[(L.getD k 0:Int)]):=hd0 (by
     unfold gy;rw[List.take_succ_eq_append_getElem (show k<L.length by omega),List.map_append];simp only[auy,List.map_nil,avS,auB (show k<L.length by omega),avb])
    obtain⟨y,hy⟩:∃ y,L.getD k 0=y:=⟨_,rfl⟩
    rw[hy]at UX aeC Hxd Het;have Hy:=hd0 hy;clear pH To Sj hy hx;go_wp2_with fail;refine(UX.out _).mono ?_;rintro e w2 ⟨rfl,rfl⟩;have aV:(gy (L.take k)).length<=3:=by have:=H3.out;simp[gy];omega
    have Ha:=hd0 (kM (P:=prog) underlying46 iX rfl w.heap.size u4 _ _ wr w HO.out [.int .i64 (y:Int)] (by simp[Value.oneCell']) (by unfold maxLen;show(gy (L.take k)).length+1<=_;omega) (by show((gy (L.take k)).length+1)*8<=_;omega) HK.out.size HK.out (auE _));obtain⟨v',w3,bi,bw,dw,_⟩:=Ha.out;have HR:=hd0 bi;have Oe:=hd0 (kv bw);have dZ:=hd0 dw;clear bi bw dw Ha;go_wp2_with (at_builtin;refine aB HR.out rfl rfl rfl rfl ?_)
    go_roundw
    case rel=>exact⟨k+1,by omega,by omega,by rw[show k+1-1=k by omega,Hy.out],by rw[Het.out];exact Oe.out,dZ.out⟩
    case measure=>have:=Hxd.out;simp[intOf];omega
end
section
open Go.RowKit Go.Shelf
attribute [local go_sem] auv
theorem Bd (a b s:Nat)(ha:a<2 ^ s)(hb:a+b*2 ^ s<9223372036854775808):bits .or .i64 (a:Int) ((b*2 ^ s:Nat):Int)=((a+b*2 ^ s:Nat):Int):=by
 have e:=Nat.two_pow_add_eq_or_of_lt ha b;rw[Nat.mul_comm,Nat.or_comm]at e;have e1:(BitVec.ofInt 64 (a:Int)|||BitVec.ofInt 64 ((b*2 ^ s:Nat):Int)).toNat=a+b*2 ^ s:=by
  rw[BitVec.ofInt_natCast,BitVec.ofInt_natCast,BitVec.toNat_or,BitVec.toNat_ofNat,BitVec.toNat_ofNat,avZ (by omega),avZ (by omega),<-e];omega
 show IntKind.i64.wrap (((BitVec.ofInt 64 (a:Int)|||BitVec.ofInt 64 ((b*2 ^ s:Nat):Int)).toNat:Nat):Int)=_;rw[e1,IntKind.wrap_i64];omega
def DE (s:az)(k:Nat):Nat:=(s.getD (4*k) 0).toNat+256*(s.getD (4*k+1) 0).toNat+65536*(s.getD (4*k+2) 0).toNat+16777216*(s.getD (4*k+3) 0).toNat
theorem wV:∀(m:Nat) (s:az),s.length=4*m->cr s=(List.range m).map fun k=>(DE s k:Int)
 |0,s,h=>by
  have:s=[]:=au8.1 (by omega);subst this;rfl
 |m+1,s,h=>by
  match s,h with
  |a::b::c::d::r,h=>
   have ih:=wV m r (by simp at h;omega);rw[cr,ih,List.range_succ_eq_map,auy,au0]
   congr 1
  |[],h=>simp at h
  |[_],h=>simp at h;omega
  |[_,_],h=>simp at h;omega
  |[_,_,_],h=>simp at h;omega
theorem wW {m:Nat}{s:az}(h:s.length=4*m):(cr s).length=m:=by rw[wV m s h];simp
theorem LL {m k:Nat}{s:az}(h:s.length=4*m)(hk:k<m):(cr s).take (k+1)=(cr s).take k++[(DE s k:Int)]:=by
 rw[wV m s h,List.take_succ_eq_append_getElem (by simpa using hk)];simp
theorem Be (s:List UInt8)(m:Nat)(w:World)(hs:s.length=4*m)(hm:m<=100000):
  Calls prog 306 #[.string ⟨s.toArray⟩] w fun e w'=>∃ v,e=.returned v/\aN w' w.heap.size v (cr s)/\af w w':=by
 have Hl:=hd0 (wW hs);have hT:=fun k (h:k<m)=>LL hs h;have HT:=hd0 hT;have Hs:=hd0 hs;have hsi:(s.length:Int)=4*(m:Int):=by omega
 generalize hP:cr s=P at*;clear hT hP hs;go_enter func306,ntmps306;go_wp2_with fail
 go_loopw [3,4] (fun v i wr=>∃ k:Nat,k<=m/\i=.int .i64 (4*(k:Int))/\aN wr w.heap.size v (P.take k)/\af w wr) (fun _ i _=>4*m-(intOf i).toNat)
 case atStart=>exact⟨0,by omega,rfl,⟨rfl,.inl ⟨rfl,rfl⟩⟩,ah.refl _ _⟩
 case round=>
  obtain⟨k,hk,rfl,ho,hK⟩:=hrel;have HO:=hd0 ho;have HK:=hd0 hK;clear ho hK;by_cases aL:k<m
  ·have dN:4*(k:Int)<4*(m:Int):=by omega
   have RU:(k:Int)<=100000:=by omega
   have g:=fun j (hj:j<4)=>(show s[4*k+j]?=some (s.getD (4*k+j) 0) by have:=Hs.out;rw[avS,auB (by omega)];rfl)
   have g0:=g 0 (by omega);have g1:=g 1 (by omega);have g2:=g 2 (by omega);have g3:=g 3 (by omega);have OB:Hid (DE s k=(s.getD (4*k+0) 0).toNat+256*(s.getD (4*k+1) 0).toNat+65536*(s.getD (4*k+2) 0).toNat+16777216*(s.getD (4*k+3) 0).toNat):=hd0 rfl;generalize s.getD (4*k+0) 0=b0 at*;generalize s.getD (4*k+1) 0=b1 at*;generalize s.getD (4*k+2) 0=b2 at*;generalize s.getD (4*k+3) 0=b3 at*;have l0:=b0.toNat_lt;have l1:=b1.toNat_lt;have l2:=b2.toNat_lt;have l3:=b3.toNat_lt;have sX:=bf (P:=prog) underlying9 s .i64 (4*(k:Int)) b0 (by omega) (by rw[show(4*(k:Int)).toNat=4*k+0 by omega];exact g0);have Cj:=bf (P:=prog) underlying9 s .i64 (4*(k:Int)+1) b1 (by omega) (by rw[show(4*(k:Int)+1).toNat=4*k+1 by omega];exact g1);have vz:=bf (P:=prog) underlying9 s .i64 (4*(k:Int)+2) b2 (by omega) (by rw[show(4*(k:Int)+2).toNat=4*k+2 by omega];exact g2);have Ya:=bf (P:=prog) underlying9 s .i64 (4*(k:Int)+3) b3 (by omega) (by rw[show(4*(k:Int)+3).toNat=4*k+3 by omega];exact g3);have w1:IntKind.i64.wrap (4*(k:Int)+1)=4*(k:Int)+1:=fA (by omega);have w2:IntKind.i64.wrap (4*(k:Int)+2)=4*(k:Int)+2:=fA (by omega);have w3:IntKind.i64.wrap (4*(k:Int)+3)=4*(k:Int)+3:=fA (by omega);have o1:=Bd b0.toNat b1.toNat 8 (by omega) (by omega);have o2:=Bd (b0.toNat+b1.toNat*2 ^ 8) b2.toNat 16 (by omega) (by omega);have o3:=Bd (b0.toNat+b1.toNat*2 ^ 8+b2.toNat*2 ^ 16) b3.toNat 24 (by omega) (by omega);have So:bits .or .i64 (bits .or .i64 (bits .or .i64 (IntKind.i64.wrap (b0.toNat:Int)) (IntKind.i64.wrap (IntKind.i64.wrap (b1.toNat:Int)*256))) (IntKind.i64.wrap (IntKind.i64.wrap (b2.toNat:Int)*65536))) (IntKind.i64.wrap (IntKind.i64.wrap (b3.toNat:Int)*16777216))=((DE s k:Nat):Int):=by
    have a0:IntKind.i64.wrap (b0.toNat:Int)=(b0.toNat:Int):=fA (by omega);have a1:IntKind.i64.wrap (b1.toNat:Int)=(b1.toNat:Int):=fA (by omega);have a2:IntKind.i64.wrap (b2.toNat:Int)=(b2.toNat:Int):=fA (by omega);have a3:IntKind.i64.wrap (b3.toNat:Int)=(b3.toNat:Int):=fA (by omega);have c1:IntKind.i64.wrap ((b1.toNat:Int)*256)=((b1.toNat*2 ^ 8:Nat):Int):=by rw[fA (by omega)];omega
    have c2:IntKind.i64.wrap ((b2.toNat:Int)*65536)=((b2.toNat*2 ^ 16:Nat):Int):=by rw[fA (by omega)];omega
    have c3:IntKind.i64.wrap ((b3.toNat:Int)*16777216)=((b3.toNat*2 ^ 24:Nat):Int):=by rw[fA (by omega)];omega
    rw[a0,a1,a2,a3,c1,c2,c3,o1,o2,o3,OB.out];omega
   have ajF:=hd0 So;clear g g0 g1 g2 g3 So o1 o2 o3;have vt:=hd0 (HT.out k aL);have aV:(P.take k).length<=100000:=by have:=Hl.out;simp;omega
   go_wp2_with fail;refine iy 1 26 (by kernel_rfl) (by kernel_rfl) (fun _ o _ _ _ h=>by cases o<;>exact h) ?_;simp only[avn,avo,avq,avr];refine fE (fun L hL=>?_)
   go_simp
   first|refine hL _ ?_|refine⟨_,fun _=>rfl,hL _ ?_⟩
   clear hL L;refine kH ?_
   repeat (quiet_step (fail))
   refine avt ?_;intro _ cf;obtain⟨xq,rfl⟩:=cf;rw[ajF.out];have zi:Hid (aN (wr.ext xq) w.heap.size u3 (P.take k)):=hd0 (iA HO.out (ay wr xq));have bu:Hid (af w (wr.ext xq)):=hd0 (HK.out.keep (ay wr xq));obtain⟨W,hW⟩:∃ W,wr.ext xq=W:=⟨_,rfl⟩
   rw[hW]at zi bu ⊢;obtain⟨y,hy⟩:∃ y,((DE s k:Nat):Int)=y:=⟨_,rfl⟩
   rw[hy]at vt ⊢;have Ha:=kM (P:=prog) underlying46 iX rfl w.heap.size u3 _ _ W w zi.out [.int .i64 y] (by simp[Value.oneCell']) (by unfold maxLen;show(P.take k).length+1<=_;omega) (by show((P.take k).length+1)*8<=_;omega) bu.out.size bu.out (auE _);obtain⟨v',w3',bi,bw,dw,_⟩:=Ha;have HR:=hd0 bi;have Oe:=hd0 (kv bw);have dZ:=hd0 dw;clear bi bw dw hW hy zi bu HK HO sX Cj vz Ya w1 w2 w3;go_wp2_with (at_builtin;refine aB HR.out rfl rfl rfl rfl ?_)
   go_roundw
   case rel=>exact⟨k+1,by omega,by go_num,by rw[vt.out];exact Oe.out,dZ.out⟩
   case measure=>simp[intOf];omega
  ·obtain rfl:k=m:=by omega
   go_wp2;go_ret;have:=HO.out;rw[<-Hl.out,auF]at this;exact⟨_,rfl,this,HK.out⟩
end
section
open Go.RowKit Go.Shelf
attribute [local go_sem] auv
theorem UE {w:World}{base m n sz:Nat}{t:TypeId}{a:Option Addr}{cap:Nat}{xs:List Value}(h:w.ownsRow base t sz (.slice a n cap) m xs):n<=cap:=by
 rcases h.2 with⟨e,_⟩|⟨g,c,dz,e,_,_,h3,_⟩
 ·injection e with e1 e2 e3;omega
 ·injection e with e1 e2 e3;omega
theorem LM (l:List Int){k:Nat}{x:Int}(h:l[k]?=some x):cM (l.take (k+1))=cM (l.take k)++WO x:=by
 have hk:=(auP.1 h).1;have hx:=(auP.1 h).2;unfold cM;rw[List.take_succ_eq_append_getElem hk,auR,hx];simp
theorem UF {x:Int}(h:0<=x/\x<4294967296):gz (WO x)=[.int .u8 (x%256),.int .u8 (x/256%256),.int .u8 (x/65536%256),.int .u8 (x/16777216)]:=by
 obtain⟨n,rfl⟩:=Int.eq_ofNat_of_zero_le h.1;simp only[WO,gz,auy,List.map_nil,avc];have e:=fun m=>(show((UInt8.ofNat (m%256)).toNat:Int)=(m:Int)%256 by simp)
 rw[e,e,e,e];have e24:((n/16777216:Nat):Int)%256=(n:Int)/16777216:=by omega
 rw[e24];simp only[Int.natCast_ediv];rfl
theorem GT {w:World}{base:Nat}{v:Value}{l m:List UInt8}(h:w.ownsRow base 5 1 v (l.length+(gz m).length) (gz l++gz m)):bR w base v (l++m):=by
 have e:gz (l++m)=gz l++gz m:=by simp[gz]
 have e2:(l++m).length=l.length+(gz m).length:=by simp[gz]
 unfold bR;rw[e,e2];exact h
theorem DG (l:List Int)(v:Value)(w:World)(hv:eJ w v (bo l))(hl:l.length<=100000)(hr:∀ n∈l,0<=n/\n<4294967296):
  Calls prog 270 #[v] w fun e w'=>e=.returned (.string ⟨(cM l).toArray⟩)/\af w w':=by
 obtain⟨a,cap,rfl,hx⟩:=hv;rw[fR];have HX:=hd0 hx;have HR:=hd0 hr;have E9:(l.length:Int)<=100000:=by omega
 clear hx hr;go_enter func270,ntmps270;go_wp2_with fail
 go_loopw [3,8] (fun u i wr=>∃ k:Nat,k<=l.length/\i=.int .i64 (k:Int)/\bR wr w.heap.size u (cM (l.take k))/\af w wr) (fun _ i _=>l.length-(intOf i).toNat)
 case atStart=>exact⟨0,by omega,rfl,⟨rfl,.inl ⟨rfl,rfl⟩⟩,ah.refl _ _⟩
 case round=>
  obtain⟨k,hk,rfl,ho,hK⟩:=hrel;have HO:=hd0 ho;have HK:=hd0 hK;clear ho hK;by_cases aL:k<l.length
  ·have dN:(k:Int)<(l.length:Int):=by omega
   obtain⟨x,To⟩:∃ x,l[k]?=some x:=⟨_,auB aL⟩
   obtain⟨b,o,rfl,hc⟩:=HX.out k (.int .i64 x) (by simp[bo,To]);have c0:wr.cell? ⟨b,o+k,none⟩=some (.int .i64 x):=by rw[HK.out.cell (p:=⟨b,o+k,none⟩) (ak hc) id];exact hc
   have sX:=HR.out x (auC To);have Cj:=sX.1;have vz:=sX.2;have Hu:=hd0 (UF sX);have Ht:=hd0 (LM l To);have aV:(cM (l.take k)).length<=400000:=by rw[rW];simp;omega
   have Ha:=hd0 (kM (P:=prog) underlying131 j7 rfl w.heap.size u3 _ _ wr w HO.out (gz (WO x)) (fun u hu=>by simp only[gz,au6]at hu;obtain⟨y,_,rfl⟩:=hu;rfl) (by unfold maxLen;show(cM (l.take k)).length+4<=_;omega) (by show((cM (l.take k)).length+4)*1<=_;omega) HK.out.size HK.out (auE _));obtain⟨v',w3,bi,bw,dw,_⟩:=Ha.out;have Oe:=hd0 (GT bw);rw[Hu.out]at bi;have Jw:=hd0 bi;have dZ:=hd0 dw;clear bi bw dw Ha hc sX To;go_wp2_with (at_builtin;refine aB Jw.out rfl rfl rfl rfl ?_)
   go_roundw
   case rel=>exact⟨k+1,by omega,by go_num,by rw[Ht.out];exact Oe.out,dZ.out⟩
   case measure=>simp[intOf];omega
  ·obtain rfl:k=l.length:=by omega
   have bi:=lN (by have h:=HO.out;rw[auF]at h;exact h);go_wp2;go_ret;exact⟨rfl,HK.out⟩
theorem zN (s:List UInt8)(i:Nat)(w:World)(hs:s.length<=100000)(hi:i<=100000):
  Calls prog 268 #[.string ⟨s.toArray⟩,.int .i64 (i:Int)] w fun e w'=>e=.returned (.string ⟨(aO s i).toArray⟩)/\af w w':=by
 have hsi:(s.length:Int)<=100000:=by omega
 have hii:(i:Int)<=100000:=by omega
 have w1:IntKind.i64.wrap ((i:Int)*240)=(i:Int)*240:=fA (by omega);have w2:IntKind.i64.wrap ((i:Int)*240+240)=(i:Int)*240+240:=fA (by omega);by_cases h:i*240<s.length
 ·have h1:¬(s.length:Int)<=(i:Int)*240:=by omega
  have hcut:=fun W=>AX s (i*240) (min s.length (i*240+240)) ((i:Int)*240) (min (s.length:Int) ((i:Int)*240+240)) (by omega) (by omega) (by omega) (by omega) W;have e:min s.length (i*240+240)-i*240=min (s.length-i*240) 240:=by omega
  have e2:(s.drop (i*240)).take (min s.length (i*240+240)-i*240)=aO s i:=by
   rw[e];unfold aO;rw[List.take_eq_take_iff];simp;omega
  have e2':=e2;clear hcut e e2;go_enter func268,ntmps268;go_wp2;go_ret;refine⟨?_,ah.refl _ _⟩;have e3:(min (s.length:Int) ((i:Int)*240+240)).toNat=min s.length (i*240+240):=by omega
  show Ending.returned (.string ⟨((s.drop (i*240)).take ((min (s.length:Int) ((i:Int)*240+240)).toNat-i*240)).toArray⟩)=_;rw[e3,e2']
 ·have h1:(s.length:Int)<=(i:Int)*240:=by omega
  have e:aO s i=[]:=by unfold aO;rw[av1 (by omega)];rfl
  rw[e];go_enter func268,ntmps268;go_wp2;go_ret;exact⟨rfl,ah.refl _ _⟩
theorem zO (l:List Int)(i:Nat)(v:Value)(w:World)(base:Nat)(hv:aN w base v l)(hl:l.length<=100000)(hi:60*i<l.length):
  Calls prog 271 #[v,.int .i64 (i:Int)] w fun e w'=>∃ v',e=.returned v'/\eJ w' v' (bo (aU l i))/\w=w':=by
 obtain⟨a,cap,rfl,hx⟩:=bd hv;rw[fR]at hv;have yY:=UE hv;have aV:(aU l i).length=min (l.length-i*60) 60:=je l i;obtain⟨b,o,rfl,_⟩:=hx 0 (.int .i64 (l.getD 0 0)) (by unfold bo;rw[avB,avS,auB (by omega)];rfl);have E9:(l.length:Int)<=100000:=by omega
 have hii:(i:Int)<=100000:=by omega
 have w1:IntKind.i64.wrap ((i:Int)*60)=(i:Int)*60:=fA (by omega);have w2:IntKind.i64.wrap ((i:Int)*60+60)=(i:Int)*60+60:=fA (by omega);have m1:min (l.length:Int) ((i:Int)*60)=(i:Int)*60:=by omega
 obtain⟨q,hq⟩:∃ q,min l.length (i*60+60)=q:=⟨_,rfl⟩
 have m2:min (l.length:Int) ((i:Int)*60+60)=(q:Int):=by omega
 have q1:i*60<=q:=by omega
 have q2:q<=cap:=by omega
 have q1i:(i:Int)*60<=(q:Int):=by omega
 have q2i:(q:Int)<=(cap:Int):=by omega
 have Hx:=hd0 hx;have Hl:=hd0 aV;have Hq:=hd0 hq;clear hx hv aV hq;rw[fR];go_enter func271,ntmps271;go_wp2;go_ret;refine⟨_,rfl,?_,rfl⟩;have e1:(bo (aU l i)).length=q-i*60:=by rw[fR,Hl.out,<-Hq.out];omega
 refine⟨some ⟨b,o+i*60,none⟩,cap-i*60,by rw[e1];rfl,fun j x hj=>⟨b,o+i*60,rfl,?_⟩⟩;have hj2:j<q-i*60:=by rw[<-e1];exact(auP.1 hj).1
 have h2:(bo l)[i*60+j]?=some x:=by
  unfold bo aU at hj;rw[avB,List.getElem?_take,avJ]at hj;split at hj
  ·unfold bo;rw[avB];exact hj
  ·cases hj
 obtain⟨b',o',e2,hc⟩:=Hx.out _ _ h2;injection e2 with e2;injection e2 with e3 e4;subst e3 e4;rw[auQ];exact hc
end
section
open Go.RowKit
theorem qq {P:Program}(t u ty e:TypeId)(i:TypeInfo)(ht:P.underlying t=some (.slice e))(hu:P.underlying u=some .string)(hi:P.info? e=some i)(hz:i.zero=some (.int .u8 0))
  (Ki:i.size=1) (hby:i.bytes=1) (w:World) (v:Value) (n:Nat) (xs:List Value) (bw:w.ownsRow 0 e 1 v n xs) (s:ByteArray) (hb:n+s.size<=140737488355328):
  ∃ v' w',(Builtin.append_ #[t,u] ty #[v,.string s]).run P w=.ok v' w'/\w'.ownsRow 0 e 1 v' (n+s.size) (xs++Lib.strCells s)/\ah (fun g=>v.ownBlock=some g) w w'/\(v'.ownBlock=v.ownBlock\/∃ k,v'.ownBlock=some k/\w.heap.size<=k):=by
 have h63:n+s.size<=maxLen:=by unfold maxLen;omega
 obtain⟨v',w',hr,h2,h3,h4⟩:=Lib.run_append_own_string (P:=P) w 0 t u ty e i ht hu hi hz Ki hby v n xs bw s h63 hb (avk _);refine⟨v',w',hr,h2,ah.grown (ah.refl _ w) h3 (fun k hk=>.inl hk),?_⟩;rcases bw.2 with⟨rfl,h0⟩|⟨g,cap,dz,rfl,hbg,hg,Kk,Cq,Ks,XQ⟩
 ·have oq:w.ownsRow w.heap.size e 1 (.slice none 0 0) n xs:=⟨bw.1,.inl ⟨rfl,h0⟩⟩
  obtain⟨v2,w2,tT,h22,_⟩:=Lib.run_append_own_string (P:=P) w w.heap.size t u ty e i ht hu hi hz Ki hby (.slice none 0 0) n xs oq s h63 hb (auE _);rw[hr]at tT;injection tT with e1 e2;subst e1 e2;rcases h22.2 with⟨e1,_⟩|⟨g,cap,dz,e1,hbg,_⟩
  ·left;rw[e1]
  ·right;exact⟨g,by rw[e1];rfl,hbg⟩
 ·by_cases l5:n+s.size<=cap
  ·have tT:=Lib.run_append_room_string (P:=P) w t u ty e i ht hu hi Ki g n cap dz hg s l5 (by omega);rw[hr]at tT;injection tT with e1 e2
   left;rw[e1];rfl
  ·have RT:xs.length=n:=by simpa using bw.1
   have holds:∀ j u,xs[j]?=some u->w.cell? ((⟨g,0,none⟩:Addr).add j)=some u:=bw.cells (g:=g) rfl;have tT:=Lib.run_append_grow_string (P:=P) w t u ty e i (.int .u8 0) ht hu hi hz ⟨g,0,none⟩ n cap xs (by rw[Ki];simpa using RT) holds s (by omega) (by omega) (by rw[hby];exact growslice_fits (by omega) (by omega));rw[hr]at tT;injection tT with e1 e2
   right;exact⟨w.heap.size,by rw[e1];rfl,auE _⟩
theorem lc {P:Program}{w w':World}{aD:Array Oper}{rest:List Oper}{o:Oper}{a:Act}{Q:Exit->Act->World->Prop}{s x:Operand}{t u:TypeId}{v xv v':Value}
  (bi:(Builtin.append_ #[t,u] o.type #[v,xv]).run P w=.ok v' w') (Cs:o.guard=none) (ho:o.op=.call { callee:=.builtin .append,args:=#[s,x],argTypes:=#[t,u] }) (hs:a.eval s=v) (hx:a.eval x=xv)
  (h:wpList P aD Q rest (a.put o.dst v') w'):wpList P aD Q (o::rest) a w:=
 wpList_plain Cs fun _ hK=>by
  unfold Oper.wp execOp;simp only[ho,resolve,invoke,builtin,Sem.run_bind,Sem.run_pure,Result.andThen_ok,List.map_toArray,auy,List.map_nil,hs,hx,bi];exact hK _ _ h
theorem LN:liesAt prog prog.depth 302 (8/prog.cellsOf 302) 4 176 1=true:=by kernel_rfl
theorem DH (b:Nat)(w:World)(h0:w.cell? ⟨b,4,none⟩=some (.pointer (some ⟨b,4,none⟩))):
  Calls prog 187 #[.pointer (some ⟨b,4,none⟩)] w fun e w'=>e=.returned (.tuple #[])/\w'=w:=by
 obtain⟨j,hj,_⟩:=avM.1 rQ;go_enter func187,ntmps187;go_wp2_with fail;rw[Lib.run_neq_ptr_same w _ underlying174 hj];go_wp2_with fail;go_end0;exact⟨rfl,rfl⟩
theorem Bf (b:Nat)(w:World)(h0:w.cell? ⟨b,4,none⟩=some (.pointer none))(hsh:w.shape? b=some (302,8))(hfz:w.frozen? ⟨b,4,none⟩=false):
  Calls prog 187 #[.pointer (some ⟨b,4,none⟩)] w fun e w'=>e=.returned (.tuple #[])/\w'=w.setCell ⟨b,4,none⟩ (.pointer (some ⟨b,4,none⟩)):=by
 obtain⟨j,hj,hjs⟩:=avM.1 rQ;go_enter func187,ntmps187;go_wp2_with fail;rw[Lib.run_to_unsafe w ⟨b,4,none⟩ underlying174 underlying310 hj (by rw[hjs];decide) hsh (by show(4:Nat)<8;decide)];simp only[Result.andThen];rw[Oper.upon_value];go_wp2_with fail;rw[avT func241 (by kernel_rfl) (by kernel_rfl) (by kernel_rfl) (e:=Extern.AbiNoEscape.same) (by kernel_rfl)];rw[Lib.run_noEscape];simp only[Result.andThen];rw[Oper.upon_value];go_wp2_with fail;rw[Lib.run_from_unsafe w ⟨b,4,none⟩ underlying310 underlying174 hj hsh LN];simp only[Result.andThen];rw[Oper.upon_value];go_wp2_with fail;go_end0;exact⟨rfl,rfl⟩
abbrev ke (x0 x1 x2 x3 pv dv x6 x7:Value):Array Value:=#[x0,x1,x2,x3,pv,dv,x6,x7]
theorem LP {w:World}{b:Nat}{c:Array Value}{t:TypeId}(h:World.blk w b c t):w.shape? b=some (t,c.size):=by
 unfold World.blk at h;simp[World.shape?,h]
theorem GU (b:Nat)(w:World){x0 x1 x2 x3 pv dv x6 x7:Value}(h:World.blk w b (ke x0 x1 x2 x3 pv dv x6 x7) 302)(hp:pv=.pointer none\/pv=.pointer (some ⟨b,4,none⟩)):
  Calls prog 187 #[.pointer (some ⟨b,4,none⟩)] w fun e w'=>e=.returned (.tuple #[])/\World.blk w' b (ke x0 x1 x2 x3 (.pointer (some ⟨b,4,none⟩)) dv x6 x7) 302/\ah (fun g=>g=b) w w':=by
 rcases hp with rfl|rfl
 ·refine(Bf b w (aa h 4) (LP h) (ae h _ rfl)).mono ?_;rintro e w' ⟨rfl,rfl⟩;exact⟨rfl,ag h 4 _,(ah.refl (fun g=>g=b) w).setCell (p:=⟨b,4,none⟩) (.inl rfl) _⟩
 ·refine(DH b w (aa h 4)).mono ?_;rintro e w' ⟨rfl,rfl⟩;exact⟨rfl,h,ah.refl _ _⟩
theorem P4 (b:Nat)(w:World){x0 x1 x2 x3 pv dv x6 x7:Value}(D s:List UInt8)(h:World.blk w b (ke x0 x1 x2 x3 pv dv x6 x7) 302)(hp:pv=.pointer none\/pv=.pointer (some ⟨b,4,none⟩))(ho:bR w 0 dv D)(hn:dv.ownBlock≠some b)(hl:D.length+s.length<=1000000):
  Calls prog 110 #[.pointer (some ⟨b,4,none⟩),.string ⟨s.toArray⟩] w fun e w'=>e=.returned (.tuple #[.int .i64 (s.length:Int),.nilIface])/\∃ FV,World.blk w' b (ke x0 x1 x2 x3 (.pointer (some ⟨b,4,none⟩)) FV x6 x7) 302/\bR w' 0 FV (D++s)/\ah (fun g=>g=b\/dv.ownBlock=some g) w w'/\(FV.ownBlock=dv.ownBlock\/∃ k,FV.ownBlock=some k/\w.heap.size<=k):=by
 have uW:({ data:=s.toArray }:ByteArray).size=s.length:=by simp[ByteArray.size]
 obtain⟨i0,hi,nX,mZ,oH⟩:=auO j7;have akw:(s.length:Int)<=9223372036854775807:=by omega
 have RL:b<w.heap.size:=ai h;have C:=hd0 (GU b w h hp);have HO:=hd0 ho;have Hl:=hd0 hl;have Hn:=hd0 hn;clear h hp ho hl hn;go_enter func110,ntmps110;go_wp2_with fail;refine C.out.mono ?_;rintro e w1 ⟨rfl,h1,m1⟩;have Tf:bR w1 0 dv D:=aA HO.out (fun g hg=>m1.block g (by
  rcases HO.out.2 with⟨e,_⟩|⟨g',cap,dz,e,_,R6,_⟩
  ·rw[e]at hg;cases hg
  ·rw[e]at hg;have:g'=g:=by simpa[Value.ownBlock]using hg
   subst this;exact(auW.1 R6).1) (fun e=>Hn.out (by rw[hg,e])))
 obtain⟨v',w2,bi,bw,gV,ni⟩:=qq (P:=prog) 131 9 131 5 i0 underlying131 underlying9 hi nX mZ oH w1 dv _ _ Tf ⟨s.toArray⟩ (by rw[uW];have:=Hl.out;omega);obtain⟨ao,n',cap,rfl⟩:∃ ao n' cap,v'=.slice ao n' cap:=by
  rcases bw.2 with⟨hv,_⟩|⟨g,cap,dz,hv,_⟩
  ·exact⟨_,_,_,hv⟩
  ·exact⟨_,_,_,hv⟩
 have h2:=ab gV h1 Hn.out;have e5:w1.cell? ⟨b,5,none⟩=some dv:=aa h1 5;have f5:w2.frozen? ⟨b,5,none⟩=false:=ae h2 _ rfl;have c5:w2.cell? ⟨b,5,none⟩=some dv:=aa h2 5;have H2:=hd0 h2;have HR:=hd0 bi;have zi:=hd0 bw;have oF:=hd0 gV;have yB:=hd0 m1;have Hat:=hd0 ni;clear h1 h2 bi bw gV m1 Tf ni hi nX mZ oH;go_wp2_with (at_builtin;refine lc HR.out rfl rfl rfl rfl ?_);go_ret2;have m3:ah (fun g=>g=b) w2 (w2.setCell ⟨b,5,none⟩ (.slice ao n' cap)):=(ah.refl (fun g=>g=b) w2).setCell (p:=⟨b,5,none⟩) (.inl rfl) _;refine⟨rfl,.slice ao n' cap,ag H2.out 5 _,?_,?_,?_⟩
 ·have e:gz (D++s)=gz D++Lib.strCells ⟨s.toArray⟩:=by simp[gz,Lib.strCells]
  have e2:(D++s).length=D.length+(⟨s.toArray⟩:ByteArray).size:=by rw[auS,uW]
  unfold bR;rw[e,e2];refine aA zi.out (fun g hg=>m3.block g ?_ ?_)
  ·rcases zi.out.2 with⟨e,_⟩|⟨g',cap,dz,e,_,R6,_⟩
   ·rw[e]at hg;cases hg
   ·rw[e]at hg;have:g'=g:=by simpa[Value.ownBlock]using hg
    subst this;exact(auW.1 R6).1
  ·rintro rfl;rcases Hat.out with h|⟨k,h,hk⟩
   ·rw[hg]at h;exact Hn.out h.symm
   ·rw[hg]at h;cases h;have:=yB.out.size;omega
 ·exact((yB.out.mono (fun _ _ h=>.inl h)).trans oF.out (fun _ _ h=>.inr h)).setCell (p:=⟨b,5,none⟩) (.inl (.inl rfl)) _
 ·rcases Hat.out with h|⟨k,h,hk⟩
  ·exact .inl h
  ·exact .inr ⟨k,h,aux yB.out.size hk⟩
theorem GV {S:Nat->Prop}{w w':World}{p:Addr}(h:ah S w w')(hp:S p.block)(n:Nat):ah S w (w'.freeze p n):=by
 unfold World.freeze;split
 ·exact h
 ·refine⟨h.os,h.tape,h.output,by simpa using h.size,fun k hk hS=>?_⟩;rw[<-h.block k hk hS,Array.getElem?_modify];rw[auK (fun e=>hS (by rw[<-e];exact hp))]
theorem DJ (b:Nat)(w:World){x0 x1 x2 x3 pv dv x6 x7:Value}(D:List UInt8)(h:World.blk w b (ke x0 x1 x2 x3 pv dv x6 x7) 302)(ho:(D=[]/\dv=.slice none 0 0)\/(D≠[]/\bR w 0 dv D)):
  Calls prog 112 #[.pointer (some ⟨b,4,none⟩)] w fun e w'=>e=.returned (.string ⟨D.toArray⟩)/\ah (fun g=>dv.ownBlock=some g) w w':=by
 have c0:w.cell? ⟨b,5,none⟩=some dv:=aa h 5;rcases ho with⟨rfl,rfl⟩|⟨h0,bw⟩
 ·have ZZ:=fun W q=>Lib.run_unsafeString_none (P:=prog) W 266 3 9 q;have hSD:(Builtin.unsafeSliceData_ #[131] 266 #[.slice none 0 0]).run prog w.drew=.ok (.pointer none) w.drew:=rfl;clear h;go_enter func112,ntmps112;go_wp2_with fail
  go_region
  all_goals (go_wp2;go_ret;exact⟨rfl,(ah.refl _ w).drew⟩)
 ·have tY:D.length≠0:=by simpa using h0
  obtain⟨g,cap,dz,rfl,hbg,hg,Kk,Cq,Ks,XQ⟩:∃ g cap dz,dv=.slice (some ⟨g,0,none⟩) D.length cap/\0<=g/\w.heap[g]?=some (.cells dz 5 (0,0))/\D.length<=cap/\cap<=maxLen/\dz.size=cap*1/\dz.toList.take (D.length*1)=gz D:=by
   rcases bw.2 with⟨_,hz⟩|⟨g,cap,dz,hv,r⟩
   ·exact absurd hz tY
   ·exact⟨g,cap,dz,hv,r⟩
  have hSD:(Builtin.unsafeSliceData_ #[131] 266 #[.slice (some ⟨g,0,none⟩) D.length cap]).run prog w.drew=.ok (.pointer (some ⟨g,0,none⟩)) w.drew:=
   Lib.run_unsafeSliceData_row _ _ _ _ _ _ (by omega)
  have ZZ:(Builtin.unsafeString_ #[266,3] 9 #[.pointer (some ⟨g,0,none⟩),.int .i64 D.length]).run prog w.drew=.ok (.string ⟨D.toArray⟩) (w.drew.freeze ⟨g,0,none⟩ D.length):=by
   refine Lib.run_unsafeString_row w.drew 266 3 9 5 underlying266 (by kernel_rfl) g dz.size (by have hg':w.drew.heap[g]?=some (.cells dz 5 (0,0)):=hg;simp[World.shape?,hg']) D h0 (by omega) (by unfold maxLen at Cq;omega) ?_;intro j x hx;have:=bw.cells (g:=g) rfl j (.int .u8 x.toNat) (by simp[gz,hx]);exact this
  clear h bw hg XQ;go_enter func112,ntmps112;go_wp2_with fail
  go_region
  all_goals (go_wp2;go_ret;exact⟨rfl,GV (S:=fun g'=>(Value.slice (some ⟨g,0,none⟩) D.length cap).ownBlock=some g') (p:=⟨g,0,none⟩) ((ah.refl _ w).drew) rfl _⟩)
end
end Go.Proofs.YtkghpdcloaiflaaGreatDoor
