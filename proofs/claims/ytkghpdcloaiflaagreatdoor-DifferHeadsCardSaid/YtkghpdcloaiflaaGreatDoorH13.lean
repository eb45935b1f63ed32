import Derived.Test.YtkghpdcloaiflaaGreatDoorH12
set_option maxHeartbeats 1000000
set_option maxRecDepth 100000
namespace Go.Proofs.YtkghpdcloaiflaaGreatDoor
open _root_.Go.Proofs.Tryz
variable {a b k m n:Nat}{l:List Nat}{nums:List (List Int)}{s:List UInt8}
section
def aW (rd:Rd)(data:ay)(b:fI)(S:Nat->Prop):Prop:=data.length<=16384/\∃ nums,b=dj data nums/\eK rd data nums/\∀ n:Nat,S n↔(n:Int)∈nums.flatten
def mn (rd:Rd):List fD->List Nt->(Nat->Prop)->Prop
 |[],[],S=>∀ n,¬ S n
 |y::ys,x::xs,S=>(y.num=x.num/\y.dir=x.dir/\y.links=x.links)/\∃ A B,aW rd x.data y.blob A/\mn rd ys xs B/\∀ n,S n↔A n\/B n
 |_,_,_=>False
def lz (rd:Rd)(inos:List fD)(nodes:List Nt)(table:fI)(S:Nat->Prop):Prop:=∃ A B,mn rd inos nodes A/\aW rd (jV inos) table B/\∀ n,S n↔A n\/B n
section
variable {rd KR:Rd}{data:ay}{b:fI}{S:Nat->Prop}
theorem LJ (h:eK rd data nums)(hr:∀ n∈nums.flatten,KR n=rd n):eK KR data nums:=by
 have key:∀(l i:Nat) (n:Int),(nums.getD l [])[i]?=some n->KR n=rd n:=by
  intro l i n hn;apply hr;have hm:=av7 hn;by_cases hl:l<nums.length
  ·rw[List.getD,av6 hl]at hm;exact List.mem_flatten.2 ⟨_,awF hl,hm⟩
  ·rw[List.getD,awY J]at hm;cases hm
 exact⟨h.shape,λi n hn=>(key 0 i n hn).trans (h.chunk i n hn),λl i n hn=>(key (l+1) i n hn).trans (h.ptr l i n hn),h.range⟩
theorem mV (h:eK rd data nums){n:Int}(hn:n∈nums.flatten):1<=n/\n<4096:=by
 obtain⟨l,hl,hm⟩:=List.mem_flatten.1 hn;exact h.range l hl n hm
theorem aW.turn (h:aW rd data b S)(hr:∀ n:Nat,S n->KR n=rd n):aW KR data b S:=by
 obtain⟨hl,nums,e,ht,hS⟩:=h;refine⟨hl,nums,e,LJ ht (λn hn=>?_),hS⟩;have:=mV ht hn;obtain⟨k,rfl⟩:∃ k:Nat,n=k:=⟨n.toNat,J⟩
 exact hr k ((hS k).2 hn)
theorem aW.lt (h:aW rd data b S)(hn:S n):1<=n/\n<4096:=by
 obtain⟨_,nums,_,ht,hS⟩:=h;have:=mV ht ((hS n).1 hn);omega
theorem aW.reach (h:aW rd data b S):∃ o,oo rd b=.ok o/\∀ n:Int,n∈o↔∃ k:Nat,n=k/\S k:=by
 obtain⟨hl,nums,rfl,ht,hS⟩:=h;obtain⟨o,e,ho⟩:=P4 ht hl;refine⟨o,e,λn=>?_⟩;rw[ho]
 constructor
 ·intro hn;have:=mV ht hn;exact⟨n.toNat,J,(hS _).2 (by rwa [show((n.toNat:Nat):Int)=n by omega])⟩
 ·rintro⟨k,rfl,hk⟩;exact(hS k).1 hk
theorem aW.may (h:aW rd data b S):b.ok=true:=by
 obtain⟨hl,nums,rfl,ht,_⟩:=h;unfold fI.ok;rw[qI ht hl];unfold dj;split
 ·rfl
 ·have:=pD ht J hl;simp;omega
theorem aW.small (h:aW rd data b S):0<=b.root/\b.root<4096/\0<=b.size/\b.size<=16384:=by
 obtain⟨hl,nums,rfl,ht,_⟩:=h;unfold dj;split
 ·simp
 ·have:=pD ht J hl;simp;omega
theorem aW.any (h:aW rd data b S)(h0:0<data.length):∃ n,S n:=by
 obtain⟨hl,nums,rfl,ht,hS⟩:=h;obtain⟨h1,h2,h3,h4⟩:=pD ht h0 hl;have hm:iF nums∈nums.flatten:=by
  refine List.mem_flatten.2 ⟨_,awF (show nums.length-1<nums.length by omega),?_⟩;have:nums.getD (nums.length-1) []=nums[nums.length-1]:=by simp[List.getD,show nums.length-1<nums.length by omega]
  rw[<-this,h2];simp
 exact⟨(iF nums).toNat,(hS _).2 (by rwa [show(((iF nums).toNat:Nat):Int)=iF nums by omega])⟩
theorem iY (rd:Rd):aW rd [] ⟨0,0⟩ (λ_=>False):=
 ⟨by simp,[],rfl,⟨rfl,λi n h=>by simp at h,λl i n h=>by simp at h,λl h=>by simp at h⟩,λn=>by simp⟩
theorem aW.reached (h:aW rd data b S)(set:ay):∃ s,dD rd set b=.ok s/\eP s/\∀ n,aq s n=true↔aq set n=true\/S n:=by
 obtain⟨o,e,ho⟩:=h.reach;refine⟨dZ set (iE (o.map Int.toNat)),?_,gE _ _ _,λn=>?_⟩
 ·unfold dD;rw[e];simp only;rw[awd];rw[awp];intro x hx;obtain⟨k,rfl,hk⟩:=(ho x).1 hx;have:=h.lt hk;simp;omega
 ·rw[iN,vA,awq];apply or_congr Iff.rfl;simp only[List.contains_eq_mem,awB,awt]
  constructor
  ·rintro⟨x,hx,rfl⟩;obtain⟨k,rfl,hk⟩:=(ho x).1 hx;simpa using hk
  ·intro hn;exact⟨n,(ho n).2 ⟨n,rfl,hn⟩,by simp⟩
end
theorem Ka (stay:Nat->Option Int)(s:Nat->ay)(L:List Int)(i:Nat)(t:gy)(h:∀ j n,L[j]?=some n->stay (i+j)=some n):ik stay s L.length i t=.ok (L,t):=by
 induction L generalizing i with
 |nil=>rfl
 |cons a L ih=>
  have h0:=h 0 a rfl;rw[Nat.add_zero]at h0;rw[av5,ik,h0];simp only;rw[ih (i+1) (λj n hn=>by have:=h (j+1) n (by simpa using hn);rwa [show i+1+j=i+(j+1) by omega])];rfl
theorem Vi (was:List (List Int))(t:gy)(r:List (List Int))(bw:Nat)(now:List Int)(h0:was.getD bw []=now)(hr:∀ j,j<r.length->was.getD (bw+1+j) []=r.getD j []):
  qz true was (r.map List.length) (bw+1) now t=.ok (r,t):=by
 induction r generalizing bw now with
 |nil=>rfl
 |cons L r ih=>
  have hL:=hr 0 sp7;simp only[Nat.add_zero,List.getD_cons_zero]at hL;rw[av3,qz,Ka _ _ L 0 t]
  ·simp only;rw[ih (bw+1) L hL (λj hj=>by
    have:=hr (j+1) (by simp;omega);rw[show bw+1+(j+1)=bw+1+1+j by omega]at this;simpa using this)]
   rfl
  ·intro j n hn;have hj:=(awk.1 hn).1;unfold eC;rw[awR,hL,Nat.add_sub_cancel,h0,awd ⟨rfl,hj,rfl⟩,<-getD_some hj];exact hn
theorem GX {rd:Rd}{data:ay}{was:List (List Int)}(h:eK rd data was)(_hs:data.length<=16384)(t:gy):kp data data was t=.ok (was,t):=by
 unfold kp
 cases was with
 |nil=>
  have:=h.shape;rw[<-this];rfl
 |cons L r=>
  have:=h.shape;rw[<-this,av3];simp only;have hp:∀ i n,L[i]?=some n->fR data data (L::r) i=some n:=by
   intro i n hn;unfold fR;have hj:=(awk.1 hn).1;rw[awd rfl,List.getD_cons_zero,<-getD_some hj];exact hn
  rw[Ka _ _ L 0 t (λj n hn=>by rw[awR];exact hp j n hn)];simp only;have e:((L::r).length==(r.map List.length).length+1)=true:=by simp
  rw[e,Vi (L::r) t r 0 L rfl (λj _=>by rw[show 0+1+j=j+1 by omega];simp)];rfl
theorem DE {t:gy}{data:ay}{b:fI}{S:Nat->Prop}(h:aW t.rd data b S):dz t b data=.ok (b,t):=by
 obtain⟨hs,nums,rfl,hw,_⟩:=h;obtain⟨o,e1,e2,_⟩:=kD hw hs true;unfold dz;rw[awf J,e1];simp only[↓reduceIte];rw[e2,GX hw hs];rfl
theorem Kb (l:List Bool):lR l<=l.length:=awh _ _
theorem GY (alike:Bool)(r:List Nat)(n was:Nat)(o:List Bool):cU alike r n was o<=r.sum:=by
 induction r generalizing n was o with
 |nil=>exact av9 _
 |cons m r ih=>
  have h1:=Kb (iq alike m n was o);have h2:=ih m (bQ was 60) (iq alike m n was o);have h3:(iq alike m n was o).length=m:=by simp[iq]
  simp only[cU,av4];omega
theorem gq (br data:ay):cY br data<=aU data.length:=by
 unfold cY aU
 cases iA:ax data.length with
 |nil=>exact av9 _
 |cons m r=>
  have h1:=Kb (iW br data);have h2:=GY ((ax br.length).length==(m::r).length) r m (bQ br.length 240) (iW br data);have h3:(iW br data).length=m:=by
   simp only[iW,awz,List.length_range];rcases aN data.length with⟨h0,e⟩|⟨h0,h2,e⟩|⟨_,_,e⟩|⟨_,e⟩<;>rw[e]at iA
   ·cases iA
   ·have h1:=(aL (n:=data.length) (each:=240) (k:=1) dc7).2 J;have h3:=dB (n:=data.length) (each:=240) dc7;injection iA;omega
   all_goals (injection iA)
  simp only[av4];omega
theorem zH {l:List Bool}(h:∀ x∈l,x=false):lR l=0:=by
 unfold lR;rw[awD,List.filter_eq_nil_iff];intro x hx;simp[h x hx]
theorem A9 (r:List Nat)(n:Nat)(o:List Bool)(ho:∀ x∈o,x=false)(hr:∀ j,j<r.length->r.getD j 0=bQ ((n::r).getD j 0) 60):cU true r n n o=0:=by
 induction r generalizing n o with
 |nil=>rfl
 |cons m r ih=>
  have hm:m=bQ n 60:=by have:=hr 0 sp7;simpa using this
  have h1:∀ x∈iq true m n n o,x=false:=by
   intro x hx;unfold iq at hx;obtain⟨i,hi,rfl⟩:=awB.1 hx;rw[aw0]at hi;have h2:(dC o (60*i) 60).any id=false:=by
    rw[Bool.eq_false_iff];intro h;obtain⟨k,_,hk⟩:=A7.1 h;have:=ho _ (av7 hk)
    cases this
   rw[h2];simp;omega
  simp only[cU];rw[zH h1,<-hm,ih m _ h1 (λj hj=>by have:=hr (j+1) (by simp;omega);simpa using this)]
theorem mo (size:Nat)(hs:size<=16384):∀ j,j+1<(ax size).length->(ax size).getD (j+1) 0=bQ ((ax size).getD j 0) 60:=by
 intro l hl;rcases aN size with⟨h0,e⟩|⟨h0,h2,e⟩|⟨h0,h2,e⟩|⟨h0,e⟩<;>rw[e]at hl ⊢
 ·simp at hl
 ·simp at hl
 ·obtain rfl:l=0:=by simp at hl;omega
  have h1:=(aL (n:=size) (each:=240) (k:=60) dc7).2 J;have h3:=dB (n:=size) (each:=240) dc7;have h4:=dB (n:=bQ size 240) (each:=60) dc7;have h5:=(aL (n:=bQ size 240) (each:=60) (k:=1) dc7).2 J;simp;omega
 ·rcases l with _|_|l
  ·rfl
  ·have h1:=(aL (n:=size) (each:=240) (k:=69) dc7).2 J;have h3:=(aL (n:=bQ size 240) (each:=60) (k:=2) dc7).2 J;have h7:=(dB (n:=bQ size 240) (each:=60) dc7)
   have h6:=(dB (n:=size) (each:=240) dc7)
   have h4:=dB (n:=bQ (bQ size 240) 60) (each:=60) dc7;have h5:=(aL (n:=bQ (bQ size 240) 60) (each:=60) (k:=1) dc7).2 J;simp;omega
  ·simp at hl;omega
theorem kH (data:ay)(hs:data.length<=16384):cY data data=0:=by
 unfold cY
 cases iA:ax data.length with
 |nil=>rfl
 |cons m r=>
  have h0:∀ x∈iW data data,x=false:=by
   intro x hx;unfold iW at hx;obtain⟨i,_,rfl⟩:=awB.1 hx;simp
  have hm:m=bQ data.length 240:=by
   rcases aN data.length with⟨h0,e⟩|⟨h0,h2,e⟩|⟨_,_,e⟩|⟨_,e⟩<;>rw[e]at iA
   ·cases iA
   ·have h1:=(aL (n:=data.length) (each:=240) (k:=1) dc7).2 J;have h3:=dB (n:=data.length) (each:=240) dc7;injection iA;omega
   all_goals (injection iA;omega)
  have hu:=mo data.length hs;rw[iA]at hu;simp only[beq_self_eq_true];rw[zH h0,hm,A9 r _ _ h0 (λj hj=>by
   have:=hu j (by simp;omega);rw[hm]at this;simpa using this)]
theorem DG {each:Nat}(h:a<=b):bQ a each<=bQ b each:=Nat.div_le_div_right J
theorem wu (h:a<=b)(hb:b<=16384):aU a<=aU b:=by
 have h1:=DG (each:=240) h;have h2:=DG (each:=60) h1;have hz:=λn=>dB (n:=n) (each:=240) dc7;have ha1:=(aL (n:=a) (each:=240) (k:=1) dc7)
 have hb1:=(aL (n:=b) (each:=240) (k:=1) dc7)
 have hza:=hz a;have Oi:=hz b;unfold aU;rcases aN a with⟨_,e⟩|⟨_,_,e⟩|⟨_,_,e⟩|⟨_,e⟩<;>rcases aN b with⟨_,e'⟩|⟨_,_,e'⟩|⟨_,_,e'⟩|⟨_,e'⟩<;>rw[e,e']<;>simp only[av4,List.sum_nil]<;>omega
end
def fY (used:ay)(a:Nat):Nat:=((List.range' 1 (a-1)).filter λn=>!aq used n).length
theorem ud (used:ay)(h:1<=a):fY used (a+1)=fY used a+if aq used a=true then 0 else 1:=by
 unfold fY;rw[show a+1-1=(a-1)+1 by omega,List.range'_concat,List.filter_append,awn]
 congr 1
 rw[show 1+1*(a-1)=a by omega]
 cases h2:aq used a<;>simp[h2]
theorem oL (used:ay){a:Nat}(h:1<=a):∀ k,(∀ m,a<=m->m<a+k->aq used m=true)->fY used (a+k)=fY used a
 |0,_=>rfl
 |k+1,hk=>by
  rw[<-awl,ud used J,hk (a+k) J J,awd rfl,Nat.add_zero];exact oL used h k λm h1 h2=>hk m h1 J
theorem GZ {used:ay}(h1:1<=a)(h:fW used a b=some n):fY used (n+1)=fY used a+1:=by
 obtain⟨h2,h3,h4,h5⟩:=ol h;rw[ud used J,h4];have:=oL used h1 (n-a) λm hm hn=>h5 m hm J;rw[show a+(n-a)=n by omega]at this;rw[this];rfl
theorem G0 {used:ay}(h1:1<=a)(NZ:a<=b)(h:fW used a b=none):fY used b=fY used a:=by
 have:=oL used h1 (b-a) λm hm hn=>vz h m hm J
 rwa [show a+(b-a)=b by omega]at this
theorem LK (used:ay)(a:Nat):fY used a<=a:=by
 unfold fY;exact av2 (awh _ _) sp7
theorem rO (s:ay):(least s).length<=s.length:=by
 unfold least;rw[List.length_reverse];have h:∀ l:ay,(l.dropWhile (·==0)).length<=l.length:=by
  intro l
  induction l with
  |nil=>exact av9 _
  |cons x r ih=>
   rw[List.dropWhile_cons];split
   ·exact av2 ih sp7
   ·exact av9 _
 exact av2 (h _) sp7
theorem lA (a b:ay):(dZ a b).length<=max a.length b.length:=by
 unfold dZ oh;refine av2 (rO _) sp7
theorem qK (a b:ay):(bV a b).length<=max a.length b.length:=by
 unfold bV oh;refine av2 (rO _) sp7
theorem DJ (n:Nat):(iE [n]).length<=n/8+1:=by
 unfold iE;refine av2 (rO _) sp7
theorem Ba (h:∀ x∈l,x<=k):∀ {a:Nat},a<=k->l.foldl max a<=k:=by
 induction l with
 |nil=>intro a ha;exact ha
 |cons x r ih=>
  intro a ha;exact ih (λy hy=>h y (by simp[hy])) (by have:=h x sp7;omega)
theorem Bb (h:∀ x∈l,x<=k):(iE l).length<=k/8+1:=by
 unfold iE;refine av2 (rO _) ?_;have:=Ba h (a:=0) J;simp;omega
theorem G6 (used:ay){blocks next:Nat}(h1:1<=next)(h2:next<=blocks)(h3:blocks<=4096):cE (gp used blocks next):=⟨h1,h2,h3,rfl⟩
def lS (c:UInt8):List Nat:=(List.range 8).filter λk=>c.toNat.testBit k
def tz (c:UInt8):Nat:=((List.range 8).find? λk=>c.toNat.testBit k).getD 8
theorem LL (c:UInt8)(h:c≠0):lS c=tz c::lS (c&&&(c-1)):=by
 have key:∀ n:Fin 256,n.1≠0->lS (UInt8.ofNat n.1)=tz (UInt8.ofNat n.1)::lS (UInt8.ofNat n.1&&&(UInt8.ofNat n.1-1)):=by decide +kernel
 have:=key ⟨c.toNat,c.toNat_lt⟩ (λe=>h (by apply UInt8.toNat_inj.1;simpa using e));simpa using this
theorem LM:lS 0=[]:=by decide
theorem XO (c:UInt8)(h:c≠0):tz c<8:=by
 have key:∀ n:Fin 256,n.1≠0->tz (UInt8.ofNat n.1)<8:=by decide +kernel
 have:=key ⟨c.toNat,c.toNat_lt⟩ (λe=>h (by apply UInt8.toNat_inj.1;simpa using e));simpa using this
theorem Qb (c:UInt8)(h:c≠0):(c&&&(c-1)).toNat<c.toNat:=by
 have key:∀ n:Fin 256,n.1≠0->(UInt8.ofNat n.1&&&(UInt8.ofNat n.1-1)).toNat<(UInt8.ofNat n.1).toNat:=by decide +kernel
 have:=key ⟨c.toNat,c.toNat_lt⟩ (λe=>h (by apply UInt8.toNat_inj.1;simpa using e));simpa using this
theorem ww (c:UInt8)(r:Nat)(hr:r<8):(let d:=(c>>>UInt8.ofNat r)<<<UInt8.ofNat r;(d=0->∀ k,r<=k->k<8->c.toNat.testBit k=false)/\(d≠0->r<=tz d/\tz d<8/\c.toNat.testBit (tz d)=true/\∀ k,r<=k->k<tz d->c.toNat.testBit k=false)):=by
 have key:∀(n:Fin 256) (r:Fin 8),(let d:=(UInt8.ofNat n.1>>>UInt8.ofNat r.1)<<<UInt8.ofNat r.1;(d=0->∀ k:Fin 8,r.1<=k.1->(UInt8.ofNat n.1).toNat.testBit k.1=false)/\(d≠0->r.1<=tz d/\tz d<8/\(UInt8.ofNat n.1).toNat.testBit (tz d)=true/\∀ k:Fin 8,r.1<=k.1->k.1<tz d->(UInt8.ofNat n.1).toNat.testBit k.1=false)):=by decide +kernel
 have:=key ⟨c.toNat,c.toNat_lt⟩ ⟨r,hr⟩;simp only[UInt8.ofNat_toNat]at this;refine⟨λh k h1 h2=>this.1 h ⟨k,h2⟩ h1,λh=>?_⟩;obtain⟨a,b,c',d⟩:=this.2 h;exact⟨a,b,c',λk h1 h2=>d ⟨k,J⟩ h1 h2⟩
def jJ (s:List UInt8)(k:Nat):List Nat:=(List.range (8*k)).filter λn=>aq s n
theorem G7 (s:List UInt8):jJ s s.length=cL s:=rfl
theorem ue (s:List UInt8)(k:Nat):jJ s (k+1)=jJ s k++(lS (s.getD k 0)).map (8*k+·):=by
 unfold jJ lS;rw[show 8*(k+1)=8*k+8 by omega,List.range_add,List.filter_append]
 congr 1
 rw[List.filter_map]
 congr 1
 apply List.filter_congr;intro j hj;rw[aw0]at hj;simp only[Function.comp];rw[dw hj]
theorem wA (s:List UInt8)(k:Nat)(h:k<=s.length):jJ s k <+: cL s:=by
 have:cL s=jJ s (k+(s.length-k)):=by rw[show k+(s.length-k)=s.length by omega];rfl
 rw[this];generalize s.length-k=d
 induction d with
 |zero=>exact List.prefix_refl _
 |succ d ih=>rw[<-awl,ue];exact ih.trans (List.prefix_append _ _)
theorem Kc (h1:a<=n)(h2:aq s n=true)(h3:∀ m,a<=m->m<n->aq s m=false):gm s a=some n:=by
 unfold gm;rw[List.find?_range'_eq_some];exact⟨h2,by rw[aw3];have:=AO h2;omega,λj hj hj2=>by rw[h3 j hj hj2];rfl⟩
theorem LN (h:∀ m,a<=m->aq s m=false):gm s a=none:=by
 unfold gm;rw[aw4];intro m hm;rw[aw3]at hm;rw[h m hm.1];simp
section
open Go.RowKit
theorem jx (n:Nat)(h:n<256):(BitVec.ofInt 8 (n:Int)).toNat=n:=by rw[BitVec.ofInt_natCast,BitVec.toNat_ofNat];exact axt h
theorem or8 (x y:UInt8):bits .or .u8 (x.toNat:Int) (y.toNat:Int)=((x|||y).toNat:Int):=by
 show IntKind.u8.wrap (((BitVec.ofInt 8 (x.toNat:Int)|||BitVec.ofInt 8 (y.toNat:Int)).toNat:Nat):Int)=_;rw[BitVec.toNat_or,jx _ x.toNat_lt,jx _ y.toNat_lt,<-UInt8.toNat_or];exact zA _ ⟨by omega,by have:=(x|||y).toNat_lt;omega⟩
theorem aiD (x y:UInt8):bits .and .u8 (x.toNat:Int) (y.toNat:Int)=((x&&&y).toNat:Int):=by
 show IntKind.u8.wrap (((BitVec.ofInt 8 (x.toNat:Int)&&&BitVec.ofInt 8 (y.toNat:Int)).toNat:Nat):Int)=_;rw[BitVec.toNat_and,jx _ x.toNat_lt,jx _ y.toNat_lt,<-UInt8.toNat_and];exact zA _ ⟨by omega,by have:=(x&&&y).toNat_lt;omega⟩
theorem ZJ (x y:UInt8):bits .andNot .u8 (x.toNat:Int) (y.toNat:Int)=((x&&&~~~y).toNat:Int):=by
 show IntKind.u8.wrap (((BitVec.ofInt 8 (x.toNat:Int)&&&~~~ BitVec.ofInt 8 (y.toNat:Int)).toNat:Nat):Int)=_;have e:(~~~ BitVec.ofInt 8 (y.toNat:Int)).toNat=(~~~y).toNat:=by
  rw[BitVec.toNat_not,jx _ y.toNat_lt,UInt8.toNat_not]
 rw[BitVec.toNat_and,jx _ x.toNat_lt,e,<-UInt8.toNat_and];exact zA _ ⟨by omega,by have:=(x&&&~~~y).toNat_lt;omega⟩
theorem aiE (b:UInt8)(k:Nat):(bits .and .u8 ((b.toNat:Int)/2 ^ k) 1==1)=b.toNat.testBit k:=by
 have e:((b.toNat:Int)/2 ^ k)=((b.toNat/2 ^ k:Nat):Int):=by simp
 have hl:b.toNat/2 ^ k<256:=Nat.lt_of_le_of_lt (Nat.div_le_self _ _) b.toNat_lt;have e2:bits .and .u8 ((b.toNat/2 ^ k:Nat):Int) 1=((b.toNat/2 ^ k%2:Nat):Int):=by
  show IntKind.u8.wrap (((BitVec.ofInt 8 ((b.toNat/2 ^ k:Nat):Int)&&&BitVec.ofInt 8 ((1:Nat):Int)).toNat:Nat):Int)=_;rw[BitVec.toNat_and,jx _ hl,jx 1 dc7,Nat.and_one_is_mod];exact zA _ J
 rw[e,e2,Nat.testBit_eq_decide_div_mod_eq,awM];simp only[awJ,awt];omega
def mr (s:List UInt8)(n:Int):Bool:=decide (0<=n)&&aq s n.toNat
theorem uW (s:List UInt8)(i:Nat)(w:World)(_hs:s.length<=140737488351232)(hi:i<=140737488351232):
  Calls prog 157 #[.string ⟨s.toArray⟩,.int .i64 (i:Int)] w λe w'=>e=.returned (.int .u8 ((s.getD i 0).toNat:Int))/\w=w':=by
 by_cases h:i<s.length
 ·have aP:(i:Int)<s.length:=J
  obtain⟨b,hb⟩:∃ b,s[i]?=some b:=⟨_,av6 h⟩
  have hx:=aM (P:=prog) underlying9 s .i64 (i:Int) b J (by simpa using hb);have Hv:Hid (s.getD i 0=b):=Z (by simp[List.getD,hb]);clear hb;go_enter func157,ntmps157;go_wp2;go_ret;exact⟨by rw[Hv.o];rfl,rfl⟩
 ·have aP:¬(i:Int)<s.length:=J
  have Hv:Hid (s.getD i 0=0):=Z (by rw[List.getD,awY J];rfl);go_enter func157,ntmps157;go_wp2;go_ret;exact⟨by first|rfl|(rw[Hv.o];rfl),rfl⟩
theorem Vj (x y:UInt8)(w:World):Calls prog 72 #[.int .u8 (x.toNat:Int),.int .u8 (y.toNat:Int)] w λe w'=>e=.returned (.int .u8 ((x|||y).toNat:Int))/\w=w':=by
 go_enter func72,ntmps72;go_wp2;go_ret;exact⟨by rw[<-or8];rfl,rfl⟩
theorem G9 (x y:UInt8)(w:World):Calls prog 71 #[.int .u8 (x.toNat:Int),.int .u8 (y.toNat:Int)] w λe w'=>e=.returned (.int .u8 ((x&&&~~~y).toNat:Int))/\w=w':=by
 go_enter func71,ntmps71;go_wp2;go_ret;exact⟨by rw[<-ZJ];rfl,rfl⟩
def qL (F:Nat->UInt8)(k m:Nat):Array Value:=((List.range m).map λi=>Value.int .u8 (((if i<k then F i else 0:UInt8).toNat:Nat):Int)).toArray
theorem wB (F:Nat->UInt8)(m:Nat):qL F 0 m=aR (List.replicate m 0):=by
 unfold qL aR gg;apply Array.ext
 ·simp
 ·intro i h1 h2;simp
theorem DK (F:Nat->UInt8)(h:k<m):(qL F k m)[k]?=some (.int .u8 0):=by
 unfold qL;simp[h]
theorem DM (F:Nat->UInt8)(h:k<m):(qL F k m).setIfInBounds k (.int .u8 ((F k).toNat:Int))=qL F (k+1) m:=by
 unfold qL;rw[List.setIfInBounds_toArray]
 congr 1
 apply List.ext_getElem?;intro i;rw[List.getElem?_set];by_cases e:k=i
 ·subst e;simp[h]
 ·rw[awf e];have e2:(if i<k then F i else 0)=(if i<k+1 then F i else 0):=by
   by_cases h:i<k
   ·rw[awd h,awd J]
   ·rw[awf h,awf J]
  by_cases hi:i<m
  ·simp only[aw5,aw6 hi,aw7];rw[e2]
  ·rw[awY (by simp;omega),awY (by simp;omega)]
theorem DN (F:Nat->UInt8)(m:Nat):qL F m m=(gg ((List.range m).map F)).toArray:=by
 unfold qL gg;rw[awv]
 congr 1
 apply aww;intro i hi;rw[aw0]at hi;simp[hi]
theorem sX (l:List UInt8)(b n:Nat)(w:World)(h:World.blk w b (gg l).toArray 5)(hn:l.length=n)(hl:n<=140737488351232):
  Calls prog 83 #[.slice (some ⟨b,0,none⟩) n n] w λe w'=>e=.returned (.string ⟨(least l).toArray⟩)/\w=w':=by
 have hc:=pq (P:=prog) w 131 9 5 b 0 n n l underlying131 underlying5 underlying9 hn (λj hj=>by rw[awR,aa h];simp[gg]);have ht:=Tryz.strings_TrimRight_one ⟨l.toArray⟩ 0 dc7 w (by show l.toArray.size<=_;simp;omega);have Ht:=Z ht;clear h ht;go_enter func83,ntmps83;go_wp2_with fail;refine Ht.mono ?_;rintro e w' ⟨rfl,rfl⟩;go_wp2;go_ret;exact⟨rfl,rfl⟩
theorem Vk (a b:List UInt8)(w:World)(ha:a.length<=140737488351232)(hb:b.length<=140737488351232):
  Calls prog 70 #[.string ⟨a.toArray⟩,.string ⟨b.toArray⟩,.func (.func 72) #[] #[]] w λe w'=>e=.returned (.string ⟨(dZ a b).toArray⟩)/\af w w':=by
 obtain⟨m,hm⟩:∃ m,max a.length b.length=m:=⟨_,rfl⟩
 have CM:m<=140737488351232:=J
 have hmi:max (a.length:Int) (b.length:Int)=(m:Int):=J
 have rx:=jn (P:=prog) (ts:=131) (te:=5) underlying131 kr7 m J;obtain⟨Hm,HA,HB⟩:=K3 hm ha hb;clear hm ha hb;go_enter func70,ntmps70;go_wp2_with fail;have HO:Hid (World.blk (w.alloc (.cells (aR (List.replicate m 0)) 5)) w.heap.size (qL (λi=>(λx y=>x|||y) (a.getD i 0) (b.getD i 0)) 0 m) 5):=Z (by rw[wB];exact av _ _ _);have HK:Hid (af w (w.alloc (.cells (aR (List.replicate m 0)) 5))):=Z ((ai.refl _ w).alloc _);clear hmi rx;generalize (w.alloc (.cells (aR (List.replicate m 0)) 5))=w0 at*;obtain⟨ob,ib⟩:∃ ob,w.heap.size=ob:=⟨_,rfl⟩
 have yj:=Z ib;rw[ib]at HO;rw[ib];clear ib
 go_loopw [17] (λi wr=>∃ k:Nat,k<=m/\i=.int .i64 (k:Int)/\af w wr/\World.blk wr ob (qL (λi=>(λx y=>x|||y) (a.getD i 0) (b.getD i 0)) k m) 5) (λi _=>m-(intOf i).toNat)
 case atStart=>exact⟨0,J,rfl,HK.o,HO.o⟩
 case round=>
  clear HO HK;obtain⟨k,hk,rfl,hK,hO⟩:=hrel;obtain⟨HK,HO⟩:=K2 hK hO;clear hK hO;by_cases aP:k<m
  ·have dL:(k:Int)<m:=J
   have c0:wr.cell? ⟨ob,k,none⟩=some (.int .u8 0):=by rw[aa HO.o];exact DK _ aP
   have f0:wr.frozen? ⟨ob,k,none⟩=false:=ae HO.o _ rfl;obtain⟨x,hx⟩:∃ x,a.getD k 0=x:=⟨_,rfl⟩
   obtain⟨y,hy⟩:∃ y,b.getD k 0=y:=⟨_,rfl⟩
   obtain⟨Hx,Hy⟩:=K2 hx hy;have ca:=uW a k wr (by have:=HA.o;omega) J;have cb:=uW b k wr (by have:=HB.o;omega) J;rw[hx]at ca;rw[hy]at cb;obtain⟨Ca,Cb⟩:=K2 ca cb;clear hx hy ca cb;go_wp2_with fail;refine Ca.mono ?_;rintro e w' ⟨rfl,rfl⟩;go_wp2_with fail;refine Cb.mono ?_;rintro e w' ⟨rfl,rfl⟩;obtain⟨z,hz⟩:∃ z,x|||y=z:=⟨_,rfl⟩
   have cz:=Vj x y wr;rw[hz]at cz;obtain⟨Cz,Hz⟩:=K2 cz hz;clear cz hz;go_wp2_with fail;refine Cz.mono ?_;rintro e w' ⟨rfl,rfl⟩;go_wp2_with fail;refine⟨⟨k+1,J,by go_num,HK.setCell (p:=⟨ob,k,none⟩) (.inr (by rw[yj.o];exact av9 _)) _,?_⟩,by simp[intOf];omega⟩;have h:=ah HO.o k (.int .u8 (z.toNat:Int));rw[<-DM (λi=>(λx y=>x|||y) (a.getD i 0) (b.getD i 0)) aP];show World.blk _ ob ((qL _ k m).setIfInBounds k (.int .u8 (((λx y=>x|||y) (a.getD k 0) (b.getD k 0)).toNat:Int))) _;rw[Hx.o,Hy.o,show(λx y=>x|||y) x y=z from Hz.o];exact h
  ·obtain rfl:k=m:=J
   have HL:Hid (World.blk wr ob (gg ((List.range k).map λi=>(λx y=>x|||y) (a.getD i 0) (b.getD i 0))).toArray 5):=Z (by rw[<-DN];exact HO.o);clear HO;go_wp2_with fail;refine(sX _ ob k wr HL.o sp7 J).mono ?_;rintro e w' ⟨rfl,rfl⟩;go_wp2;go_ret;exact⟨by show _=Ending.returned (.string ⟨(oh (·|||·) a b).toArray⟩);unfold oh;rw[Hm.o];rfl,HK.o⟩
theorem jX (a b:List UInt8)(w:World)(ha:a.length<=140737488351232)(hb:b.length<=140737488351232):
  Calls prog 27 #[.string ⟨a.toArray⟩,.string ⟨b.toArray⟩] w λe w'=>e=.returned (.string ⟨(dZ a b).toArray⟩)/\af w w':=by
 have HC:=Z (Vk a b w ha hb);clear ha hb;go_enter func27,ntmps27;go_wp2_with fail;refine HC.mono ?_;rintro e w1 ⟨rfl,hk⟩;have HK:=Z hk;clear hk HC;go_wp2;go_ret;exact⟨rfl,HK.o⟩
theorem Hw (a b:List UInt8)(w:World)(ha:a.length<=140737488351232)(hb:b.length<=140737488351232):
  Calls prog 70 #[.string ⟨a.toArray⟩,.string ⟨b.toArray⟩,.func (.func 71) #[] #[]] w λe w'=>e=.returned (.string ⟨(bV a b).toArray⟩)/\af w w':=by
 obtain⟨m,hm⟩:∃ m,max a.length b.length=m:=⟨_,rfl⟩
 have CM:m<=140737488351232:=J
 have hmi:max (a.length:Int) (b.length:Int)=(m:Int):=J
 have rx:=jn (P:=prog) (ts:=131) (te:=5) underlying131 kr7 m J;obtain⟨Hm,HA,HB⟩:=K3 hm ha hb;clear hm ha hb;go_enter func70,ntmps70;go_wp2_with fail;have HO:Hid (World.blk (w.alloc (.cells (aR (List.replicate m 0)) 5)) w.heap.size (qL (λi=>(λx y=>x&&&~~~y) (a.getD i 0) (b.getD i 0)) 0 m) 5):=Z (by rw[wB];exact av _ _ _);have HK:Hid (af w (w.alloc (.cells (aR (List.replicate m 0)) 5))):=Z ((ai.refl _ w).alloc _);clear hmi rx;generalize (w.alloc (.cells (aR (List.replicate m 0)) 5))=w0 at*;obtain⟨ob,ib⟩:∃ ob,w.heap.size=ob:=⟨_,rfl⟩
 have yj:=Z ib;rw[ib]at HO;rw[ib];clear ib
 go_loopw [17] (λi wr=>∃ k:Nat,k<=m/\i=.int .i64 (k:Int)/\af w wr/\World.blk wr ob (qL (λi=>(λx y=>x&&&~~~y) (a.getD i 0) (b.getD i 0)) k m) 5) (λi _=>m-(intOf i).toNat)
 case atStart=>exact⟨0,J,rfl,HK.o,HO.o⟩
 case round=>
  clear HO HK;obtain⟨k,hk,rfl,hK,hO⟩:=hrel;obtain⟨HK,HO⟩:=K2 hK hO;clear hK hO;by_cases aP:k<m
  ·have dL:(k:Int)<m:=J
   have c0:wr.cell? ⟨ob,k,none⟩=some (.int .u8 0):=by rw[aa HO.o];exact DK _ aP
   have f0:wr.frozen? ⟨ob,k,none⟩=false:=ae HO.o _ rfl;obtain⟨x,hx⟩:∃ x,a.getD k 0=x:=⟨_,rfl⟩
   obtain⟨y,hy⟩:∃ y,b.getD k 0=y:=⟨_,rfl⟩
   obtain⟨Hx,Hy⟩:=K2 hx hy;have ca:=uW a k wr (by have:=HA.o;omega) J;have cb:=uW b k wr (by have:=HB.o;omega) J;rw[hx]at ca;rw[hy]at cb;obtain⟨Ca,Cb⟩:=K2 ca cb;clear hx hy ca cb;go_wp2_with fail;refine Ca.mono ?_;rintro e w' ⟨rfl,rfl⟩;go_wp2_with fail;refine Cb.mono ?_;rintro e w' ⟨rfl,rfl⟩;obtain⟨z,hz⟩:∃ z,x&&&~~~y=z:=⟨_,rfl⟩
   have cz:=G9 x y wr;rw[hz]at cz;obtain⟨Cz,Hz⟩:=K2 cz hz;clear cz hz;go_wp2_with fail;refine Cz.mono ?_;rintro e w' ⟨rfl,rfl⟩;go_wp2_with fail;refine⟨⟨k+1,J,by go_num,HK.setCell (p:=⟨ob,k,none⟩) (.inr (by rw[yj.o];exact av9 _)) _,?_⟩,by simp[intOf];omega⟩;have h:=ah HO.o k (.int .u8 (z.toNat:Int));rw[<-DM (λi=>(λx y=>x&&&~~~y) (a.getD i 0) (b.getD i 0)) aP];show World.blk _ ob ((qL _ k m).setIfInBounds k (.int .u8 (((λx y=>x&&&~~~y) (a.getD k 0) (b.getD k 0)).toNat:Int))) _;rw[Hx.o,Hy.o,show(λx y=>x&&&~~~y) x y=z from Hz.o];exact h
  ·obtain rfl:k=m:=J
   have HL:Hid (World.blk wr ob (gg ((List.range k).map λi=>(λx y=>x&&&~~~y) (a.getD i 0) (b.getD i 0))).toArray 5):=Z (by rw[<-DN];exact HO.o);clear HO;go_wp2_with fail;refine(sX _ ob k wr HL.o sp7 J).mono ?_;rintro e w' ⟨rfl,rfl⟩;go_wp2;go_ret;exact⟨by show _=Ending.returned (.string ⟨(oh (λx y=>x&&&~~~y) a b).toArray⟩);unfold oh;rw[Hm.o];rfl,HK.o⟩
theorem mW (a b:List UInt8)(w:World)(ha:a.length<=140737488351232)(hb:b.length<=140737488351232):
  Calls prog 26 #[.string ⟨a.toArray⟩,.string ⟨b.toArray⟩] w λe w'=>e=.returned (.string ⟨(bV a b).toArray⟩)/\af w w':=by
 have HC:=Z (Hw a b w ha hb);clear ha hb;go_enter func26,ntmps26;go_wp2_with fail;refine HC.mono ?_;rintro e w1 ⟨rfl,hk⟩;have HK:=Z hk;clear hk HC;go_wp2;go_ret;exact⟨rfl,HK.o⟩
theorem Bc (s:List UInt8)(n:Int)(w:World)(hs:s.length<=140737488351232)(hn:-9223372036854775808<=n/\n<=9223372036854775807):
  Calls prog 33 #[.string ⟨s.toArray⟩,.int .i64 n] w λe w'=>e=.returned (.bool (mr s n))/\w=w':=by
 by_cases h0:0<=n
 ·obtain⟨m,rfl⟩:=Int.eq_ofNat_of_zero_le h0;by_cases h:m/8<s.length
  ·have aP:(m:Int)/8<s.length:=J
   obtain⟨b,hb⟩:∃ b,s[m/8]?=some b:=⟨_,av6 h⟩
   have hx:=aM (P:=prog) underlying9 s .i64 ((m:Int)/8) b J (by rw[show((m:Int)/8).toNat=m/8 by omega];exact hb);have Hv:Hid (mr s m=b.toNat.testBit (m%8)):=Z (by simp[mr,aq,hb]);clear hb;go_enter func33,ntmps33;go_wp2;go_ret;exact⟨by rw[Hv.o,<-aiE];rfl,rfl⟩
  ·have aP:¬(m:Int)/8<s.length:=J
   have Hv:Hid (mr s m=false):=Z (by unfold mr;rw[awH,l9 J];simp);go_enter func33,ntmps33;go_wp2;go_ret;exact⟨by rw[Hv.o];rfl,rfl⟩
 ·have Hv:Hid (mr s n=false):=Z (by simp[mr,h0]);go_enter func33,ntmps33;go_wp2;go_ret;exact⟨by rw[Hv.o];rfl,rfl⟩
end
end Go.Proofs.YtkghpdcloaiflaaGreatDoor
