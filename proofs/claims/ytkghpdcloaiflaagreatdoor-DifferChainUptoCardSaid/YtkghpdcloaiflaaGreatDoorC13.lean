import Derived.Test.YtkghpdcloaiflaaGreatDoorC12
set_option maxHeartbeats 1000000
set_option maxRecDepth 100000
namespace Go.Proofs.YtkghpdcloaiflaaGreatDoor
open _root_.Go.Proofs.Tryz
section
def aR (rd:Rd)(data:ay)(b:fR)(S:Nat->Prop):Prop:=data.length<=16384/\∃ nums,b=dp data nums/\eG rd data nums/\∀ n:Nat,S n↔(n:Int)∈nums.flatten
def mu (rd:Rd):List fF->List Nt->(Nat->Prop)->Prop
 |[],[],S=>∀ n,¬ S n
 |y::ys,x::xs,S=>(y.num=x.num/\y.dir=x.dir/\y.links=x.links)/\∃ A B,aR rd x.data y.blob A/\mu rd ys xs B/\∀ n,S n↔A n\/B n
 |_,_,_=>False
def lM (rd:Rd)(inos:List fF)(nodes:List Nt)(table:fR)(S:Nat->Prop):Prop:=∃ A B,mu rd inos nodes A/\aR rd (jT inos) table B/\∀ n,S n↔A n\/B n
section
variable {rd Kp:Rd}{data:ay}{b:fR}{S:Nat->Prop}
theorem KZ {nums:List (List Int)}(h:eG rd data nums)(hr:∀ n∈nums.flatten,Kp n=rd n):eG Kp data nums:=by
 have key:∀(l i:Nat) (n:Int),(nums.getD l [])[i]?=some n->Kp n=rd n:=by
  intro l i n hn;apply hr;have hm:=atJ hn;by_cases hl:l<nums.length
  ·rw[List.getD,atI hl]at hm;exact List.mem_flatten.2 ⟨_,aum hl,hm⟩
  ·rw[List.getD,auF (by omega)]at hm;cases hm
 exact⟨h.shape,fun i n hn=>(key 0 i n hn).trans (h.chunk i n hn),fun l i n hn=>(key (l+1) i n hn).trans (h.ptr l i n hn),h.range⟩
theorem mY {nums:List (List Int)}(h:eG rd data nums){n:Int}(hn:n∈nums.flatten):1<=n/\n<4096:=by
 obtain⟨l,hl,hm⟩:=List.mem_flatten.1 hn;exact h.range l hl n hm
theorem aR.turn (h:aR rd data b S)(hr:∀ n:Nat,S n->Kp n=rd n):aR Kp data b S:=by
 obtain⟨hl,nums,e,ht,hS⟩:=h;refine⟨hl,nums,e,KZ ht (fun n hn=>?_),hS⟩;have:=mY ht hn;obtain⟨k,rfl⟩:∃ k:Nat,n=k:=⟨n.toNat,by omega⟩
 exact hr k ((hS k).2 hn)
theorem aR.lt (h:aR rd data b S){n:Nat}(hn:S n):1<=n/\n<4096:=by
 obtain⟨_,nums,_,ht,hS⟩:=h;have:=mY ht ((hS n).1 hn);omega
theorem aR.reach (h:aR rd data b S):∃ o,ox rd b=.ok o/\∀ n:Int,n∈o↔∃ k:Nat,n=k/\S k:=by
 obtain⟨hl,nums,rfl,ht,hS⟩:=h;obtain⟨o,e,ho⟩:=Pg ht hl;refine⟨o,e,fun n=>?_⟩;rw[ho]
 constructor
 ·intro hn;have:=mY ht hn;exact⟨n.toNat,by omega,(hS _).2 (by rwa [show((n.toNat:Nat):Int)=n by omega])⟩
 ·rintro⟨k,rfl,hk⟩;exact(hS k).1 hk
theorem aR.may (h:aR rd data b S):b.ok=true:=by
 obtain⟨hl,nums,rfl,ht,_⟩:=h;unfold fR.ok;rw[qA ht hl];unfold dp;split
 ·rfl
 ·have:=pE ht (by omega) hl;simp;omega
theorem aR.small (h:aR rd data b S):0<=b.root/\b.root<4096/\0<=b.size/\b.size<=16384:=by
 obtain⟨hl,nums,rfl,ht,_⟩:=h;unfold dp;split
 ·simp
 ·have:=pE ht (by omega) hl;simp;omega
theorem aR.any (h:aR rd data b S)(h0:0<data.length):∃ n,S n:=by
 obtain⟨hl,nums,rfl,ht,hS⟩:=h;obtain⟨h1,h2,h3,h4⟩:=pE ht h0 hl;have hm:iF nums∈nums.flatten:=by
  refine List.mem_flatten.2 ⟨_,aum (show nums.length-1<nums.length by omega),?_⟩;have:nums.getD (nums.length-1) []=nums[nums.length-1]:=by simp[List.getD,show nums.length-1<nums.length by omega]
  rw[<-this,h2];simp
 exact⟨(iF nums).toNat,(hS _).2 (by rwa [show(((iF nums).toNat:Nat):Int)=iF nums by omega])⟩
theorem iY (rd:Rd):aR rd [] ⟨0,0⟩ (fun _=>False):=
 ⟨by simp,[],rfl,⟨rfl,fun i n h=>by simp at h,fun l i n h=>by simp at h,fun l h=>by simp at h⟩,fun n=>by simp⟩
theorem aR.reached (h:aR rd data b S)(set:ay):∃ s,dI rd set b=.ok s/\eT s/\∀ n,ak s n=true↔ak set n=true\/S n:=by
 obtain⟨o,e,ho⟩:=h.reach;refine⟨d6 set (iE (o.map Int.toNat)),?_,gF _ _ _,fun n=>?_⟩
 ·unfold dI;rw[e];simp only;rw[atP];rw[at3];intro x hx;obtain⟨k,rfl,hk⟩:=(ho x).1 hx;have:=h.lt hk;simp;omega
 ·rw[iL,vk,at5];apply or_congr Iff.rfl;simp only[List.contains_eq_mem,aui,aua]
  constructor
  ·rintro⟨x,hx,rfl⟩;obtain⟨k,rfl,hk⟩:=(ho x).1 hx;simpa using hk
  ·intro hn;exact⟨n,(ho n).2 ⟨n,rfl,hn⟩,by simp⟩
end
theorem Jw (stay:Nat->Option Int)(s:Nat->ay)(L:List Int)(i:Nat)(t:gA)(h:∀ j n,L[j]?=some n->stay (i+j)=some n):ij stay s L.length i t=.ok (L,t):=by
 induction L generalizing i with
 |nil=>rfl
 |cons a L ih=>
  have h0:=h 0 a rfl;rw[Nat.add_zero]at h0;rw[atH,ij,h0];simp only;rw[ih (i+1) (fun j n hn=>by have:=h (j+1) n (by simpa using hn);rwa [show i+1+j=i+(j+1) by omega])];rfl
theorem TT (was:List (List Int))(t:gA)(r:List (List Int))(bo:Nat)(now:List Int)(h0:was.getD bo []=now)(hr:∀ j,j<r.length->was.getD (bo+1+j) []=r.getD j []):
  qq true was (r.map List.length) (bo+1) now t=.ok (r,t):=by
 induction r generalizing bo now with
 |nil=>rfl
 |cons L r ih=>
  have hL:=hr 0 (by simp);simp only[Nat.add_zero,List.getD_cons_zero]at hL;rw[atF,qq,Jw _ _ L 0 t]
  ·simp only;rw[ih (bo+1) L hL (fun j hj=>by
    have:=hr (j+1) (by simp;omega);rw[show bo+1+(j+1)=bo+1+1+j by omega]at this;simpa using this)]
   rfl
  ·intro j n hn;have hj:=(atX.1 hn).1;unfold em;rw[auy,hL,Nat.add_sub_cancel,h0,atP ⟨rfl,hj,rfl⟩,<-getD_some hj];exact hn
theorem Gm {rd:Rd}{data:ay}{was:List (List Int)}(h:eG rd data was)(_hs:data.length<=16384)(t:gA):ku data data was t=.ok (was,t):=by
 unfold ku
 cases was with
 |nil=>
  have:=h.shape;rw[<-this];rfl
 |cons L r=>
  have:=h.shape;rw[<-this,atF];simp only;have hp:∀ i n,L[i]?=some n->fS data data (L::r) i=some n:=by
   intro i n hn;unfold fS;have hj:=(atX.1 hn).1;rw[atP rfl,List.getD_cons_zero,<-getD_some hj];exact hn
  rw[Jw _ _ L 0 t (fun j n hn=>by rw[auy];exact hp j n hn)];simp only;have e:((L::r).length==(r.map List.length).length+1)=true:=by simp
  rw[e,TT (L::r) t r 0 L rfl (fun j _=>by rw[show 0+1+j=j+1 by omega];simp)];rfl
theorem C6 {t:gA}{data:ay}{b:fR}{S:Nat->Prop}(h:aR t.rd data b S):dE t b data=.ok (b,t):=by
 obtain⟨hs,nums,rfl,hw,_⟩:=h;obtain⟨o,e1,e2,_⟩:=kJ hw hs true;unfold dE;rw[atR (by omega),e1];simp only[↓reduceIte];rw[e2,Gm hw hs];rfl
theorem Jy (l:List Bool):l7 l<=l.length:=atU _ _
theorem Gn (alike:Bool)(r:List Nat)(n was:Nat)(o:List Bool):cW alike r n was o<=r.sum:=by
 induction r generalizing n was o with
 |nil=>exact atL _
 |cons m r ih=>
  have h1:=Jy (ir alike m n was o);have h2:=ih m (bN was 60) (ir alike m n was o);have h3:(ir alike m n was o).length=m:=by simp[ir]
  simp only[cW,atG];omega
theorem gt (bg data:ay):da bg data<=aQ data.length:=by
 unfold da aQ
 cases ib:au data.length with
 |nil=>exact atL _
 |cons m r=>
  have h1:=Jy (iW bg data);have h2:=Gn ((au bg.length).length==(m::r).length) r m (bN bg.length 240) (iW bg data);have h3:(iW bg data).length=m:=by
   simp only[iW,aug,List.length_range];rcases aK data.length with⟨h0,e⟩|⟨h0,h2,e⟩|⟨_,_,e⟩|⟨_,e⟩<;>rw[e]at ib
   ·cases ib
   ·have h1:=(aJ (n:=data.length) (each:=240) (k:=1) (by decide)).2 (by omega);have h3:=dG (n:=data.length) (each:=240) (by decide);injection ib;omega
   all_goals (injection ib)
  simp only[atG];omega
theorem zq {l:List Bool}(h:∀ x∈l,x=false):l7 l=0:=by
 unfold l7;rw[auk,List.filter_eq_nil_iff];intro x hx;simp[h x hx]
theorem AM (r:List Nat)(n:Nat)(o:List Bool)(ho:∀ x∈o,x=false)(hr:∀ j,j<r.length->r.getD j 0=bN ((n::r).getD j 0) 60):cW true r n n o=0:=by
 induction r generalizing n o with
 |nil=>rfl
 |cons m r ih=>
  have hm:m=bN n 60:=by have:=hr 0 (by simp);simpa using this
  have h1:∀ x∈ir true m n n o,x=false:=by
   intro x hx;unfold ir at hx;obtain⟨i,hi,rfl⟩:=aui.1 hx;rw[auH]at hi;have h2:(dH o (60*i) 60).any id=false:=by
    rw[Bool.eq_false_iff];intro h;obtain⟨k,_,hk⟩:=AJ.1 h;have:=ho _ (atJ hk)
    cases this
   rw[h2];simp;omega
  simp only[cW];rw[zq h1,<-hm,ih m _ h1 (fun j hj=>by have:=hr (j+1) (by simp;omega);simpa using this)]
theorem mw (size:Nat)(hs:size<=16384):∀ j,j+1<(au size).length->(au size).getD (j+1) 0=bN ((au size).getD j 0) 60:=by
 intro l hl;rcases aK size with⟨h0,e⟩|⟨h0,h2,e⟩|⟨h0,h2,e⟩|⟨h0,e⟩<;>rw[e]at hl ⊢
 ·simp at hl
 ·simp at hl
 ·obtain rfl:l=0:=by simp at hl;omega
  have h1:=(aJ (n:=size) (each:=240) (k:=60) (by decide)).2 (by omega);have h3:=dG (n:=size) (each:=240) (by decide);have h4:=dG (n:=bN size 240) (each:=60) (by decide);have h5:=(aJ (n:=bN size 240) (each:=60) (k:=1) (by decide)).2 (by omega);simp;omega
 ·rcases l with _|_|l
  ·rfl
  ·have h1:=(aJ (n:=size) (each:=240) (k:=69) (by decide)).2 (by omega);have h3:=(aJ (n:=bN size 240) (each:=60) (k:=2) (by decide)).2 (by omega);have h7:=(dG (n:=bN size 240) (each:=60) (by decide))
   have h6:=(dG (n:=size) (each:=240) (by decide))
   have h4:=dG (n:=bN (bN size 240) 60) (each:=60) (by decide);have h5:=(aJ (n:=bN (bN size 240) 60) (each:=60) (k:=1) (by decide)).2 (by omega);simp;omega
  ·simp at hl;omega
theorem kM (data:ay)(hs:data.length<=16384):da data data=0:=by
 unfold da
 cases ib:au data.length with
 |nil=>rfl
 |cons m r=>
  have h0:∀ x∈iW data data,x=false:=by
   intro x hx;unfold iW at hx;obtain⟨i,_,rfl⟩:=aui.1 hx;simp
  have hm:m=bN data.length 240:=by
   rcases aK data.length with⟨h0,e⟩|⟨h0,h2,e⟩|⟨_,_,e⟩|⟨_,e⟩<;>rw[e]at ib
   ·cases ib
   ·have h1:=(aJ (n:=data.length) (each:=240) (k:=1) (by decide)).2 (by omega);have h3:=dG (n:=data.length) (each:=240) (by decide);injection ib;omega
   all_goals (injection ib;omega)
  have hu:=mw data.length hs;rw[ib]at hu;simp only[beq_self_eq_true];rw[zq h0,hm,AM r _ _ h0 (fun j hj=>by
   have:=hu j (by simp;omega);rw[hm]at this;simpa using this)]
theorem C7 {a b each:Nat}(h:a<=b):bN a each<=bN b each:=Nat.div_le_div_right (by omega)
theorem vV {a b:Nat}(h:a<=b)(hb:b<=16384):aQ a<=aQ b:=by
 have h1:=C7 (each:=240) h;have h2:=C7 (each:=60) h1;have hz:=fun n=>dG (n:=n) (each:=240) (by decide);have ha1:=(aJ (n:=a) (each:=240) (k:=1) (by decide))
 have hb1:=(aJ (n:=b) (each:=240) (k:=1) (by decide))
 have hza:=hz a;have ZK:=hz b;unfold aQ;rcases aK a with⟨_,e⟩|⟨_,_,e⟩|⟨_,_,e⟩|⟨_,e⟩<;>rcases aK b with⟨_,e'⟩|⟨_,_,e'⟩|⟨_,_,e'⟩|⟨_,e'⟩<;>rw[e,e']<;>simp only[atG,List.sum_nil]<;>omega
end
def gc (used:ay)(a:Nat):Nat:=((List.range' 1 (a-1)).filter fun n=>!ak used n).length
theorem tR (used:ay){a:Nat}(h:1<=a):gc used (a+1)=gc used a+if ak used a=true then 0 else 1:=by
 unfold gc;rw[show a+1-1=(a-1)+1 by omega,List.range'_concat,List.filter_append,at0]
 congr 1
 rw[show 1+1*(a-1)=a by omega]
 cases h2:ak used a<;>simp[h2]
theorem oR (used:ay){a:Nat}(h:1<=a):∀ k,(∀ m,a<=m->m<a+k->ak used m=true)->gc used (a+k)=gc used a
 |0,_=>rfl
 |k+1,hk=>by
  rw[<-atY,tR used (by omega),hk (a+k) (by omega) (by omega),atP rfl,Nat.add_zero];exact oR used h k fun m h1 h2=>hk m h1 (by omega)
theorem Gp {used:ay}{a b n:Nat}(h1:1<=a)(h:fY used a b=some n):gc used (n+1)=gc used a+1:=by
 obtain⟨h2,h3,h4,h5⟩:=ow h;rw[tR used (by omega),h4];have:=oR used h1 (n-a) fun m hm hn=>h5 m hm (by omega);rw[show a+(n-a)=n by omega]at this;rw[this];rfl
theorem Gq {used:ay}{a b:Nat}(h1:1<=a)(Na:a<=b)(h:fY used a b=none):gc used b=gc used a:=by
 have:=oR used h1 (b-a) fun m hm hn=>vi h m hm (by omega)
 rwa [show a+(b-a)=b by omega]at this
theorem K0 (used:ay)(a:Nat):gc used a<=a:=by
 unfold gc;exact atE (atU _ _) (by simp)
theorem rD (s:ay):(least s).length<=s.length:=by
 unfold least;rw[List.length_reverse];have h:∀ l:ay,(l.dropWhile (·==0)).length<=l.length:=by
  intro l
  induction l with
  |nil=>exact atL _
  |cons x r ih=>
   rw[List.dropWhile_cons];split
   ·exact atE ih (by simp)
   ·exact atL _
 exact atE (h _) (by simp)
theorem jV (a b:ay):(d6 a b).length<=max a.length b.length:=by
 unfold d6 oq;refine atE (rD _) (by simp)
theorem kO (a b:ay):(bK a b).length<=max a.length b.length:=by
 unfold bK oq;refine atE (rD _) (by simp)
theorem C8 (n:Nat):(iE [n]).length<=n/8+1:=by
 unfold iE;refine atE (rD _) (by simp)
theorem AO {l:List Nat}{k:Nat}(h:∀ x∈l,x<=k):∀ {a:Nat},a<=k->l.foldl max a<=k:=by
 induction l with
 |nil=>intro a ha;exact ha
 |cons x r ih=>
  intro a ha;exact ih (fun y hy=>h y (by simp[hy])) (by have:=h x (by simp);omega)
theorem AP {l:List Nat}{k:Nat}(h:∀ x∈l,x<=k):(iE l).length<=k/8+1:=by
 unfold iE;refine atE (rD _) ?_;have:=AO h (a:=0) (by omega);simp;omega
theorem Gr (used:ay){blocks next:Nat}(h1:1<=next)(h2:next<=blocks)(h3:blocks<=4096):cE (gm used blocks next):=⟨h1,h2,h3,rfl⟩
def l8 (c:UInt8):List Nat:=(List.range 8).filter fun k=>c.toNat.testBit k
def tz (c:UInt8):Nat:=((List.range 8).find? fun k=>c.toNat.testBit k).getD 8
theorem K5 (c:UInt8)(h:c≠0):l8 c=tz c::l8 (c&&&(c-1)):=by
 have key:∀ n:Fin 256,n.1≠0->l8 (UInt8.ofNat n.1)=tz (UInt8.ofNat n.1)::l8 (UInt8.ofNat n.1&&&(UInt8.ofNat n.1-1)):=by decide +kernel
 have:=key ⟨c.toNat,c.toNat_lt⟩ (fun e=>h (by apply UInt8.toNat_inj.1;simpa using e));simpa using this
theorem La:l8 0=[]:=by decide
theorem Wg (c:UInt8)(h:c≠0):tz c<8:=by
 have key:∀ n:Fin 256,n.1≠0->tz (UInt8.ofNat n.1)<8:=by decide +kernel
 have:=key ⟨c.toNat,c.toNat_lt⟩ (fun e=>h (by apply UInt8.toNat_inj.1;simpa using e));simpa using this
theorem Pn (c:UInt8)(h:c≠0):(c&&&(c-1)).toNat<c.toNat:=by
 have key:∀ n:Fin 256,n.1≠0->(UInt8.ofNat n.1&&&(UInt8.ofNat n.1-1)).toNat<(UInt8.ofNat n.1).toNat:=by decide +kernel
 have:=key ⟨c.toNat,c.toNat_lt⟩ (fun e=>h (by apply UInt8.toNat_inj.1;simpa using e));simpa using this
theorem vW (c:UInt8)(r:Nat)(hr:r<8):(let d:=(c>>>UInt8.ofNat r)<<<UInt8.ofNat r;(d=0->∀ k,r<=k->k<8->c.toNat.testBit k=false)/\(d≠0->r<=tz d/\tz d<8/\c.toNat.testBit (tz d)=true/\∀ k,r<=k->k<tz d->c.toNat.testBit k=false)):=by
 have key:∀(n:Fin 256) (r:Fin 8),(let d:=(UInt8.ofNat n.1>>>UInt8.ofNat r.1)<<<UInt8.ofNat r.1;(d=0->∀ k:Fin 8,r.1<=k.1->(UInt8.ofNat n.1).toNat.testBit k.1=false)/\(d≠0->r.1<=tz d/\tz d<8/\(UInt8.ofNat n.1).toNat.testBit (tz d)=true/\∀ k:Fin 8,r.1<=k.1->k.1<tz d->(UInt8.ofNat n.1).toNat.testBit k.1=false)):=by decide +kernel
 have:=key ⟨c.toNat,c.toNat_lt⟩ ⟨r,hr⟩;simp only[UInt8.ofNat_toNat]at this;refine⟨fun h k h1 h2=>this.1 h ⟨k,h2⟩ h1,fun h=>?_⟩;obtain⟨a,b,c',d⟩:=this.2 h;exact⟨a,b,c',fun k h1 h2=>d ⟨k,by omega⟩ h1 h2⟩
def jE (s:List UInt8)(k:Nat):List Nat:=(List.range (8*k)).filter fun n=>ak s n
theorem Gs (s:List UInt8):jE s s.length=cK s:=rfl
theorem tS (s:List UInt8)(k:Nat):jE s (k+1)=jE s k++(l8 (s.getD k 0)).map (8*k+·):=by
 unfold jE l8;rw[show 8*(k+1)=8*k+8 by omega,List.range_add,List.filter_append]
 congr 1
 rw[List.filter_map]
 congr 1
 apply List.filter_congr;intro j hj;rw[auH]at hj;simp only[Function.comp];rw[dR hj]
theorem vX (s:List UInt8)(k:Nat)(h:k<=s.length):jE s k <+: cK s:=by
 have:cK s=jE s (k+(s.length-k)):=by rw[show k+(s.length-k)=s.length by omega];rfl
 rw[this];generalize s.length-k=d
 induction d with
 |zero=>exact List.prefix_refl _
 |succ d ih=>rw[<-atY,tS];exact ih.trans (List.prefix_append _ _)
theorem Jz {s:List UInt8}{a n:Nat}(h1:a<=n)(h2:ak s n=true)(h3:∀ m,a<=m->m<n->ak s m=false):mj s a=some n:=by
 unfold mj;rw[List.find?_range'_eq_some];exact⟨h2,by rw[auK];have:=FL h2;omega,fun j hj ZT=>by rw[h3 j hj ZT];rfl⟩
theorem Lb {s:List UInt8}{a:Nat}(h:∀ m,a<=m->ak s m=false):mj s a=none:=by
 unfold mj;rw[auL];intro m hm;rw[auK]at hm;rw[h m hm.1];simp
section
open Go.RowKit
theorem jr (n:Nat)(h:n<256):(BitVec.ofInt 8 (n:Int)).toNat=n:=by rw[BitVec.ofInt_natCast,BitVec.toNat_ofNat];exact ava h
theorem or8 (x y:UInt8):bits .or .u8 (x.toNat:Int) (y.toNat:Int)=((x|||y).toNat:Int):=by
 show IntKind.u8.wrap (((BitVec.ofInt 8 (x.toNat:Int)|||BitVec.ofInt 8 (y.toNat:Int)).toNat:Nat):Int)=_;rw[BitVec.toNat_or,jr _ x.toNat_lt,jr _ y.toNat_lt,<-UInt8.toNat_or];exact Jm _ ⟨by omega,by have:=(x|||y).toNat_lt;omega⟩
theorem agQ (x y:UInt8):bits .and .u8 (x.toNat:Int) (y.toNat:Int)=((x&&&y).toNat:Int):=by
 show IntKind.u8.wrap (((BitVec.ofInt 8 (x.toNat:Int)&&&BitVec.ofInt 8 (y.toNat:Int)).toNat:Nat):Int)=_;rw[BitVec.toNat_and,jr _ x.toNat_lt,jr _ y.toNat_lt,<-UInt8.toNat_and];exact Jm _ ⟨by omega,by have:=(x&&&y).toNat_lt;omega⟩
theorem Ye (x y:UInt8):bits .andNot .u8 (x.toNat:Int) (y.toNat:Int)=((x&&&~~~y).toNat:Int):=by
 show IntKind.u8.wrap (((BitVec.ofInt 8 (x.toNat:Int)&&&~~~ BitVec.ofInt 8 (y.toNat:Int)).toNat:Nat):Int)=_;have e:(~~~ BitVec.ofInt 8 (y.toNat:Int)).toNat=(~~~y).toNat:=by
  rw[BitVec.toNat_not,jr _ y.toNat_lt,UInt8.toNat_not]
 rw[BitVec.toNat_and,jr _ x.toNat_lt,e,<-UInt8.toNat_and];exact Jm _ ⟨by omega,by have:=(x&&&~~~y).toNat_lt;omega⟩
theorem agR (b:UInt8)(k:Nat):(bits .and .u8 ((b.toNat:Int)/2 ^ k) 1==1)=b.toNat.testBit k:=by
 have e:((b.toNat:Int)/2 ^ k)=((b.toNat/2 ^ k:Nat):Int):=by simp
 have hl:b.toNat/2 ^ k<256:=Nat.lt_of_le_of_lt (Nat.div_le_self _ _) b.toNat_lt;have e2:bits .and .u8 ((b.toNat/2 ^ k:Nat):Int) 1=((b.toNat/2 ^ k%2:Nat):Int):=by
  show IntKind.u8.wrap (((BitVec.ofInt 8 ((b.toNat/2 ^ k:Nat):Int)&&&BitVec.ofInt 8 ((1:Nat):Int)).toNat:Nat):Int)=_;rw[BitVec.toNat_and,jr _ hl,jr 1 (by decide),Nat.and_one_is_mod];exact Jm _ (by omega)
 rw[e,e2,Nat.testBit_eq_decide_div_mod_eq,aut];simp only[auq,aua];omega
def vY (s:List UInt8)(n:Int):Bool:=decide (0<=n)&&ak s n.toNat
theorem uN (s:List UInt8)(i:Nat)(w:World)(_hs:s.length<=140737488351232)(hi:i<=140737488351232):
  Calls prog 157 #[.string ⟨s.toArray⟩,.int .i64 (i:Int)] w fun e w'=>e=.returned (.int .u8 ((s.getD i 0).toNat:Int))/\w=w':=by
 by_cases h:i<s.length
 ·have aM:(i:Int)<s.length:=by omega
  obtain⟨b,hb⟩:∃ b,s[i]?=some b:=⟨_,atI h⟩
  have hx:=ba (P:=prog) underlying9 s .i64 (i:Int) b (by omega) (by simpa using hb);have Hv:Hid (s.getD i 0=b):=hd0 (by simp[List.getD,hb]);clear hb;go_enter func157,ntmps157;go_wp2;go_ret;exact⟨by rw[Hv.out];rfl,rfl⟩
 ·have aM:¬(i:Int)<s.length:=by omega
  have Hv:Hid (s.getD i 0=0):=hd0 (by rw[List.getD,auF (by omega)];rfl);go_enter func157,ntmps157;go_wp2;go_ret;exact⟨by first|rfl|(rw[Hv.out];rfl),rfl⟩
theorem TU (x y:UInt8)(w:World):Calls prog 72 #[.int .u8 (x.toNat:Int),.int .u8 (y.toNat:Int)] w fun e w'=>e=.returned (.int .u8 ((x|||y).toNat:Int))/\w=w':=by
 go_enter func72,ntmps72;go_wp2;go_ret;exact⟨by rw[<-or8];rfl,rfl⟩
theorem Gt (x y:UInt8)(w:World):Calls prog 71 #[.int .u8 (x.toNat:Int),.int .u8 (y.toNat:Int)] w fun e w'=>e=.returned (.int .u8 ((x&&&~~~y).toNat:Int))/\w=w':=by
 go_enter func71,ntmps71;go_wp2;go_ret;exact⟨by rw[<-Ye];rfl,rfl⟩
def qC (F:Nat->UInt8)(k m:Nat):Array Value:=((List.range m).map fun i=>Value.int .u8 (((if i<k then F i else 0:UInt8).toNat:Nat):Int)).toArray
theorem vZ (F:Nat->UInt8)(m:Nat):qC F 0 m=aP (List.replicate m 0):=by
 unfold qC aP gi;apply Array.ext
 ·simp
 ·intro i h1 h2;simp
theorem C9 (F:Nat->UInt8){k m:Nat}(h:k<m):(qC F k m)[k]?=some (.int .u8 0):=by
 unfold qC;simp[h]
theorem Db (F:Nat->UInt8){k m:Nat}(h:k<m):(qC F k m).setIfInBounds k (.int .u8 ((F k).toNat:Int))=qC F (k+1) m:=by
 unfold qC;rw[List.setIfInBounds_toArray]
 congr 1
 apply List.ext_getElem?;intro i;rw[List.getElem?_set];by_cases e:k=i
 ·subst e;simp[h]
 ·rw[atR e];have e2:(if i<k then F i else 0)=(if i<k+1 then F i else 0):=by
   by_cases h:i<k
   ·rw[atP h,atP (by omega)]
   ·rw[atR h,atR (by omega)]
  by_cases hi:i<m
  ·simp only[auM,auN hi,auO];rw[e2]
  ·rw[auF (by simp;omega),auF (by simp;omega)]
theorem Dc (F:Nat->UInt8)(m:Nat):qC F m m=(gi ((List.range m).map F)).toArray:=by
 unfold qC gi;rw[auc]
 congr 1
 apply aud;intro i hi;rw[auH]at hi;simp[hi]
theorem sO (l:List UInt8)(b n:Nat)(w:World)(h:World.blk w b (gi l).toArray 5)(hn:l.length=n)(hl:n<=140737488351232):
  Calls prog 83 #[.slice (some ⟨b,0,none⟩) n n] w fun e w'=>e=.returned (.string ⟨(least l).toArray⟩)/\w=w':=by
 have hc:=rl (P:=prog) w 131 9 5 b 0 n n l underlying131 underlying5 underlying9 hn (fun j hj=>by rw[auy,aa h];simp[gi]);have ht:=Tryz.strings_TrimRight_one ⟨l.toArray⟩ 0 (by decide) w (by show l.toArray.size<=_;simp;omega);have Ht:=hd0 ht;clear h ht;go_enter func83,ntmps83;go_wp2_with fail;refine Ht.out.mono ?_;rintro e w' ⟨rfl,rfl⟩;go_wp2;go_ret;exact⟨rfl,rfl⟩
theorem TV (a b:List UInt8)(w:World)(ha:a.length<=140737488351232)(hb:b.length<=140737488351232):
  Calls prog 70 #[.string ⟨a.toArray⟩,.string ⟨b.toArray⟩,.func (.func 72) #[] #[]] w fun e w'=>e=.returned (.string ⟨(d6 a b).toArray⟩)/\af w w':=by
 obtain⟨m,hm⟩:∃ m,max a.length b.length=m:=⟨_,rfl⟩
 have BQ:m<=140737488351232:=by omega
 have hmi:max (a.length:Int) (b.length:Int)=(m:Int):=by omega
 have nV:=jk (P:=prog) (ts:=131) (te:=5) underlying131 (by kernel_rfl) m (by omega);have Hm:=hd0 hm;have HA:=hd0 ha;have HB:=hd0 hb;clear hm ha hb;go_enter func70,ntmps70;go_wp2_with fail;have HO:Hid (World.blk (w.alloc (.cells (aP (List.replicate m 0)) 5)) w.heap.size (qC (fun i=>(fun x y=>x|||y) (a.getD i 0) (b.getD i 0)) 0 m) 5):=hd0 (by rw[vZ];exact aw _ _ _);have HK:Hid (af w (w.alloc (.cells (aP (List.replicate m 0)) 5))):=hd0 ((ah.refl _ w).alloc _);clear hmi nV;generalize (w.alloc (.cells (aP (List.replicate m 0)) 5))=w0 at*;obtain⟨ob,ic⟩:∃ ob,w.heap.size=ob:=⟨_,rfl⟩
 have xU:=hd0 ic;rw[ic]at HO;rw[ic];clear ic
 go_loopw [17] (fun i wr=>∃ k:Nat,k<=m/\i=.int .i64 (k:Int)/\af w wr/\World.blk wr ob (qC (fun i=>(fun x y=>x|||y) (a.getD i 0) (b.getD i 0)) k m) 5) (fun i _=>m-(intOf i).toNat)
 case atStart=>exact⟨0,by omega,rfl,HK.out,HO.out⟩
 case round=>
  clear HO HK;obtain⟨k,hk,rfl,hK,hO⟩:=hrel;have HK:=hd0 hK;have HO:=hd0 hO;clear hK hO;by_cases aM:k<m
  ·have dS:(k:Int)<m:=by omega
   have c0:wr.cell? ⟨ob,k,none⟩=some (.int .u8 0):=by rw[aa HO.out];exact C9 _ aM
   have f0:wr.frozen? ⟨ob,k,none⟩=false:=ae HO.out _ rfl;obtain⟨x,hx⟩:∃ x,a.getD k 0=x:=⟨_,rfl⟩
   obtain⟨y,hy⟩:∃ y,b.getD k 0=y:=⟨_,rfl⟩
   have Hx:=hd0 hx;have Hy:=hd0 hy;have ca:=uN a k wr (by have:=HA.out;omega) (by omega);have cb:=uN b k wr (by have:=HB.out;omega) (by omega);rw[hx]at ca;rw[hy]at cb;have Ca:=hd0 ca;have Cb:=hd0 cb;clear hx hy ca cb;go_wp2_with fail;refine Ca.out.mono ?_;rintro e w' ⟨rfl,rfl⟩;go_wp2_with fail;refine Cb.out.mono ?_;rintro e w' ⟨rfl,rfl⟩;obtain⟨z,hz⟩:∃ z,x|||y=z:=⟨_,rfl⟩
   have cz:=TU x y wr;rw[hz]at cz;have Cz:=hd0 cz;have Hz:=hd0 hz;clear cz hz;go_wp2_with fail;refine Cz.out.mono ?_;rintro e w' ⟨rfl,rfl⟩;go_wp2_with fail;refine⟨⟨k+1,by omega,by go_num,HK.out.setCell (p:=⟨ob,k,none⟩) (.inr (by rw[xU.out];exact atL _)) _,?_⟩,by simp[intOf];omega⟩;have h:=ag HO.out k (.int .u8 (z.toNat:Int));rw[<-Db (fun i=>(fun x y=>x|||y) (a.getD i 0) (b.getD i 0)) aM];show World.blk _ ob ((qC _ k m).setIfInBounds k (.int .u8 (((fun x y=>x|||y) (a.getD k 0) (b.getD k 0)).toNat:Int))) _;rw[Hx.out,Hy.out,show(fun x y=>x|||y) x y=z from Hz.out];exact h
  ·obtain rfl:k=m:=by omega
   have HL:Hid (World.blk wr ob (gi ((List.range k).map fun i=>(fun x y=>x|||y) (a.getD i 0) (b.getD i 0))).toArray 5):=hd0 (by rw[<-Dc];exact HO.out);clear HO;go_wp2_with fail;refine(sO _ ob k wr HL.out (by simp) (by omega)).mono ?_;rintro e w' ⟨rfl,rfl⟩;go_wp2;go_ret;exact⟨by show _=Ending.returned (.string ⟨(oq (·|||·) a b).toArray⟩);unfold oq;rw[Hm.out];rfl,HK.out⟩
theorem jW (a b:List UInt8)(w:World)(ha:a.length<=140737488351232)(hb:b.length<=140737488351232):
  Calls prog 27 #[.string ⟨a.toArray⟩,.string ⟨b.toArray⟩] w fun e w'=>e=.returned (.string ⟨(d6 a b).toArray⟩)/\af w w':=by
 have HC:=hd0 (TV a b w ha hb);clear ha hb;go_enter func27,ntmps27;go_wp2_with fail;refine HC.out.mono ?_;rintro e w1 ⟨rfl,hk⟩;have HK:=hd0 hk;clear hk HC;go_wp2;go_ret;exact⟨rfl,HK.out⟩
theorem Gu (a b:List UInt8)(w:World)(ha:a.length<=140737488351232)(hb:b.length<=140737488351232):
  Calls prog 70 #[.string ⟨a.toArray⟩,.string ⟨b.toArray⟩,.func (.func 71) #[] #[]] w fun e w'=>e=.returned (.string ⟨(bK a b).toArray⟩)/\af w w':=by
 obtain⟨m,hm⟩:∃ m,max a.length b.length=m:=⟨_,rfl⟩
 have BQ:m<=140737488351232:=by omega
 have hmi:max (a.length:Int) (b.length:Int)=(m:Int):=by omega
 have nV:=jk (P:=prog) (ts:=131) (te:=5) underlying131 (by kernel_rfl) m (by omega);have Hm:=hd0 hm;have HA:=hd0 ha;have HB:=hd0 hb;clear hm ha hb;go_enter func70,ntmps70;go_wp2_with fail;have HO:Hid (World.blk (w.alloc (.cells (aP (List.replicate m 0)) 5)) w.heap.size (qC (fun i=>(fun x y=>x&&&~~~y) (a.getD i 0) (b.getD i 0)) 0 m) 5):=hd0 (by rw[vZ];exact aw _ _ _);have HK:Hid (af w (w.alloc (.cells (aP (List.replicate m 0)) 5))):=hd0 ((ah.refl _ w).alloc _);clear hmi nV;generalize (w.alloc (.cells (aP (List.replicate m 0)) 5))=w0 at*;obtain⟨ob,ic⟩:∃ ob,w.heap.size=ob:=⟨_,rfl⟩
 have xU:=hd0 ic;rw[ic]at HO;rw[ic];clear ic
 go_loopw [17] (fun i wr=>∃ k:Nat,k<=m/\i=.int .i64 (k:Int)/\af w wr/\World.blk wr ob (qC (fun i=>(fun x y=>x&&&~~~y) (a.getD i 0) (b.getD i 0)) k m) 5) (fun i _=>m-(intOf i).toNat)
 case atStart=>exact⟨0,by omega,rfl,HK.out,HO.out⟩
 case round=>
  clear HO HK;obtain⟨k,hk,rfl,hK,hO⟩:=hrel;have HK:=hd0 hK;have HO:=hd0 hO;clear hK hO;by_cases aM:k<m
  ·have dS:(k:Int)<m:=by omega
   have c0:wr.cell? ⟨ob,k,none⟩=some (.int .u8 0):=by rw[aa HO.out];exact C9 _ aM
   have f0:wr.frozen? ⟨ob,k,none⟩=false:=ae HO.out _ rfl;obtain⟨x,hx⟩:∃ x,a.getD k 0=x:=⟨_,rfl⟩
   obtain⟨y,hy⟩:∃ y,b.getD k 0=y:=⟨_,rfl⟩
   have Hx:=hd0 hx;have Hy:=hd0 hy;have ca:=uN a k wr (by have:=HA.out;omega) (by omega);have cb:=uN b k wr (by have:=HB.out;omega) (by omega);rw[hx]at ca;rw[hy]at cb;have Ca:=hd0 ca;have Cb:=hd0 cb;clear hx hy ca cb;go_wp2_with fail;refine Ca.out.mono ?_;rintro e w' ⟨rfl,rfl⟩;go_wp2_with fail;refine Cb.out.mono ?_;rintro e w' ⟨rfl,rfl⟩;obtain⟨z,hz⟩:∃ z,x&&&~~~y=z:=⟨_,rfl⟩
   have cz:=Gt x y wr;rw[hz]at cz;have Cz:=hd0 cz;have Hz:=hd0 hz;clear cz hz;go_wp2_with fail;refine Cz.out.mono ?_;rintro e w' ⟨rfl,rfl⟩;go_wp2_with fail;refine⟨⟨k+1,by omega,by go_num,HK.out.setCell (p:=⟨ob,k,none⟩) (.inr (by rw[xU.out];exact atL _)) _,?_⟩,by simp[intOf];omega⟩;have h:=ag HO.out k (.int .u8 (z.toNat:Int));rw[<-Db (fun i=>(fun x y=>x&&&~~~y) (a.getD i 0) (b.getD i 0)) aM];show World.blk _ ob ((qC _ k m).setIfInBounds k (.int .u8 (((fun x y=>x&&&~~~y) (a.getD k 0) (b.getD k 0)).toNat:Int))) _;rw[Hx.out,Hy.out,show(fun x y=>x&&&~~~y) x y=z from Hz.out];exact h
  ·obtain rfl:k=m:=by omega
   have HL:Hid (World.blk wr ob (gi ((List.range k).map fun i=>(fun x y=>x&&&~~~y) (a.getD i 0) (b.getD i 0))).toArray 5):=hd0 (by rw[<-Dc];exact HO.out);clear HO;go_wp2_with fail;refine(sO _ ob k wr HL.out (by simp) (by omega)).mono ?_;rintro e w' ⟨rfl,rfl⟩;go_wp2;go_ret;exact⟨by show _=Ending.returned (.string ⟨(oq (fun x y=>x&&&~~~y) a b).toArray⟩);unfold oq;rw[Hm.out];rfl,HK.out⟩
theorem kP (a b:List UInt8)(w:World)(ha:a.length<=140737488351232)(hb:b.length<=140737488351232):
  Calls prog 26 #[.string ⟨a.toArray⟩,.string ⟨b.toArray⟩] w fun e w'=>e=.returned (.string ⟨(bK a b).toArray⟩)/\af w w':=by
 have HC:=hd0 (Gu a b w ha hb);clear ha hb;go_enter func26,ntmps26;go_wp2_with fail;refine HC.out.mono ?_;rintro e w1 ⟨rfl,hk⟩;have HK:=hd0 hk;clear hk HC;go_wp2;go_ret;exact⟨rfl,HK.out⟩
theorem JA (s:List UInt8)(n:Int)(w:World)(hs:s.length<=140737488351232)(hn:-9223372036854775808<=n/\n<=9223372036854775807):
  Calls prog 33 #[.string ⟨s.toArray⟩,.int .i64 n] w fun e w'=>e=.returned (.bool (vY s n))/\w=w':=by
 by_cases h0:0<=n
 ·obtain⟨m,rfl⟩:=Int.eq_ofNat_of_zero_le h0;by_cases h:m/8<s.length
  ·have aM:(m:Int)/8<s.length:=by omega
   obtain⟨b,hb⟩:∃ b,s[m/8]?=some b:=⟨_,atI h⟩
   have hx:=ba (P:=prog) underlying9 s .i64 ((m:Int)/8) b (by omega) (by rw[show((m:Int)/8).toNat=m/8 by omega];exact hb);have Hv:Hid (vY s m=b.toNat.testBit (m%8)):=hd0 (by simp[vY,ak,hb]);clear hb;go_enter func33,ntmps33;go_wp2;go_ret;exact⟨by rw[Hv.out,<-agR];rfl,rfl⟩
  ·have aM:¬(m:Int)/8<s.length:=by omega
   have Hv:Hid (vY s m=false):=hd0 (by unfold vY;rw[auo,sH (by omega)];simp);go_enter func33,ntmps33;go_wp2;go_ret;exact⟨by rw[Hv.out];rfl,rfl⟩
 ·have Hv:Hid (vY s n=false):=hd0 (by simp[vY,h0]);go_enter func33,ntmps33;go_wp2;go_ret;exact⟨by rw[Hv.out];rfl,rfl⟩
end
end Go.Proofs.YtkghpdcloaiflaaGreatDoor
