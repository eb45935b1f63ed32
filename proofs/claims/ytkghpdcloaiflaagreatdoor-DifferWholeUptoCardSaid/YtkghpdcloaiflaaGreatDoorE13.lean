import Derived.Test.YtkghpdcloaiflaaGreatDoorE12
set_option maxHeartbeats 1000000
set_option maxRecDepth 100000
namespace Go.Proofs.YtkghpdcloaiflaaGreatDoor
open _root_.Go.Proofs.Tryz
section
def aR (rd:Rd)(data:az)(b:fP)(S:Nat->Prop):Prop:=data.length<=16384/\∃ nums,b=dt data nums/\ez rd data nums/\∀ n:Nat,S n↔(n:Int)∈nums.flatten
def lC (rd:Rd):List fC->List Nt->(Nat->Prop)->Prop
 |[],[],S=>∀ n,¬ S n
 |y::ys,x::xs,S=>(y.num=x.num/\y.dir=x.dir/\y.links=x.links)/\∃ A B,aR rd x.data y.blob A/\lC rd ys xs B/\∀ n,S n↔A n\/B n
 |_,_,_=>False
def j0 (rd:Rd)(inos:List fC)(nodes:List Nt)(table:fP)(S:Nat->Prop):Prop:=∃ A B,lC rd inos nodes A/\aR rd (j9 inos) table B/\∀ n,S n↔A n\/B n
section
variable {rd KF:Rd}{data:az}{b:fP}{S:Nat->Prop}
theorem LB {nums:List (List Int)}(h:ez rd data nums)(hr:∀ n∈nums.flatten,KF n=rd n):ez KF data nums:=by
 have key:∀(l i:Nat) (n:Int),(nums.getD l [])[i]?=some n->KF n=rd n:=by
  intro l i n hn;apply hr;have hm:=auC hn;by_cases hl:l<nums.length
  ·rw[List.getD,auB hl]at hm;exact List.mem_flatten.2 ⟨_,ava hl,hm⟩
  ·rw[List.getD,avu (by omega)]at hm;cases hm
 exact⟨h.shape,fun i n hn=>(key 0 i n hn).trans (h.chunk i n hn),fun l i n hn=>(key (l+1) i n hn).trans (h.ptr l i n hn),h.range⟩
theorem nC {nums:List (List Int)}(h:ez rd data nums){n:Int}(hn:n∈nums.flatten):1<=n/\n<4096:=by
 obtain⟨l,hl,hm⟩:=List.mem_flatten.1 hn;exact h.range l hl n hm
theorem aR.turn (h:aR rd data b S)(hr:∀ n:Nat,S n->KF n=rd n):aR KF data b S:=by
 obtain⟨hl,nums,e,ht,hS⟩:=h;refine⟨hl,nums,e,LB ht (fun n hn=>?_),hS⟩;have:=nC ht hn;obtain⟨k,rfl⟩:∃ k:Nat,n=k:=⟨n.toNat,by omega⟩
 exact hr k ((hS k).2 hn)
theorem aR.lt (h:aR rd data b S){n:Nat}(hn:S n):1<=n/\n<4096:=by
 obtain⟨_,nums,_,ht,hS⟩:=h;have:=nC ht ((hS n).1 hn);omega
theorem aR.reach (h:aR rd data b S):∃ o,oM rd b=.ok o/\∀ n:Int,n∈o↔∃ k:Nat,n=k/\S k:=by
 obtain⟨hl,nums,rfl,ht,hS⟩:=h;obtain⟨o,e,ho⟩:=PE ht hl;refine⟨o,e,fun n=>?_⟩;rw[ho]
 constructor
 ·intro hn;have:=nC ht hn;exact⟨n.toNat,by omega,(hS _).2 (by rwa [show((n.toNat:Nat):Int)=n by omega])⟩
 ·rintro⟨k,rfl,hk⟩;exact(hS k).1 hk
theorem aR.may (h:aR rd data b S):b.ok=true:=by
 obtain⟨hl,nums,rfl,ht,_⟩:=h;unfold fP.ok;rw[qP ht hl];unfold dt;split
 ·rfl
 ·have:=pS ht (by omega) hl;simp;omega
theorem aR.small (h:aR rd data b S):0<=b.root/\b.root<4096/\0<=b.size/\b.size<=16384:=by
 obtain⟨hl,nums,rfl,ht,_⟩:=h;unfold dt;split
 ·simp
 ·have:=pS ht (by omega) hl;simp;omega
theorem aR.any (h:aR rd data b S)(h0:0<data.length):∃ n,S n:=by
 obtain⟨hl,nums,rfl,ht,hS⟩:=h;obtain⟨h1,h2,h3,h4⟩:=pS ht h0 hl;have hm:iP nums∈nums.flatten:=by
  refine List.mem_flatten.2 ⟨_,ava (show nums.length-1<nums.length by omega),?_⟩;have:nums.getD (nums.length-1) []=nums[nums.length-1]:=by simp[List.getD,show nums.length-1<nums.length by omega]
  rw[<-this,h2];simp
 exact⟨(iP nums).toNat,(hS _).2 (by rwa [show(((iP nums).toNat:Nat):Int)=iP nums by omega])⟩
theorem jh (rd:Rd):aR rd [] ⟨0,0⟩ (fun _=>False):=
 ⟨by simp,[],rfl,⟨rfl,fun i n h=>by simp at h,fun l i n h=>by simp at h,fun l h=>by simp at h⟩,fun n=>by simp⟩
theorem aR.reached (h:aR rd data b S)(set:az):∃ s,dL rd set b=.ok s/\ga s/\∀ n,am s n=true↔am set n=true\/S n:=by
 obtain⟨o,e,ho⟩:=h.reach;refine⟨eH set (iO (o.map Int.toNat)),?_,iW _ _ _,fun n=>?_⟩
 ·unfold dL;rw[e];simp only;rw[auI];rw[auU];intro x hx;obtain⟨k,rfl,hk⟩:=(ho x).1 hx;have:=h.lt hk;simp;omega
 ·rw[jL,vL,auV];apply or_congr Iff.rfl;simp only[List.contains_eq_mem,au6,auY]
  constructor
  ·rintro⟨x,hx,rfl⟩;obtain⟨k,rfl,hk⟩:=(ho x).1 hx;simpa using hk
  ·intro hn;exact⟨n,(ho n).2 ⟨n,rfl,hn⟩,by simp⟩
end
theorem JV (stay:Nat->Option Int)(s:Nat->az)(L:List Int)(i:Nat)(t:gK)(h:∀ j n,L[j]?=some n->stay (i+j)=some n):iu stay s L.length i t=.ok (L,t):=by
 induction L generalizing i with
 |nil=>rfl
 |cons a L ih=>
  have h0:=h 0 a rfl;rw[Nat.add_zero]at h0;rw[auA,iu,h0];simp only;rw[ih (i+1) (fun j n hn=>by have:=h (j+1) n (by simpa using hn);rwa [show i+1+j=i+(j+1) by omega])];rfl
theorem Ut (was:List (List Int))(t:gK)(r:List (List Int))(br:Nat)(now:List Int)(h0:was.getD br []=now)(hr:∀ j,j<r.length->was.getD (br+1+j) []=r.getD j []):
  qF true was (r.map List.length) (br+1) now t=.ok (r,t):=by
 induction r generalizing br now with
 |nil=>rfl
 |cons L r ih=>
  have hL:=hr 0 (by simp);simp only[Nat.add_zero,List.getD_cons_zero]at hL;rw[auy,qF,JV _ _ L 0 t]
  ·simp only;rw[ih (br+1) L hL (fun j hj=>by
    have:=hr (j+1) (by simp;omega);rw[show br+1+(j+1)=br+1+1+j by omega]at this;simpa using this)]
   rfl
  ·intro j n hn;have hj:=(auP.1 hn).1;unfold eI;rw[avm,hL,Nat.add_sub_cancel,h0,auI ⟨rfl,hj,rfl⟩,<-getD_some hj];exact hn
theorem GK {rd:Rd}{data:az}{was:List (List Int)}(h:ez rd data was)(_hs:data.length<=16384)(t:gK):kI data data was t=.ok (was,t):=by
 unfold kI
 cases was with
 |nil=>
  have:=h.shape;rw[<-this];rfl
 |cons L r=>
  have:=h.shape;rw[<-this,auy];simp only;have hp:∀ i n,L[i]?=some n->gc data data (L::r) i=some n:=by
   intro i n hn;unfold gc;have hj:=(auP.1 hn).1;rw[auI rfl,List.getD_cons_zero,<-getD_some hj];exact hn
  rw[JV _ _ L 0 t (fun j n hn=>by rw[avm];exact hp j n hn)];simp only;have e:((L::r).length==(r.map List.length).length+1)=true:=by simp
  rw[e,Ut (L::r) t r 0 L rfl (fun j _=>by rw[show 0+1+j=j+1 by omega];simp)];rfl
theorem Dw {t:gK}{data:az}{b:fP}{S:Nat->Prop}(h:aR t.rd data b S):dI t b data=.ok (b,t):=by
 obtain⟨hs,nums,rfl,hw,_⟩:=h;obtain⟨o,e1,e2,_⟩:=kV hw hs true;unfold dI;rw[auK (by omega),e1];simp only[↓reduceIte];rw[e2,GK hw hs];rfl
theorem JW (l:List Bool):mh l<=l.length:=auM _ _
theorem GL (alike:Bool)(r:List Nat)(n was:Nat)(o:List Bool):cW alike r n was o<=r.sum:=by
 induction r generalizing n was o with
 |nil=>exact auE _
 |cons m r ih=>
  have h1:=JW (iE alike m n was o);have h2:=ih m (bN was 60) (iE alike m n was o);have h3:(iE alike m n was o).length=m:=by simp[iE]
  simp only[cW,auz];omega
theorem gE (bh data:az):dc bh data<=aS data.length:=by
 unfold dc aS
 cases eU:au data.length with
 |nil=>exact auE _
 |cons m r=>
  have h1:=JW (jf bh data);have h2:=GL ((au bh.length).length==(m::r).length) r m (bN bh.length 240) (jf bh data);have h3:(jf bh data).length=m:=by
   simp only[jf,au4,List.length_range];rcases aM data.length with⟨h0,e⟩|⟨h0,h2,e⟩|⟨_,_,e⟩|⟨_,e⟩<;>rw[e]at eU
   ·cases eU
   ·have h1:=(aJ (n:=data.length) (each:=240) (k:=1) (by decide)).2 (by omega);have h3:=dJ (n:=data.length) (each:=240) (by decide);injection eU;omega
   all_goals (injection eU)
  simp only[auz];omega
theorem zJ {l:List Bool}(h:∀ x∈l,x=false):mh l=0:=by
 unfold mh;rw[au8,List.filter_eq_nil_iff];intro x hx;simp[h x hx]
theorem A8 (r:List Nat)(n:Nat)(o:List Bool)(ho:∀ x∈o,x=false)(hr:∀ j,j<r.length->r.getD j 0=bN ((n::r).getD j 0) 60):cW true r n n o=0:=by
 induction r generalizing n o with
 |nil=>rfl
 |cons m r ih=>
  have hm:m=bN n 60:=by have:=hr 0 (by simp);simpa using this
  have h1:∀ x∈iE true m n n o,x=false:=by
   intro x hx;unfold iE at hx;obtain⟨i,hi,rfl⟩:=au6.1 hx;rw[avw]at hi;have h2:(dK o (60*i) 60).any id=false:=by
    rw[Bool.eq_false_iff];intro h;obtain⟨k,_,hk⟩:=A6.1 h;have:=ho _ (auC hk)
    cases this
   rw[h2];simp;omega
  simp only[cW];rw[zJ h1,<-hm,ih m _ h1 (fun j hj=>by have:=hr (j+1) (by simp;omega);simpa using this)]
theorem mH (size:Nat)(hs:size<=16384):∀ j,j+1<(au size).length->(au size).getD (j+1) 0=bN ((au size).getD j 0) 60:=by
 intro l hl;rcases aM size with⟨h0,e⟩|⟨h0,h2,e⟩|⟨h0,h2,e⟩|⟨h0,e⟩<;>rw[e]at hl ⊢
 ·simp at hl
 ·simp at hl
 ·obtain rfl:l=0:=by simp at hl;omega
  have h1:=(aJ (n:=size) (each:=240) (k:=60) (by decide)).2 (by omega);have h3:=dJ (n:=size) (each:=240) (by decide);have h4:=dJ (n:=bN size 240) (each:=60) (by decide);have h5:=(aJ (n:=bN size 240) (each:=60) (k:=1) (by decide)).2 (by omega);simp;omega
 ·rcases l with _|_|l
  ·rfl
  ·have h1:=(aJ (n:=size) (each:=240) (k:=69) (by decide)).2 (by omega);have h3:=(aJ (n:=bN size 240) (each:=60) (k:=2) (by decide)).2 (by omega);have h7:=(dJ (n:=bN size 240) (each:=60) (by decide))
   have h6:=(dJ (n:=size) (each:=240) (by decide))
   have h4:=dJ (n:=bN (bN size 240) 60) (each:=60) (by decide);have h5:=(aJ (n:=bN (bN size 240) 60) (each:=60) (k:=1) (by decide)).2 (by omega);simp;omega
  ·simp at hl;omega
theorem kZ (data:az)(hs:data.length<=16384):dc data data=0:=by
 unfold dc
 cases eU:au data.length with
 |nil=>rfl
 |cons m r=>
  have h0:∀ x∈jf data data,x=false:=by
   intro x hx;unfold jf at hx;obtain⟨i,_,rfl⟩:=au6.1 hx;simp
  have hm:m=bN data.length 240:=by
   rcases aM data.length with⟨h0,e⟩|⟨h0,h2,e⟩|⟨_,_,e⟩|⟨_,e⟩<;>rw[e]at eU
   ·cases eU
   ·have h1:=(aJ (n:=data.length) (each:=240) (k:=1) (by decide)).2 (by omega);have h3:=dJ (n:=data.length) (each:=240) (by decide);injection eU;omega
   all_goals (injection eU;omega)
  have hu:=mH data.length hs;rw[eU]at hu;simp only[beq_self_eq_true];rw[zJ h0,hm,A8 r _ _ h0 (fun j hj=>by
   have:=hu j (by simp;omega);rw[hm]at this;simpa using this)]
theorem Dx {a b each:Nat}(h:a<=b):bN a each<=bN b each:=Nat.div_le_div_right (by omega)
theorem wK {a b:Nat}(h:a<=b)(hb:b<=16384):aS a<=aS b:=by
 have h1:=Dx (each:=240) h;have h2:=Dx (each:=60) h1;have hz:=fun n=>dJ (n:=n) (each:=240) (by decide);have ha1:=(aJ (n:=a) (each:=240) (k:=1) (by decide))
 have hb1:=(aJ (n:=b) (each:=240) (k:=1) (by decide))
 have hza:=hz a;have hzb:=hz b;unfold aS;rcases aM a with⟨_,e⟩|⟨_,_,e⟩|⟨_,_,e⟩|⟨_,e⟩<;>rcases aM b with⟨_,e'⟩|⟨_,_,e'⟩|⟨_,_,e'⟩|⟨_,e'⟩<;>rw[e,e']<;>simp only[auz,List.sum_nil]<;>omega
end
def gq (used:az)(a:Nat):Nat:=((List.range' 1 (a-1)).filter fun n=>!am used n).length
theorem uk (used:az){a:Nat}(h:1<=a):gq used (a+1)=gq used a+if am used a=true then 0 else 1:=by
 unfold gq;rw[show a+1-1=(a-1)+1 by omega,List.range'_concat,List.filter_append,auS]
 congr 1
 rw[show 1+1*(a-1)=a by omega]
 cases h2:am used a<;>simp[h2]
theorem pg (used:az){a:Nat}(h:1<=a):∀ k,(∀ m,a<=m->m<a+k->am used m=true)->gq used (a+k)=gq used a
 |0,_=>rfl
 |k+1,hk=>by
  rw[<-auQ,uk used (by omega),hk (a+k) (by omega) (by omega),auI rfl,Nat.add_zero];exact pg used h k fun m h1 h2=>hk m h1 (by omega)
theorem GM {used:az}{a b n:Nat}(h1:1<=a)(h:gl used a b=some n):gq used (n+1)=gq used a+1:=by
 obtain⟨h2,h3,h4,h5⟩:=oL h;rw[uk used (by omega),h4];have:=pg used h1 (n-a) fun m hm hn=>h5 m hm (by omega);rw[show a+(n-a)=n by omega]at this;rw[this];rfl
theorem GN {used:az}{a b:Nat}(h1:1<=a)(Og:a<=b)(h:gl used a b=none):gq used b=gq used a:=by
 have:=pg used h1 (b-a) fun m hm hn=>vK h m hm (by omega)
 rwa [show a+(b-a)=b by omega]at this
theorem LC (used:az)(a:Nat):gq used a<=a:=by
 unfold gq;exact aux (auM _ _) (by simp)
theorem rX (s:az):(least s).length<=s.length:=by
 unfold least;rw[List.length_reverse];have h:∀ l:az,(l.dropWhile (·==0)).length<=l.length:=by
  intro l
  induction l with
  |nil=>exact auE _
  |cons x r ih=>
   rw[List.dropWhile_cons];split
   ·exact aux ih (by simp)
   ·exact auE _
 exact aux (h _) (by simp)
theorem lS (a b:az):(eH a b).length<=max a.length b.length:=by
 unfold eH oJ;refine aux (rX _) (by simp)
theorem ji (a b:az):(bQ a b).length<=max a.length b.length:=by
 unfold bQ oJ;refine aux (rX _) (by simp)
theorem Dy (n:Nat):(iO [n]).length<=n/8+1:=by
 unfold iO;refine aux (rX _) (by simp)
theorem A9 {l:List Nat}{k:Nat}(h:∀ x∈l,x<=k):∀ {a:Nat},a<=k->l.foldl max a<=k:=by
 induction l with
 |nil=>intro a ha;exact ha
 |cons x r ih=>
  intro a ha;exact ih (fun y hy=>h y (by simp[hy])) (by have:=h x (by simp);omega)
theorem Ba {l:List Nat}{k:Nat}(h:∀ x∈l,x<=k):(iO l).length<=k/8+1:=by
 unfold iO;refine aux (rX _) ?_;have:=A9 h (a:=0) (by omega);simp;omega
theorem GO (used:az){blocks next:Nat}(h1:1<=next)(h2:next<=blocks)(h3:blocks<=4096):cH (gB used blocks next):=⟨h1,h2,h3,rfl⟩
def mi (c:UInt8):List Nat:=(List.range 8).filter fun k=>c.toNat.testBit k
def tz (c:UInt8):Nat:=((List.range 8).find? fun k=>c.toNat.testBit k).getD 8
theorem LE (c:UInt8)(h:c≠0):mi c=tz c::mi (c&&&(c-1)):=by
 have key:∀ n:Fin 256,n.1≠0->mi (UInt8.ofNat n.1)=tz (UInt8.ofNat n.1)::mi (UInt8.ofNat n.1&&&(UInt8.ofNat n.1-1)):=by decide +kernel
 have:=key ⟨c.toNat,c.toNat_lt⟩ (fun e=>h (by apply UInt8.toNat_inj.1;simpa using e));simpa using this
theorem LF:mi 0=[]:=by decide
theorem WS (c:UInt8)(h:c≠0):tz c<8:=by
 have key:∀ n:Fin 256,n.1≠0->tz (UInt8.ofNat n.1)<8:=by decide +kernel
 have:=key ⟨c.toNat,c.toNat_lt⟩ (fun e=>h (by apply UInt8.toNat_inj.1;simpa using e));simpa using this
theorem PV (c:UInt8)(h:c≠0):(c&&&(c-1)).toNat<c.toNat:=by
 have key:∀ n:Fin 256,n.1≠0->(UInt8.ofNat n.1&&&(UInt8.ofNat n.1-1)).toNat<(UInt8.ofNat n.1).toNat:=by decide +kernel
 have:=key ⟨c.toNat,c.toNat_lt⟩ (fun e=>h (by apply UInt8.toNat_inj.1;simpa using e));simpa using this
theorem wO (c:UInt8)(r:Nat)(hr:r<8):(let d:=(c>>>UInt8.ofNat r)<<<UInt8.ofNat r;(d=0->∀ k,r<=k->k<8->c.toNat.testBit k=false)/\(d≠0->r<=tz d/\tz d<8/\c.toNat.testBit (tz d)=true/\∀ k,r<=k->k<tz d->c.toNat.testBit k=false)):=by
 have key:∀(n:Fin 256) (r:Fin 8),(let d:=(UInt8.ofNat n.1>>>UInt8.ofNat r.1)<<<UInt8.ofNat r.1;(d=0->∀ k:Fin 8,r.1<=k.1->(UInt8.ofNat n.1).toNat.testBit k.1=false)/\(d≠0->r.1<=tz d/\tz d<8/\(UInt8.ofNat n.1).toNat.testBit (tz d)=true/\∀ k:Fin 8,r.1<=k.1->k.1<tz d->(UInt8.ofNat n.1).toNat.testBit k.1=false)):=by decide +kernel
 have:=key ⟨c.toNat,c.toNat_lt⟩ ⟨r,hr⟩;simp only[UInt8.ofNat_toNat]at this;refine⟨fun h k h1 h2=>this.1 h ⟨k,h2⟩ h1,fun h=>?_⟩;obtain⟨a,b,c',d⟩:=this.2 h;exact⟨a,b,c',fun k h1 h2=>d ⟨k,by omega⟩ h1 h2⟩
def jQ (s:List UInt8)(k:Nat):List Nat:=(List.range (8*k)).filter fun n=>am s n
theorem GP (s:List UInt8):jQ s s.length=cy s:=rfl
theorem ul (s:List UInt8)(k:Nat):jQ s (k+1)=jQ s k++(mi (s.getD k 0)).map (8*k+·):=by
 unfold jQ mi;rw[show 8*(k+1)=8*k+8 by omega,List.range_add,List.filter_append]
 congr 1
 rw[List.filter_map]
 congr 1
 apply List.filter_congr;intro j hj;rw[avw]at hj;simp only[Function.comp];rw[dV hj]
theorem wQ (s:List UInt8)(k:Nat)(h:k<=s.length):jQ s k <+: cy s:=by
 have:cy s=jQ s (k+(s.length-k)):=by rw[show k+(s.length-k)=s.length by omega];rfl
 rw[this];generalize s.length-k=d
 induction d with
 |zero=>exact List.prefix_refl _
 |succ d ih=>rw[<-auQ,ul];exact ih.trans (List.prefix_append _ _)
theorem JX {s:List UInt8}{a n:Nat}(h1:a<=n)(h2:am s n=true)(h3:∀ m,a<=m->m<n->am s m=false):mu s a=some n:=by
 unfold mu;rw[List.find?_range'_eq_some];exact⟨h2,by rw[avz];have:=Gj h2;omega,fun j hj hj2=>by rw[h3 j hj hj2];rfl⟩
theorem LG {s:List UInt8}{a:Nat}(h:∀ m,a<=m->am s m=false):mu s a=none:=by
 unfold mu;rw[avA];intro m hm;rw[avz]at hm;rw[h m hm.1];simp
section
open Go.RowKit
theorem jC (n:Nat)(h:n<256):(BitVec.ofInt 8 (n:Int)).toNat=n:=by rw[BitVec.ofInt_natCast,BitVec.toNat_ofNat];exact avZ h
theorem or8 (x y:UInt8):bits .or .u8 (x.toNat:Int) (y.toNat:Int)=((x|||y).toNat:Int):=by
 show IntKind.u8.wrap (((BitVec.ofInt 8 (x.toNat:Int)|||BitVec.ofInt 8 (y.toNat:Int)).toNat:Nat):Int)=_;rw[BitVec.toNat_or,jC _ x.toNat_lt,jC _ y.toNat_lt,<-UInt8.toNat_or];exact JK _ ⟨by omega,by have:=(x|||y).toNat_lt;omega⟩
theorem ahv (x y:UInt8):bits .and .u8 (x.toNat:Int) (y.toNat:Int)=((x&&&y).toNat:Int):=by
 show IntKind.u8.wrap (((BitVec.ofInt 8 (x.toNat:Int)&&&BitVec.ofInt 8 (y.toNat:Int)).toNat:Nat):Int)=_;rw[BitVec.toNat_and,jC _ x.toNat_lt,jC _ y.toNat_lt,<-UInt8.toNat_and];exact JK _ ⟨by omega,by have:=(x&&&y).toNat_lt;omega⟩
theorem YL (x y:UInt8):bits .andNot .u8 (x.toNat:Int) (y.toNat:Int)=((x&&&~~~y).toNat:Int):=by
 show IntKind.u8.wrap (((BitVec.ofInt 8 (x.toNat:Int)&&&~~~ BitVec.ofInt 8 (y.toNat:Int)).toNat:Nat):Int)=_;have e:(~~~ BitVec.ofInt 8 (y.toNat:Int)).toNat=(~~~y).toNat:=by
  rw[BitVec.toNat_not,jC _ y.toNat_lt,UInt8.toNat_not]
 rw[BitVec.toNat_and,jC _ x.toNat_lt,e,<-UInt8.toNat_and];exact JK _ ⟨by omega,by have:=(x&&&~~~y).toNat_lt;omega⟩
theorem ahw (b:UInt8)(k:Nat):(bits .and .u8 ((b.toNat:Int)/2 ^ k) 1==1)=b.toNat.testBit k:=by
 have e:((b.toNat:Int)/2 ^ k)=((b.toNat/2 ^ k:Nat):Int):=by simp
 have hl:b.toNat/2 ^ k<256:=Nat.lt_of_le_of_lt (Nat.div_le_self _ _) b.toNat_lt;have e2:bits .and .u8 ((b.toNat/2 ^ k:Nat):Int) 1=((b.toNat/2 ^ k%2:Nat):Int):=by
  show IntKind.u8.wrap (((BitVec.ofInt 8 ((b.toNat/2 ^ k:Nat):Int)&&&BitVec.ofInt 8 ((1:Nat):Int)).toNat:Nat):Int)=_;rw[BitVec.toNat_and,jC _ hl,jC 1 (by decide),Nat.and_one_is_mod];exact JK _ (by omega)
 rw[e,e2,Nat.testBit_eq_decide_div_mod_eq,avh];simp only[ave,auY];omega
def wS (s:List UInt8)(n:Int):Bool:=decide (0<=n)&&am s n.toNat
theorem vo (s:List UInt8)(i:Nat)(w:World)(_hs:s.length<=140737488351232)(hi:i<=140737488351232):
  Calls prog 157 #[.string ⟨s.toArray⟩,.int .i64 (i:Int)] w fun e w'=>e=.returned (.int .u8 ((s.getD i 0).toNat:Int))/\w=w':=by
 by_cases h:i<s.length
 ·have aL:(i:Int)<s.length:=by omega
  obtain⟨b,hb⟩:∃ b,s[i]?=some b:=⟨_,auB h⟩
  have hx:=bf (P:=prog) underlying9 s .i64 (i:Int) b (by omega) (by simpa using hb);have Hv:Hid (s.getD i 0=b):=hd0 (by simp[List.getD,hb]);clear hb;go_enter func157,ntmps157;go_wp2;go_ret;exact⟨by rw[Hv.out];rfl,rfl⟩
 ·have aL:¬(i:Int)<s.length:=by omega
  have Hv:Hid (s.getD i 0=0):=hd0 (by rw[List.getD,avu (by omega)];rfl);go_enter func157,ntmps157;go_wp2;go_ret;exact⟨by first|rfl|(rw[Hv.out];rfl),rfl⟩
theorem Uu (x y:UInt8)(w:World):Calls prog 72 #[.int .u8 (x.toNat:Int),.int .u8 (y.toNat:Int)] w fun e w'=>e=.returned (.int .u8 ((x|||y).toNat:Int))/\w=w':=by
 go_enter func72,ntmps72;go_wp2;go_ret;exact⟨by rw[<-or8];rfl,rfl⟩
theorem GQ (x y:UInt8)(w:World):Calls prog 71 #[.int .u8 (x.toNat:Int),.int .u8 (y.toNat:Int)] w fun e w'=>e=.returned (.int .u8 ((x&&&~~~y).toNat:Int))/\w=w':=by
 go_enter func71,ntmps71;go_wp2;go_ret;exact⟨by rw[<-YL];rfl,rfl⟩
def qR (F:Nat->UInt8)(k m:Nat):Array Value:=((List.range m).map fun i=>Value.int .u8 (((if i<k then F i else 0:UInt8).toNat:Nat):Int)).toArray
theorem wT (F:Nat->UInt8)(m:Nat):qR F 0 m=aQ (List.replicate m 0):=by
 unfold qR aQ gz;apply Array.ext
 ·simp
 ·intro i h1 h2;simp
theorem Dz (F:Nat->UInt8){k m:Nat}(h:k<m):(qR F k m)[k]?=some (.int .u8 0):=by
 unfold qR;simp[h]
theorem DA (F:Nat->UInt8){k m:Nat}(h:k<m):(qR F k m).setIfInBounds k (.int .u8 ((F k).toNat:Int))=qR F (k+1) m:=by
 unfold qR;rw[List.setIfInBounds_toArray]
 congr 1
 apply List.ext_getElem?;intro i;rw[List.getElem?_set];by_cases e:k=i
 ·subst e;simp[h]
 ·rw[auK e];have e2:(if i<k then F i else 0)=(if i<k+1 then F i else 0):=by
   by_cases h:i<k
   ·rw[auI h,auI (by omega)]
   ·rw[auK h,auK (by omega)]
  by_cases hi:i<m
  ·simp only[avB,avC hi,avD];rw[e2]
  ·rw[avu (by simp;omega),avu (by simp;omega)]
theorem DB (F:Nat->UInt8)(m:Nat):qR F m m=(gz ((List.range m).map F)).toArray:=by
 unfold qR gz;rw[au0]
 congr 1
 apply au1;intro i hi;rw[avw]at hi;simp[hi]
theorem tx (l:List UInt8)(b n:Nat)(w:World)(h:World.blk w b (gz l).toArray 5)(hn:l.length=n)(hl:n<=140737488351232):
  Calls prog 83 #[.slice (some ⟨b,0,none⟩) n n] w fun e w'=>e=.returned (.string ⟨(least l).toArray⟩)/\w=w':=by
 have hc:=rJ (P:=prog) w 131 9 5 b 0 n n l underlying131 underlying5 underlying9 hn (fun j hj=>by rw[avm,aa h];simp[gz]);have ht:=Tryz.strings_TrimRight_one ⟨l.toArray⟩ 0 (by decide) w (by show l.toArray.size<=_;simp;omega);have Ht:=hd0 ht;clear h ht;go_enter func83,ntmps83;go_wp2_with fail;refine Ht.out.mono ?_;rintro e w' ⟨rfl,rfl⟩;go_wp2;go_ret;exact⟨rfl,rfl⟩
theorem Uv (a b:List UInt8)(w:World)(ha:a.length<=140737488351232)(hb:b.length<=140737488351232):
  Calls prog 70 #[.string ⟨a.toArray⟩,.string ⟨b.toArray⟩,.func (.func 72) #[] #[]] w fun e w'=>e=.returned (.string ⟨(eH a b).toArray⟩)/\af w w':=by
 obtain⟨m,hm⟩:∃ m,max a.length b.length=m:=⟨_,rfl⟩
 have Cw:m<=140737488351232:=by omega
 have hmi:max (a.length:Int) (b.length:Int)=(m:Int):=by omega
 have oz:=jv (P:=prog) (ts:=131) (te:=5) underlying131 (by kernel_rfl) m (by omega);have Hm:=hd0 hm;have HA:=hd0 ha;have HB:=hd0 hb;clear hm ha hb;go_enter func70,ntmps70;go_wp2_with fail;have HO:Hid (World.blk (w.alloc (.cells (aQ (List.replicate m 0)) 5)) w.heap.size (qR (fun i=>(fun x y=>x|||y) (a.getD i 0) (b.getD i 0)) 0 m) 5):=hd0 (by rw[wT];exact aw _ _ _);have HK:Hid (af w (w.alloc (.cells (aQ (List.replicate m 0)) 5))):=hd0 ((ah.refl _ w).alloc _);clear hmi oz;generalize (w.alloc (.cells (aQ (List.replicate m 0)) 5))=w0 at*;obtain⟨ob,ip⟩:∃ ob,w.heap.size=ob:=⟨_,rfl⟩
 have yz:=hd0 ip;rw[ip]at HO;rw[ip];clear ip
 go_loopw [17] (fun i wr=>∃ k:Nat,k<=m/\i=.int .i64 (k:Int)/\af w wr/\World.blk wr ob (qR (fun i=>(fun x y=>x|||y) (a.getD i 0) (b.getD i 0)) k m) 5) (fun i _=>m-(intOf i).toNat)
 case atStart=>exact⟨0,by omega,rfl,HK.out,HO.out⟩
 case round=>
  clear HO HK;obtain⟨k,hk,rfl,hK,hO⟩:=hrel;have HK:=hd0 hK;have HO:=hd0 hO;clear hK hO;by_cases aL:k<m
  ·have dN:(k:Int)<m:=by omega
   have c0:wr.cell? ⟨ob,k,none⟩=some (.int .u8 0):=by rw[aa HO.out];exact Dz _ aL
   have f0:wr.frozen? ⟨ob,k,none⟩=false:=ae HO.out _ rfl;obtain⟨x,hx⟩:∃ x,a.getD k 0=x:=⟨_,rfl⟩
   obtain⟨y,hy⟩:∃ y,b.getD k 0=y:=⟨_,rfl⟩
   have Hx:=hd0 hx;have Hy:=hd0 hy;have ca:=vo a k wr (by have:=HA.out;omega) (by omega);have cb:=vo b k wr (by have:=HB.out;omega) (by omega);rw[hx]at ca;rw[hy]at cb;have Ca:=hd0 ca;have Cb:=hd0 cb;clear hx hy ca cb;go_wp2_with fail;refine Ca.out.mono ?_;rintro e w' ⟨rfl,rfl⟩;go_wp2_with fail;refine Cb.out.mono ?_;rintro e w' ⟨rfl,rfl⟩;obtain⟨z,hz⟩:∃ z,x|||y=z:=⟨_,rfl⟩
   have cz:=Uu x y wr;rw[hz]at cz;have Cz:=hd0 cz;have Hz:=hd0 hz;clear cz hz;go_wp2_with fail;refine Cz.out.mono ?_;rintro e w' ⟨rfl,rfl⟩;go_wp2_with fail;refine⟨⟨k+1,by omega,by go_num,HK.out.setCell (p:=⟨ob,k,none⟩) (.inr (by rw[yz.out];exact auE _)) _,?_⟩,by simp[intOf];omega⟩;have h:=ag HO.out k (.int .u8 (z.toNat:Int));rw[<-DA (fun i=>(fun x y=>x|||y) (a.getD i 0) (b.getD i 0)) aL];show World.blk _ ob ((qR _ k m).setIfInBounds k (.int .u8 (((fun x y=>x|||y) (a.getD k 0) (b.getD k 0)).toNat:Int))) _;rw[Hx.out,Hy.out,show(fun x y=>x|||y) x y=z from Hz.out];exact h
  ·obtain rfl:k=m:=by omega
   have HL:Hid (World.blk wr ob (gz ((List.range k).map fun i=>(fun x y=>x|||y) (a.getD i 0) (b.getD i 0))).toArray 5):=hd0 (by rw[<-DB];exact HO.out);clear HO;go_wp2_with fail;refine(tx _ ob k wr HL.out (by simp) (by omega)).mono ?_;rintro e w' ⟨rfl,rfl⟩;go_wp2;go_ret;exact⟨by show _=Ending.returned (.string ⟨(oJ (·|||·) a b).toArray⟩);unfold oJ;rw[Hm.out];rfl,HK.out⟩
theorem lT (a b:List UInt8)(w:World)(ha:a.length<=140737488351232)(hb:b.length<=140737488351232):
  Calls prog 27 #[.string ⟨a.toArray⟩,.string ⟨b.toArray⟩] w fun e w'=>e=.returned (.string ⟨(eH a b).toArray⟩)/\af w w':=by
 have HC:=hd0 (Uv a b w ha hb);clear ha hb;go_enter func27,ntmps27;go_wp2_with fail;refine HC.out.mono ?_;rintro e w1 ⟨rfl,hk⟩;have HK:=hd0 hk;clear hk HC;go_wp2;go_ret;exact⟨rfl,HK.out⟩
theorem GR (a b:List UInt8)(w:World)(ha:a.length<=140737488351232)(hb:b.length<=140737488351232):
  Calls prog 70 #[.string ⟨a.toArray⟩,.string ⟨b.toArray⟩,.func (.func 71) #[] #[]] w fun e w'=>e=.returned (.string ⟨(bQ a b).toArray⟩)/\af w w':=by
 obtain⟨m,hm⟩:∃ m,max a.length b.length=m:=⟨_,rfl⟩
 have Cw:m<=140737488351232:=by omega
 have hmi:max (a.length:Int) (b.length:Int)=(m:Int):=by omega
 have oz:=jv (P:=prog) (ts:=131) (te:=5) underlying131 (by kernel_rfl) m (by omega);have Hm:=hd0 hm;have HA:=hd0 ha;have HB:=hd0 hb;clear hm ha hb;go_enter func70,ntmps70;go_wp2_with fail;have HO:Hid (World.blk (w.alloc (.cells (aQ (List.replicate m 0)) 5)) w.heap.size (qR (fun i=>(fun x y=>x&&&~~~y) (a.getD i 0) (b.getD i 0)) 0 m) 5):=hd0 (by rw[wT];exact aw _ _ _);have HK:Hid (af w (w.alloc (.cells (aQ (List.replicate m 0)) 5))):=hd0 ((ah.refl _ w).alloc _);clear hmi oz;generalize (w.alloc (.cells (aQ (List.replicate m 0)) 5))=w0 at*;obtain⟨ob,ip⟩:∃ ob,w.heap.size=ob:=⟨_,rfl⟩
 have yz:=hd0 ip;rw[ip]at HO;rw[ip];clear ip
 go_loopw [17] (fun i wr=>∃ k:Nat,k<=m/\i=.int .i64 (k:Int)/\af w wr/\World.blk wr ob (qR (fun i=>(fun x y=>x&&&~~~y) (a.getD i 0) (b.getD i 0)) k m) 5) (fun i _=>m-(intOf i).toNat)
 case atStart=>exact⟨0,by omega,rfl,HK.out,HO.out⟩
 case round=>
  clear HO HK;obtain⟨k,hk,rfl,hK,hO⟩:=hrel;have HK:=hd0 hK;have HO:=hd0 hO;clear hK hO;by_cases aL:k<m
  ·have dN:(k:Int)<m:=by omega
   have c0:wr.cell? ⟨ob,k,none⟩=some (.int .u8 0):=by rw[aa HO.out];exact Dz _ aL
   have f0:wr.frozen? ⟨ob,k,none⟩=false:=ae HO.out _ rfl;obtain⟨x,hx⟩:∃ x,a.getD k 0=x:=⟨_,rfl⟩
   obtain⟨y,hy⟩:∃ y,b.getD k 0=y:=⟨_,rfl⟩
   have Hx:=hd0 hx;have Hy:=hd0 hy;have ca:=vo a k wr (by have:=HA.out;omega) (by omega);have cb:=vo b k wr (by have:=HB.out;omega) (by omega);rw[hx]at ca;rw[hy]at cb;have Ca:=hd0 ca;have Cb:=hd0 cb;clear hx hy ca cb;go_wp2_with fail;refine Ca.out.mono ?_;rintro e w' ⟨rfl,rfl⟩;go_wp2_with fail;refine Cb.out.mono ?_;rintro e w' ⟨rfl,rfl⟩;obtain⟨z,hz⟩:∃ z,x&&&~~~y=z:=⟨_,rfl⟩
   have cz:=GQ x y wr;rw[hz]at cz;have Cz:=hd0 cz;have Hz:=hd0 hz;clear cz hz;go_wp2_with fail;refine Cz.out.mono ?_;rintro e w' ⟨rfl,rfl⟩;go_wp2_with fail;refine⟨⟨k+1,by omega,by go_num,HK.out.setCell (p:=⟨ob,k,none⟩) (.inr (by rw[yz.out];exact auE _)) _,?_⟩,by simp[intOf];omega⟩;have h:=ag HO.out k (.int .u8 (z.toNat:Int));rw[<-DA (fun i=>(fun x y=>x&&&~~~y) (a.getD i 0) (b.getD i 0)) aL];show World.blk _ ob ((qR _ k m).setIfInBounds k (.int .u8 (((fun x y=>x&&&~~~y) (a.getD k 0) (b.getD k 0)).toNat:Int))) _;rw[Hx.out,Hy.out,show(fun x y=>x&&&~~~y) x y=z from Hz.out];exact h
  ·obtain rfl:k=m:=by omega
   have HL:Hid (World.blk wr ob (gz ((List.range k).map fun i=>(fun x y=>x&&&~~~y) (a.getD i 0) (b.getD i 0))).toArray 5):=hd0 (by rw[<-DB];exact HO.out);clear HO;go_wp2_with fail;refine(tx _ ob k wr HL.out (by simp) (by omega)).mono ?_;rintro e w' ⟨rfl,rfl⟩;go_wp2;go_ret;exact⟨by show _=Ending.returned (.string ⟨(oJ (fun x y=>x&&&~~~y) a b).toArray⟩);unfold oJ;rw[Hm.out];rfl,HK.out⟩
theorem nD (a b:List UInt8)(w:World)(ha:a.length<=140737488351232)(hb:b.length<=140737488351232):
  Calls prog 26 #[.string ⟨a.toArray⟩,.string ⟨b.toArray⟩] w fun e w'=>e=.returned (.string ⟨(bQ a b).toArray⟩)/\af w w':=by
 have HC:=hd0 (GR a b w ha hb);clear ha hb;go_enter func26,ntmps26;go_wp2_with fail;refine HC.out.mono ?_;rintro e w1 ⟨rfl,hk⟩;have HK:=hd0 hk;clear hk HC;go_wp2;go_ret;exact⟨rfl,HK.out⟩
theorem JY (s:List UInt8)(n:Int)(w:World)(hs:s.length<=140737488351232)(hn:-9223372036854775808<=n/\n<=9223372036854775807):
  Calls prog 33 #[.string ⟨s.toArray⟩,.int .i64 n] w fun e w'=>e=.returned (.bool (wS s n))/\w=w':=by
 by_cases h0:0<=n
 ·obtain⟨m,rfl⟩:=Int.eq_ofNat_of_zero_le h0;by_cases h:m/8<s.length
  ·have aL:(m:Int)/8<s.length:=by omega
   obtain⟨b,hb⟩:∃ b,s[m/8]?=some b:=⟨_,auB h⟩
   have hx:=bf (P:=prog) underlying9 s .i64 ((m:Int)/8) b (by omega) (by rw[show((m:Int)/8).toNat=m/8 by omega];exact hb);have Hv:Hid (wS s m=b.toNat.testBit (m%8)):=hd0 (by simp[wS,am,hb]);clear hb;go_enter func33,ntmps33;go_wp2;go_ret;exact⟨by rw[Hv.out,<-ahw];rfl,rfl⟩
  ·have aL:¬(m:Int)/8<s.length:=by omega
   have Hv:Hid (wS s m=false):=hd0 (by unfold wS;rw[avc,th (by omega)];simp);go_enter func33,ntmps33;go_wp2;go_ret;exact⟨by rw[Hv.out];rfl,rfl⟩
 ·have Hv:Hid (wS s n=false):=hd0 (by simp[wS,h0]);go_enter func33,ntmps33;go_wp2;go_ret;exact⟨by rw[Hv.out];rfl,rfl⟩
end
end Go.Proofs.YtkghpdcloaiflaaGreatDoor
