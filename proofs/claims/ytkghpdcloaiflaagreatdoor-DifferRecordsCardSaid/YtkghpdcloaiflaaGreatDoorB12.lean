import Derived.Test.YtkghpdcloaiflaaGreatDoorB10
import Derived.Test.YtkghpdcloaiflaaGreatDoorB11
namespace Go.Proofs.YtkghpdcloaiflaaGreatDoor
open _root_.Go.Proofs.Tryz
theorem getD_some {l:List Int}{i:Nat}(h:i<l.length):l[i]?=some (l.getD i 0):=by simp[h]
def kT (used:ay)(blocks:Nat):Nat:=((List.range' 1 (blocks-1)).filter fun n=>!am used n).length
structure cF (p:Pl):Prop where
 lo:1<=p.next
 hi:p.next<=p.blocks
 most:p.blocks<=4096
 left:p.left=kT p.used p.blocks
theorem A3 (used:ay)(n k:Nat):am (eC used (iK [n])) k=(am used k||k==n):=by
 rw[jJ,vz];congr 1;by_cases h:k=n<;>simp[h]
theorem PE {used:ay}{blocks n:Nat}(h1:1<=n)(h2:n<blocks)(h3:am used n=false):kT (eC used (iK [n])) blocks+1=kT used blocks:=by
 unfold kT;have NP:((List.range' 1 (blocks-1)).filter fun n=>!am used n).Nodup:=(List.nodup_range' (step:=1) (by decide)).filter _;have hm:n∈(List.range' 1 (blocks-1)).filter fun n=>!am used n:=by
  rw[auW,avZ];exact⟨by omega,by simp[h3]⟩
 have e:((List.range' 1 (blocks-1)).filter fun k=>!am (eC used (iK [n])) k)=((List.range' 1 (blocks-1)).filter fun n=>!am used n).erase n:=by
  rw[NP.erase_eq_filter,List.filter_filter];apply List.filter_congr;intro k _;rw[A3]
  cases am used k<;>simp[bne]
 rw[e,List.length_erase_of_mem hm];have:=List.length_pos_of_mem hm;omega
theorem Do {used:ay}{blocks:Nat}(h:0<kT used blocks):∃ n,1<=n/\n<blocks/\am used n=false:=by
 obtain⟨n,hn⟩:=List.exists_mem_of_length_pos h;rw[auW,avZ]at hn;exact⟨n,by omega,by omega,by simpa using hn.2⟩
theorem pP {p:Pl}(h:cF p)(hl:0<p.left):1<=p.seek/\p.seek<p.blocks/\am p.used p.seek=false:=by
 obtain⟨n,h1,h2,h3⟩:=Do (by rw[<-h.left];exact hl);have hlo:=h.lo;unfold Pl.seek
 cases hg:ga p.used p.next p.blocks with
 |some m=>
  have:=oE hg;simp;exact⟨by omega,this.2.1,this.2.2.1⟩
 |none=>
  cases ye:ga p.used 1 p.blocks with
  |some m=>
   have:=oE ye;simp;exact⟨by omega,this.2.1,this.2.2.1⟩
  |none=>
   have:=vy ye n h1 h2;rw[h3]at this;cases this
theorem uU {p:Pl}(h:cF p)(hl:0<p.left):∃ n p',p.take=.ok (n,p')/\1<=n/\n<p.blocks/\am p.used n=false/\cF p'/\p'.left+1=p.left/\p'.blocks=p.blocks/\(∀ k,am p'.used k=(am p.used k||k==n))/\(∀ k,am p'.taken k=(am p.taken k||k==n)):=by
 obtain⟨h1,h2,h3⟩:=pP h hl;refine⟨p.seek,{ p with used:=eC p.used (iK [p.seek]),taken:=eC p.taken (iK [p.seek]),next:=p.seek+1,left:=p.left-1 },?_,h1,h2,h3,⟨?_,?_,h.most,?_⟩,?_,rfl,fun k=>A3 _ _ _,fun k=>A3 _ _ _⟩
 ·unfold Pl.take;rw[ava (by omega)]
 ·show 1<=p.seek+1;omega
 ·show p.seek+1<=p.blocks;omega
 ·show p.left-1=kT (eC p.used (iK [p.seek])) p.blocks;have:=PE h1 h2 h3;rw[<-h.left]at this;omega
 ·show p.left-1+1=p.left;omega
structure dj (t t':gC)(k:Nat):Prop where
 ok:cF t'.pool
 used:∀ n,am t.pool.used n=true->am t'.pool.used n=true
 taken:∀ n,am t'.pool.taken n=(am t.pool.taken n||(am t'.pool.used n&&!am t.pool.used n))
 blocks:t'.pool.blocks=t.pool.blocks
 left:t'.pool.left+k=t.pool.left
 rd:∀ z:Int,(∀ n:Nat,z=n->am t.pool.used n=true\/am t'.pool.used n=false)->t'.rd z=t.rd z
 news:∀ n,am t'.pool.used n=true->am t.pool.used n=false->1<=n/\n<t.pool.blocks
theorem dj.refl {t:gC}(h:cF t.pool):dj t t 0:=⟨h,fun _ h=>h,fun n=>by cases am t.pool.used n<;>simp,rfl,rfl,fun _ _=>rfl,fun n h1 h2=>by rw[h1]at h2;cases h2⟩
theorem dj.trans {a b c:gC}{k m:Nat}(h1:dj a b k)(h2:dj b c m):dj a c (k+m):=by
 refine⟨h2.ok,fun n h=>h2.used n (h1.used n h),fun n=>?_,h2.blocks.trans h1.blocks,by have:=h1.left;have:=h2.left;omega,fun z hz=>?_,fun n hc ha=>?_⟩
 ·rw[h2.taken,h1.taken];have e1:=h1.used n;have e2:=h2.used n
  cases ha:am a.pool.used n<;>cases hb:am b.pool.used n<;>cases hc:am c.pool.used n<;>simp_all
 ·rw[h2.rd z,h1.rd z]
  ·intro n hn;rcases hz n hn with h|h
   ·exact .inl h
   ·right
    cases hb:am b.pool.used n with
    |false=>rfl
    |true=>rw[h2.used n hb]at h;cases h
  ·intro n hn;rcases hz n hn with h|h
   ·exact .inl (h1.used n h)
   ·exact .inr h
 ·cases hb:am b.pool.used n with
  |true=>exact h1.news n hb ha
  |false=>have:=h2.news n hc hb;rw[h1.blocks]at this;exact this
theorem dj.keepRd {t t':gC}{k:Nat}(h:dj t t' k){n:Nat}(hn:am t.pool.used n=true):t'.rd n=t.rd n:=
 h.rd n fun m hm=>.inl (by rw[<-Int.ofNat_inj.1 hm];exact hn)
def fG (p:Pl)(n:Int):Prop:=∃ k:Nat,n=k/\am p.used k=true/\1<=k/\k<p.blocks
theorem PG {t:gC}(h:cF t.pool)(hl:0<t.pool.left)(s:ay):∃(n:Nat) (p':Pl),t.pool.take=.ok (n,p')/\dj t ⟨lZ t.rd n s,p'⟩ 1/\am t.pool.used n=false/\1<=n/\n<t.pool.blocks/\am p'.used n=true/\lZ t.rd n s n=.ok s:=by
 obtain⟨n,p',e,h1,h2,h3,h4,h5,h6,h7,h8⟩:=uU h hl;refine⟨n,p',e,⟨h4,fun k hk=>by rw[h7,hk];rfl,fun k=>?_,h6,h5,fun z hz=>?_,fun k hk dd=>?_⟩,h3,h1,h2,by rw[h7];simp,by simp[lZ]⟩
 ·show am p'.taken k=(am t.pool.taken k||(am p'.used k&&!am t.pool.used k));rw[h8,h7];by_cases hk:k=n
  ·subst hk;simp[h3]
  ·have:(k==n)=false:=by simp[hk]
   rw[this];cases am t.pool.used k<;>simp
 ·show lZ t.rd n s z=t.rd z;unfold lZ;rw[ava];intro hzn;rcases hz n hzn with h|h
  ·rw[h3]at h;cases h
  ·have h':am p'.used n=false:=h;rw[h7]at h';simp at h'
 ·have FP:am p'.used k=true:=hk;rw[h7]at FP;have:k=n:=by
   have dg:am t.pool.used k=false:=dd;rw[dg]at FP;simpa using FP
  subst this;exact⟨h1,h2⟩
def GK (stay:Nat->Option Int)(f i:Nat):Nat:=((List.range' i f).filter fun j=>(stay j).isNone).length
theorem Lq (stay:Nat->Option Int)(f i:Nat):GK stay (f+1) i=(if(stay i).isNone=true then 1 else 0)+GK stay f (i+1):=by
 unfold GK;rw[List.range'_succ,awd];split<;>simp<;>omega
def oa (t t':gC)(stay:Nat->Option Int)(s:Nat->ay)(j:Nat)(n:Int):Prop:=match stay j with
 |some m=>n=m
 |none=>∃ k:Nat,n=k/\am t.pool.used k=false/\am t'.pool.used k=true/\1<=k/\k<t.pool.blocks/\t'.rd n=.ok (s j)
theorem PI (stay:Nat->Option Int)(s:Nat->ay)(f i:Nat)(t:gC)(h:cF t.pool)(hl:GK stay f i<=t.pool.left):
  ∃ L t',ip stay s f i t=.ok (L,t')/\L.length=f/\dj t t' (GK stay f i)/\∀ j n,L[j]?=some n->oa t t' stay s (i+j) n:=by
 induction f generalizing i t with
 |zero=>exact⟨[],t,rfl,rfl,dj.refl h,fun j n hn=>by simp at hn⟩
 |succ f ih=>
  rw[Lq]at hl ⊢
  cases hs:stay i with
  |some n=>
   rw[hs]at hl;obtain⟨L,t',e,h1,h2,h3⟩:=ih (i+1) t h (by simpa using hl);refine⟨n::L,t',by rw[ip,hs];simp only;rw[e];rfl,by simp[h1],by simpa using h2,fun j m hm=>?_⟩
   cases j with
   |zero=>simp at hm;subst hm;unfold oa;rw[Nat.add_zero,hs]
   |succ j=>have:=h3 j m (by simpa using hm);rwa [show i+1+j=i+(j+1) by omega]at this
  |none=>
   rw[hs]at hl;simp only[Option.isNone_none,au8]at hl;obtain⟨n,p',e,hg,hn,BW,AD,SF,Wj⟩:=PG h (by omega) (s i);obtain⟨L,t',e',h1,h2,h3⟩:=ih (i+1) ⟨lZ t.rd n (s i),p'⟩ hg.ok (by have:=hg.left;simp at this ⊢;omega);refine⟨n::L,t',by rw[ip,hs];simp only;rw[e];simp only;rw[e'];rfl,by simp[h1],by simpa using hg.trans h2,fun j m hm=>?_⟩
   cases j with
   |zero=>
    simp at hm;subst hm;unfold oa;rw[Nat.add_zero,hs];exact⟨n,rfl,hn,h2.used n SF,BW,AD,by rw[h2.keepRd SF];exact Wj⟩
   |succ j=>
    have:=h3 j m (by simpa using hm);rw[show i+1+j=i+(j+1) by omega]at this;unfold oa at this ⊢
    cases jH:stay (i+(j+1))with
    |some q=>rw[jH]at this;exact this
    |none=>
     rw[jH]at this;obtain⟨k,a1,a2,a3,a4,a5,a6⟩:=this;refine⟨k,a1,?_,a3,a4,by have:=hg.blocks;simp at this a5;omega,a6⟩
     cases hu:am t.pool.used k with
     |false=>rfl
     |true=>have:=hg.used k hu;rw[this]at a2;cases a2
def i6 (bg data:ay):List Bool:=(List.range (bN data.length 240)).map fun i=>decide (aO bg i≠aO data i)
def iA (alike:Bool)(m n was:Nat)(other:List Bool):List Bool:=(List.range m).map fun i=>!alike||decide (bN was 60<=i)||decide (min (n-60*i) 60≠min (was-60*i) 60)||(dJ other (60*i) 60).any id
def l9 (l:List Bool):Nat:=(l.filter id).length
def cY (alike:Bool):List Nat->Nat->Nat->List Bool->Nat
 |[],_,_,_=>0
 |m::r,n,was,other=>let o:=iA alike m n was other;l9 o+cY alike r m (bN was 60) o
def db (bg data:ay):Nat:=match au data.length with
 |[]=>0
 |m::r=>l9 (i6 bg data)+cY ((au bg.length).length==(au data.length).length) r m (bN bg.length 240) (i6 bg data)
theorem Dp (stay:Nat->Option Int)(o:List Bool)(h:∀ i,i<o.length->o[i]?=some (stay i).isNone):GK stay o.length 0=l9 o:=by
 unfold GK l9;have e:o=(List.range' 0 o.length).map fun i=>(stay i).isNone:=by
  apply List.ext_getElem?;intro i;by_cases hi:i<o.length
  ·rw[h i hi];simp[hi]
  ·rw[avU (by omega),avU (by simp;omega)]
 conv=>rhs;rw[e,List.filter_map,avv]
 congr 1
theorem A4 {l:List Bool}{a n:Nat}:(dJ l a n).any id=true↔∃ k,k<n/\l[a+k]?=some true:=by
 unfold dJ;rw[List.any_eq_true]
 constructor
 ·rintro⟨x,hx,h⟩;obtain⟨k,hk⟩:=awf hx;have aL:=(avf.1 hk).1;simp only[au7]at aL;rw[List.getElem?_take_of_lt (by omega),av9]at hk;simp at h;subst h;exact⟨k,by omega,hk⟩
 ·rintro⟨k,hk,h⟩;refine⟨true,?_,rfl⟩;apply au2 (i:=k);rw[List.getElem?_take_of_lt hk,av9,h]
structure PJ (u:Pl)(was now:List Int)(other:List Bool):Prop where
 len:other.length=now.length
 stays:∀ i,other[i]?=some false->now[i]?=was[i]?/\i<was.length
 news:∀(i:Nat) (n:Int),other[i]?=some true->now[i]?=some n->∃ k:Nat,n=k/\am u.used k=false
theorem A5 {α:Type}(l:List α)(a n k:Nat)(hk:k<n):(dJ l a n)[k]?=l[a+k]?:=by
 unfold dJ;rw[List.getElem?_take_of_lt hk,av9]
theorem JU {α:Type}(l:List α)(a n:Nat):(dJ l a n).length=min (l.length-a) n:=by unfold dJ;simp;omega
theorem Uw {u:Pl}{wl nl:List Int}{other:List Bool}{up:List Int}(ho:PJ u wl nl other)(hw:∀ n∈wl,fG u n)(hr:∀ n∈nl,1<=n/\n<4096)(hb:u.blocks<=4096)(alike:Bool)(m i:Nat)(hi:i<m)(was:List (List Int))(bo:Nat)
  (e1:was.getD (bo-1) []=wl) (e2:was.getD bo []=up) (yk:alike=true->up.length=bN wl.length 60):
  (iA alike m nl.length wl.length other)[i]?=some (eE alike was nl bo i).isNone:=by
 unfold iA eE;rw[av1,av2 hi,av3,e1,e2]
 congr 1
 have hwr:∀ n∈aU wl i,0<=n/\n<4294967296:=fun n hn=>by
  obtain⟨k,rfl,_,h1,h2⟩:=hw n (List.mem_of_mem_drop (au6 hn));omega
 have hnr:∀ n∈aU nl i,0<=n/\n<4294967296:=fun n hn=>by have:=hr n (List.mem_of_mem_drop (au6 hn));omega
 by_cases ha:alike=true
 ·rw[ha,yk ha];by_cases aL:i<bN wl.length 60
  ·by_cases hg:aU nl i=aU wl i
   ·rw[au8 ⟨rfl,aL,by rw[hg]⟩];have bA:min (nl.length-60*i) 60=min (wl.length-60*i) 60:=by
     have:=awe List.length hg;rw[ku,ku]at this;omega
    have ajP:(dJ other (60*i) 60).any id=false:=by
     rw[Bool.eq_false_iff];intro h;obtain⟨k,hk,bQ⟩:=A4.1 h;have Ch:=(avf.1 bQ).1;rw[ho.len]at Ch;have h3:=ho.news (60*i+k) nl[60*i+k] bQ (au1 Ch);obtain⟨q,e,hq⟩:=h3;have h4:(aU nl i)[k]?=some nl[60*i+k]:=by rw[pN,A5 _ _ _ _ hk,au1 Ch]
     rw[hg]at h4;have h5:=au2 h4;obtain⟨q',e',hq',_⟩:=hw _ (List.mem_of_mem_drop (au6 h5));rw[e]at e';have:q=q':=by omega
     subst this;rw[hq]at hq';cases hq'
    simp[aL,bA,ajP]
   ·rw[ava (fun h=>hg (Pz hnr hwr h.2.2))];simp only[Option.isNone_none,Bool.not_true,Bool.false_or,avl,avo];apply avV;intro lD;simp only[not_or]at lD;obtain⟨⟨_,h2⟩,h3⟩:=lD;apply hg;have bA:min (nl.length-60*i) 60=min (wl.length-60*i) 60:=avV h2;rw[pN,pN];apply List.ext_getElem?;intro k;by_cases hk:k<min (nl.length-60*i) 60
    ·rw[A5 _ _ _ _ (by omega),A5 _ _ _ _ (by omega)];have Yy:60*i+k<other.length:=by rw[ho.len];omega
     cases hb:other[60*i+k]with
     |true=>exact absurd (A4.2 ⟨k,by omega,by rw[au1 Yy,hb]⟩) h3
     |false=>exact(ho.stays _ (by rw[au1 Yy,hb])).1
    ·rw[avU (by rw[JU];omega),avU (by rw[JU];omega)]
  ·rw[ava (fun h=>aL h.2.1)];simp;omega
 ·have:alike=false:=by simpa using ha
  subst this;simp
theorem Dq {t t':gC}{stay:Nat->Option Int}{s:Nat->ay}{L wl:List Int}{o:List Bool}(hm:∀ i,i<o.length->o[i]?=some (stay i).isNone)(hl:L.length=o.length)(h:∀ j n,L[j]?=some n->oa t t' stay s (0+j) n)
  (hs:∀ i n,stay i=some n->wl[i]?=some n) (u:Pl) (hu:∀ n,am u.used n=true->am t.pool.used n=true):PJ u wl L o:=by
 refine⟨hl.symm,fun i hi=>?_,fun i n hi hn=>?_⟩
 ·have aL:=(avf.1 hi).1;rw[hm i aL]at hi;have hL:L[i]?=some L[i]:=au1 (by omega);have:=h i _ hL;rw[avN]at this;unfold oa at this
  cases dr:stay i with
  |none=>rw[dr]at hi;simp at hi
  |some m=>
   rw[dr]at this;simp only at this;have h1:=hs i m dr;exact⟨by rw[hL,h1,this],(avf.1 h1).1⟩
 ·have aL:=(avf.1 hi).1;rw[hm i aL]at hi;have:=h i n hn;rw[avN]at this;unfold oa at this
  cases dr:stay i with
  |some m=>rw[dr]at hi;simp at hi
  |none=>
   rw[dr]at this;obtain⟨k,e,h1,_⟩:=this;refine⟨k,e,?_⟩
   cases hk:am u.used k with
   |false=>rfl
   |true=>rw[hu k hk]at h1;cases h1
theorem oV {t t':gC}{k:Nat}(h:dj t t' k){n:Int}(hn:fG t.pool n):fG t'.pool n:=by
 obtain⟨m,e,h1,h2,h3⟩:=hn;exact⟨m,e,h.used m h1,h2,by rw[h.blocks];exact h3⟩
theorem qi (r:List Nat)(n w w':Nat)(o:List Bool):cY false r n w o=cY false r n w' o:=by
 induction r generalizing n w w' o with
 |nil=>rfl
 |cons m r ih=>
  have e:iA false m n w o=iA false m n w' o:=by simp[iA]
  simp only[cY,e];rw[ih]
theorem YW (alike:Bool)(was:List (List Int))(u:Pl)(hub:u.blocks<=4096)(zh:∀ l,∀ n∈was.getD l [],fG u n)(yk:alike=true->∀ l,l+1<was.length->(was.getD (l+1) []).length=bN (was.getD l []).length 60)(r:List Nat)(bo:Nat)(now:List Int)(t:gC)(ht:cF t.pool)(I6:t.pool.blocks=u.blocks)(hu:∀ n,am u.used n=true->am t.pool.used n=true)
  (ahR:∀ n∈now,fG t.pool n) (other:List Bool) (ho:PJ u (was.getD bo []) now other)
  (ha:alike=true->was.length=bo+1+r.length)
  (hwp:∀ l i (n:Int),(was.getD (l+1) [])[i]?=some n->t.rd n=.ok (cM (aU (was.getD l []) i)))
  (wl:Nat) (XV:alike=true->wl=(was.getD bo []).length) (hc:cY alike r now.length wl other<=t.pool.left):
  ∃ L t',qC alike was r (bo+1) now t=.ok (L,t')/\L.map List.length=r/\dj t t' (cY alike r now.length wl other)/\(∀ l∈L,∀ n∈l,fG t'.pool n/\((∃ j,n∈was.getD j [])\/∃ k:Nat,n=k/\am u.used k=false))/\
   ∀ l i (n:Int),((now::L).getD (l+1) [])[i]?=some n->t'.rd n=.ok (cM (aU ((now::L).getD l []) i)):=by
 have adB:cY alike r now.length wl other=cY alike r now.length (was.getD bo []).length other:=by
  cases alike with
  |false=>exact qi _ _ _ _ _
  |true=>rw[XV rfl]
 rw[adB]at hc ⊢;clear adB XV
 induction r generalizing bo now t other wl with
 |nil=>
  refine⟨[],t,rfl,rfl,dj.refl ht,fun l hl=>by simp at hl,fun l i n hn=>by simp at hn⟩
 |cons m r ih=>
  have hr:∀ n∈now,1<=n/\n<4096:=fun n hn=>by
   obtain⟨k,rfl,_,h1,h2⟩:=ahR n hn;omega
  have aen:alike=true->(was.getD (bo+1) []).length=bN (was.getD bo []).length 60:=fun h=>yk h bo (by have:=ha h;simp at this;omega);have hov:∀ i,i<m->(iA alike m now.length (was.getD bo []).length other)[i]?=some (eE alike was now (bo+1) i).isNone:=fun i hi=>
   Uw ho (zh bo) hr hub alike m i hi was (bo+1) rfl rfl aen
  have Yy:(iA alike m now.length (was.getD bo []).length other).length=m:=by simp[iA]
  have kj:=Dp (eE alike was now (bo+1)) (iA alike m now.length (was.getD bo []).length other) (fun i hi=>hov i (by omega));rw[Yy]at kj;have hcu:cY alike (m::r) now.length (was.getD bo []).length other=l9 (iA alike m now.length (was.getD bo []).length other)+cY alike r m (bN (was.getD bo []).length 60) (iA alike m now.length (was.getD bo []).length other):=rfl;rw[hcu]at hc ⊢;obtain⟨L,t1,e1,h1,h2,h3⟩:=PI (eE alike was now (bo+1)) (fun i=>cM (aU now i)) m 0 t ht (by omega);rw[kj]at h2;have dr:∀ i n,eE alike was now (bo+1) i=some n->(was.getD (bo+1) [])[i]?=some n/\cM (aU now i)=cM (aU (was.getD bo []) i):=by
   intro i n h;unfold eE at h;split at h
   ·rename_i hh
    injection h with h;exact⟨by rw[<-h];exact getD_some hh.2.1,by simpa using hh.2.2⟩
   ·cases h
  have akl:PJ u (was.getD (bo+1) []) L (iA alike m now.length (was.getD bo []).length other):=
   Dq (fun i hi=>hov i (by omega)) (by omega) h3 (fun i n h=>(dr i n h).1) u hu
  have TH:∀ n∈L,fG t1.pool n/\((∃ j,n∈was.getD j [])\/∃ k:Nat,n=k/\am u.used k=false):=by
   intro n hn;obtain⟨j,hj⟩:=awf hn;have:=h3 j n hj;unfold oa at this
   cases hs:eE alike was now (bo+1) (0+j)with
   |some q=>
    rw[hs]at this;simp only at this;subst this;obtain⟨k,e,a1,a2,a3⟩:=zh (bo+1) n (au2 (dr _ _ hs).1);exact⟨⟨k,e,h2.used k (hu k a1),a2,by rw[h2.blocks,I6];exact a3⟩,.inl ⟨bo+1,au2 (dr _ _ hs).1⟩⟩
   |none=>
    rw[hs]at this;obtain⟨k,e,a0,a2,a3,a4,_⟩:=this;refine⟨⟨k,e,a2,a3,by rw[h2.blocks];exact a4⟩,.inr ⟨k,e,?_⟩⟩
    cases hk:am u.used k with
    |false=>rfl
    |true=>rw[hu k hk]at a0;cases a0
  have hL:∀ n∈L,fG t1.pool n:=fun n hn=>(TH n hn).1;have ajC:cY alike r m (bN (was.getD bo []).length 60) (iA alike m now.length (was.getD bo []).length other)=cY alike r m (was.getD (bo+1) []).length (iA alike m now.length (was.getD bo []).length other):=by
   cases ON:alike with
   |false=>exact qi _ _ _ _ _
   |true=>rw[aen ON]
  rw[ajC]at hc ⊢;obtain⟨L2,t2,e2,g1,g2,g3,g4⟩:=ih (bo+1) L t1 h2.ok (h2.blocks.trans I6) (fun n hn=>h2.used n (hu n hn)) hL _ akl (fun h=>by have:=ha h;simp at this;omega)
   (fun l i n hn=>by
    obtain⟨k,e,a1,_⟩:=zh (l+1) n (au2 hn);rw[e,h2.keepRd (hu k a1),<-e];exact hwp l i n hn) 0 (by rw[h1];have:=h2.left;omega)
  rw[h1]at g2;have g0:∀ i (n:Int),L[i]?=some n->t2.rd n=.ok (cM (aU now i)):=by
   intro i n hn;obtain⟨k,e,a1,_⟩:=hL n (au2 hn);rw[e,g2.keepRd a1,<-e];have:=h3 i n hn;unfold oa at this;rw[avN]at this
   cases hs:eE alike was now (bo+1) i with
   |some q=>
    rw[hs]at this;simp only at this;subst this;obtain⟨b1,b2⟩:=dr _ _ hs;obtain⟨k,e,a1,_⟩:=zh (bo+1) n (au2 b1);rw[e,h2.keepRd (hu k a1),<-e,hwp bo i n b1,b2]
   |none=>
    rw[hs]at this;obtain⟨k,_,_,_,_,_,a⟩:=this;exact a
  refine⟨L::L2,t2,?_,by simp[h1,g1],h2.trans g2,?_,?_⟩
  ·rw[qC,e1];simp only;rw[e2];rfl
  ·intro l hl n hn;rcases avn.1 hl with rfl|hl
   ·exact⟨oV g2 (hL n hn),(TH n hn).2⟩
   ·exact g3 l hl n hn
  ·intro l i n hn
   cases l with
   |zero=>exact g0 i n (by simpa using hn)
   |succ l=>
    have:=g4 l i n (by simpa using hn);simpa using this
theorem PK {t:gC}{bg data:ay}{was:List (List Int)}(ht:cF t.pool)(hw:eK t.rd bg was)(hu:∀ l∈was,∀ n∈l,fG t.pool n)(hs:data.length<=16384)(hh:bg.length<=16384)(hc:db bg data<=t.pool.left):
  ∃ nums t',kF bg data was t=.ok (nums,t')/\eK t'.rd data nums/\dj t t' (db bg data)/\(∀ l∈nums,∀ n∈l,fG t'.pool n)/\∀ n:Nat,(n:Int)∈nums.flatten->(n:Int)∈was.flatten\/am t.pool.used n=false:=by
 have XV:was.length=(au bg.length).length:=by rw[<-hw.shape];simp
 have hu':∀ l,∀ n∈was.getD l [],fG t.pool n:=by
  intro l n hn;by_cases hl:l<was.length
  ·rw[List.getD,au1 hl]at hn;exact hu _ (avB hl) n hn
  ·rw[List.getD,avU (by omega)]at hn;cases hn
 have FZ:(was.getD 0 []).length=bN bg.length 240:=by
  rw[fP hw];rcases aM bg.length with⟨h0,e⟩|⟨h0,h2,e⟩|⟨_,_,e⟩|⟨_,e⟩<;>rw[e]
  ·rw[h0];rfl
  ·have h1:=(aI (n:=bg.length) (each:=240) (k:=1) (by decide)).2 (by omega);have h3:=dI (n:=bg.length) (each:=240) (by decide);simp;omega
  all_goals rfl
 unfold kF db at*
 cases iH:au data.length with
 |nil=>
  rw[iH]at hc;have hd:data=[]:=by
   rcases aM data.length with⟨h0,_⟩|⟨_,_,e⟩|⟨_,_,e⟩|⟨_,e⟩
   ·exact avz.1 h0
   all_goals rw[e]at iH;cases iH
  subst hd;exact⟨[],t,rfl,⟨by rw[iH];rfl,fun i n h=>by simp at h,fun l i n h=>by simp at h,fun l h=>by simp at h⟩,dj.refl ht,fun l h=>by simp at h,fun n h=>by simp at h⟩
 |cons m r=>
  rw[iH]at hc;simp only at hc ⊢;have hm:m=bN data.length 240:=by
   rcases aM data.length with⟨h0,e⟩|⟨h0,h2,e⟩|⟨_,_,e⟩|⟨_,e⟩<;>rw[e]at iH
   ·cases iH
   ·have h1:=(aI (n:=data.length) (each:=240) (k:=1) (by decide)).2 (by omega);have h3:=dI (n:=data.length) (each:=240) (by decide);injection iH;omega
   all_goals (injection iH;omega)
  have Yy:(i6 bg data).length=m:=by simp[i6,hm]
  have dr:∀ i,i<m->(i6 bg data)[i]?=some (fV bg data was i).isNone:=by
   intro i hi;unfold i6 fV;rw[av1,av2 (by omega),av3];by_cases e:aO data i=aO bg i
   ·simp[e]
   ·simp[e,Ne.symm e]
  have kj:=Dp (fV bg data was) (i6 bg data) (fun i hi=>dr i (by omega));rw[Yy]at kj;obtain⟨L,t1,e1,h1,h2,h3⟩:=PI (fV bg data was) (aO data) m 0 t ht (by omega);rw[kj]at h2;have yg:∀ i,i<m->240*i<data.length:=by
   intro i hi;have:=(aI (n:=data.length) (each:=240) (k:=i) (by decide))
   omega
  have hsy:∀ i n,i<m->fV bg data was i=some n->(was.getD 0 [])[i]?=some n/\aO data i=aO bg i:=by
   intro i n hi h;unfold fV at h;split at h
   ·rename_i e
    injection h with h;have aL:i<(was.getD 0 []).length:=by
     rw[FZ];have:=awe List.length e;rw[kq,kq]at this;have:=yg i hi;have:=(aI (n:=bg.length) (each:=240) (k:=i) (by decide))
     omega
    exact⟨by rw[<-h];exact getD_some aL,e⟩
   ·cases h
  have hov:PJ t.pool (was.getD 0 []) L (i6 bg data):=by
   refine Dq (stay:=fun i=>if i<m then fV bg data was i else none) (s:=aO data) (t:=t) (t':=t1) (fun i hi=>by rw[Yy]at hi;simp only[hi,au8];exact dr i hi) (by omega) (fun j n hn=>?_) (fun i n h=>?_) t.pool (fun _ h=>h)
   ·have hj:=(avf.1 hn).1;have:=h3 j n hn;unfold oa at this ⊢;rw[avN]at this ⊢;simp only[show j<m by omega,au8];exact this
   ·by_cases hi:i<m
    ·rw[au8 hi]at h;exact(hsy i n hi h).1
    ·rw[ava hi]at h;cases h
  have TH:∀ n∈L,fG t1.pool n/\((∃ j,n∈was.getD j [])\/∃ k:Nat,n=k/\am t.pool.used k=false):=by
   intro n hn;obtain⟨j,hj⟩:=awf hn;have hjm:=(avf.1 hj).1;have:=h3 j n hj;unfold oa at this;rw[avN]at this
   cases hs:fV bg data was j with
   |some q=>
    rw[hs]at this;simp only at this;subst this;have hm:=au2 (hsy j n (by omega) hs).1;exact⟨oV h2 (hu' 0 n hm),.inl ⟨0,hm⟩⟩
   |none=>
    rw[hs]at this;obtain⟨k,e,a0,a2,a3,a4,_⟩:=this;exact⟨⟨k,e,a2,a3,by rw[h2.blocks];exact a4⟩,.inr ⟨k,e,a0⟩⟩
  have hL:∀ n∈L,fG t1.pool n:=fun n hn=>(TH n hn).1;have abd:(was.length==r.length+1)=((au bg.length).length==(m::r).length):=by rw[XV];simp
  rw[abd];have ae8:∀ l,l+1<was.length->(was.getD (l+1) []).length=bN (was.getD l []).length 60:=by
   intro l hl;rw[fP hw,fP hw];rw[XV]at hl;rcases aM bg.length with⟨h0,e⟩|⟨h0,h2,e⟩|⟨h0,h2,e⟩|⟨h0,e⟩<;>rw[e]at hl ⊢
   ·simp at hl
   ·simp at hl
   ·obtain rfl:l=0:=by simp at hl;omega
    have h1:=(aI (n:=bg.length) (each:=240) (k:=60) (by decide)).2 (by omega);have h3:=dI (n:=bg.length) (each:=240) (by decide);have h4:=dI (n:=bN bg.length 240) (each:=60) (by decide);have h5:=(aI (n:=bN bg.length 240) (each:=60) (k:=1) (by decide)).2 (by omega);simp;omega
   ·rcases l with _|_|l
    ·rfl
    ·have h1:=(aI (n:=bg.length) (each:=240) (k:=69) (by decide)).2 (by omega);have h6:=(aI (n:=bg.length) (each:=240) (k:=60) (by decide))
     have h3:=(aI (n:=bN bg.length 240) (each:=60) (k:=2) (by decide)).2 (by omega);have h7:=(dI (n:=bN bg.length 240) (each:=60) (by decide))
     have h4:=dI (n:=bN (bN bg.length 240) 60) (each:=60) (by decide);have h5:=(aI (n:=bN (bN bg.length 240) 60) (each:=60) (k:=1) (by decide)).2 (by omega);simp;omega
    ·simp at hl;omega
  obtain⟨L2,t2,e2,g1,g2,g3,g4⟩:=YW ((au bg.length).length==(m::r).length) was t.pool ht.most hu' (fun _=>ae8) r 0 L t1 h2.ok h2.blocks (fun n hn=>h2.used n hn) hL (i6 bg data) hov (fun h=>by simp at h;omega)
   (fun l i n hn=>by
    obtain⟨k,e,a1,_⟩:=hu' (l+1) n (au2 hn);rw[e,h2.keepRd a1,<-e];exact hw.ptr l i n hn) (bN bg.length 240) (fun _=>FZ.symm) (by rw[h1];have:=h2.left;omega)
  rw[h1]at g2;have nR:∀ l∈L::L2,∀ n∈l,fG t2.pool n:=by
   intro l hl n hn;rcases avn.1 hl with rfl|hl
   ·exact oV g2 (hL n hn)
   ·exact(g3 l hl n hn).1
  have afx:∀ n:Nat,(n:Int)∈(L::L2).flatten->(n:Int)∈was.flatten\/am t.pool.used n=false:=by
   intro n hn;obtain⟨l,hl,hm⟩:=List.mem_flatten.1 hn;have:(∃ j,(n:Int)∈was.getD j [])\/∃ k:Nat,(n:Int)=k/\am t.pool.used k=false:=by
    rcases avn.1 hl with rfl|hl
    ·exact(TH _ hm).2
    ·exact(g3 l hl _ hm).2
   rcases this with⟨j,hj⟩|⟨k,e,hk⟩
   ·left
    by_cases hl:j<was.length
    ·rw[List.getD,au1 hl]at hj;exact List.mem_flatten.2 ⟨_,avB hl,hj⟩
    ·rw[List.getD,avU (by omega)]at hj;cases hj
   ·right
    have:n=k:=by omega
    subst this;exact hk
  refine⟨L::L2,t2,?_,⟨?_,?_,g4,?_⟩,h2.trans g2,nR,afx⟩
  ·rw[e1];simp only;rw[e2];rfl
  ·rw[auY,h1,g1,iH]
  ·intro i n hn;simp only[List.getD_cons_zero]at hn;obtain⟨k,e,a1,_⟩:=hL n (au2 hn);rw[e,g2.keepRd a1,<-e];have hjm:=(avf.1 hn).1;have:=h3 i n hn;unfold oa at this;rw[avN]at this
   cases hs:fV bg data was i with
   |some q=>
    rw[hs]at this;simp only at this;subst this;obtain⟨b1,b2⟩:=hsy i n (by omega) hs;obtain⟨k,e,a1,_⟩:=hu' 0 n (au2 b1);rw[e,h2.keepRd a1,<-e,hw.chunk i n b1,b2]
   |none=>
    rw[hs]at this;obtain⟨k,_,_,_,_,_,a⟩:=this;exact a
  ·intro l hl n hn;obtain⟨k,e,_,a1,a2⟩:=nR l hl n hn;have:=g2.ok.most;omega
theorem Lr {t:gC}{bg data:ay}{was:List (List Int)}(ht:cF t.pool)(hw:eK t.rd bg was)(hu:∀ l∈was,∀ n∈l,fG t.pool n)(hs:data.length<=16384)(hh:bg.length<=16384)(hc:db bg data<=t.pool.left):
  ∃ nums t',dG t (du bg was) data=.ok (du data nums,t')/\eK t'.rd data nums/\dj t t' (db bg data)/\(∀ l∈nums,∀ n∈l,fG t'.pool n)/\∀ n:Nat,(n:Int)∈nums.flatten->(n:Int)∈was.flatten\/am t.pool.used n=false:=by
 obtain⟨nums,t',e,h1,h2,h3,h4⟩:=PK ht hw hu hs hh hc;obtain⟨o,e1,e2,_⟩:=kS hw hh true;refine⟨nums,t',?_,h1,h2,h3,h4⟩;unfold dG;rw[ava (by omega),e1];simp only[↓reduceIte];rw[e2,e];rfl
structure fH where
 num:Int
 dir:Bool
 links:Int
 blob:fU
structure Sn where
 name:ay
 id:Int
 plane:Int
 table:fU
def yI (b:fU):ay:=aG b.root.toNat++aG b.size.toNat
def oc (x:fH):ay:=aG x.num.toNat++aG (if x.dir=true then 1 else 0)++aG x.links.toNat++yI x.blob
def j7 (l:List fH):ay:=aG l.length++l.flatMap oc
def oW (x:Sn):ay:=aG x.name.length++x.name++aG x.id.toNat++aG x.plane.toNat++yI x.table
def j8 (l:List Sn):ay:=aG l.length++l.flatMap oW
def fU.ok (b:fU):Bool:=b.may&&decide (0<=b.root)&&decide (b.root<4096)
def yJ (was:Int):List fH->Bool
 |[]=>true
 |x::r=>decide (was<x.num)&&decide (x.num<=65535)&&decide (1<=x.links)&&decide (x.links<=65535)&&x.blob.ok&&yJ x.num r
def qN (l:List fH):Bool:=decide (l.length<=4096)&&yJ 0 l
def TB (was:Int):List Sn->Bool
 |[]=>true
 |x::r=>aK x.name&&decide (was<x.id)&&decide (x.id<=1099511627776)&&decide (1<=x.plane)&&decide (x.plane<=7)&&x.table.ok&&TB x.id r
def zI (l:List Sn):Bool:=decide (l.length<=4096)&&TB 0 l
def gY (planes:List ay)(blocks:Nat):ay:=(List.range blocks).map fun b=>UInt8.ofNat ((List.range 8).foldl (fun a p=>if am (planes.getD p []) b then a+2 ^ p else a) 0)
def cX (planes:List ay):ay:=planes.foldl eC []
def aR (size:Nat):Nat:=(au size).sum
structure i7 where
 table:fU
 snaps:fU
 mapped:fU
 next:Nat
 id:Nat
 inodes:List fH
 list:List Sn
 planes:List ay
 nodes:List Nt
structure Vs where
 rd:Rd
 blocks:Nat
 num:Nat
 b:i7
 T:Tr
 recs:List ay
 half:Nat
def dK (rd:Rd)(set:ay)(b:fU):Except Int ay:=match oF rd b with
 | .error e=>.error e
 | .ok l=>if l.all (fun n=>decide (0<=n)&&decide (n<=65535))=true then .ok (eC set (iK (l.map Int.toNat)))else .error 150
def dZ (l:List fH)(num:Int):fU:=match (l.filter fun x=>x.num==num).getLast? with
 |some x=>x.blob
 |none=>⟨0,0⟩
def mw (was:List fH):List Nt->ay->gC->Except Int (List fH×ay×gC)
 |[],set,t=>.ok ([],set,t)
 |x::r,set,t=>match dG t (dZ was x.num) x.data with
  | .error e=>.error e
  | .ok (b,t1)=>match dK t1.rd set b with
   | .error e=>.error e
   | .ok s=>(mw was r s t1).map fun o=>(⟨x.num,x.dir,x.links,b⟩::o.1,o.2)
def aW (l:List Sn):Nat:=((List.range' 1 8).find? fun(p:Nat)=>!l.any fun x=>x.plane==(p:Int)).getD 0
def oX:Nat->Pl->Except Int Pl
 |0,p=>.ok p
 |k+1,p=>match p.take with
  | .error e=>.error e
  | .ok (_,q)=>oX k q
def fX (b:i7):ay:=yI b.table++yI b.snaps++yI b.mapped++aG b.next++aG b.id
def kU (planes:List ay)(l:List Sn):List ay:=(List.range 8).map fun(p:Nat)=>if p=0\/l.any (fun x=>x.plane==(p:Int))=true then planes.getD p []else []
def bD (v:Vs)(list:List Sn)(more:ay):Except Int Vs:=do
 let p:=gp (cX v.b.planes) v.blocks v.b.next
 let (inos,set,t1) <-mw v.b.inodes (ar v.T) [] ⟨v.rd,p⟩
 let (table,t2) <-dG t1 v.b.table (j7 inos)
 let set1 <-dK t2.rd set table
 let FM:=kU v.b.planes list
 let x:Sn:=⟨more,v.b.id,aW list,table⟩
 let l2:=if more=[]then list else list++[x]
 let pl2:=if more=[]then FM else FM.set (aW list) (eC set1 [])
 let (snaps,t3) <-dG t2 v.b.snaps (j8 l2)
 let set2 <-dK t3.rd set1 snaps
 let p4 <-oX (aR v.blocks) t3.pool
 let own:=bV p4.taken t3.pool.taken
 let pl3:=pl2.set 0 (eC (eC set2 own) [])
 let q:=gp (bV (iK (List.range v.blocks)) own) v.blocks t3.pool.next
 let (mapped,t5) <-dG ⟨t3.rd,q⟩ ⟨0,0⟩ (gY pl3 v.blocks)
 .ok { v with rd:=t5.rd,num:=v.num+1,recs:=[],b:=⟨table,snaps,mapped,p4.next,if more=[]then v.b.id else v.b.id+1,inos,l2,pl3,ar v.T⟩ }
def cG (l:List Nt)(num:Int):ay:=match (l.filter fun x=>x.num==num).getLast? with
 |some x=>x.data
 |none=>[]
def bM (v:Vs):Nat:=aR v.blocks
def bH (v:Vs)(l:List Nt):Nat:=bM v+1+(l.map fun x=>db (cG v.b.nodes x.num) x.data).sum+(if l=v.b.nodes then 0 else aR (2+12*l.length))
def cT (v:Vs)(kind:Int):Nat:=if kind=8 then 0 else if kind=3\/kind=6 then bM v+2 else 2*bM v+16
def dm (v:Vs):Nat:=kT (cX v.b.planes) v.blocks
def ly (l:List ay):ay:=l.flatMap fun r=>[UInt8.ofNat (r.length%256),UInt8.ofNat (r.length/256%256)]++r
def cH (v:Vs):Nat:=v.half-(ly v.recs).length
def oY (v:Vs)(T:Tr)(kind:Int):Except Int (Bool×Vs):=
 if bH v (ar T)+cT v kind<=dm v then .ok (true,v)else
  (if ar v.T=v.b.nodes then .ok v else bD v v.b.list []).map fun u=>(decide (bH u (ar T)+cT u kind<=dm u),u)
def dy (v:Vs)(name:ay):Option Nat:=v.b.list.findIdx? fun x=>x.name==name
def oy (v:Vs)(c:co):Except Int Tr:=
 if c.kind=7/\(dy v c.path).isSome=true then .error 161 else
 if c.kind=7/\(7<=v.b.list.length\/1099511627777<=v.b.id)then .error 163 else
 if c.kind=8/\(dy v c.path).isSome=false then .error 162 else
 if c.kind=7\/c.kind=8 then .ok v.T else
  if(qK v.T c).2=0 then .ok (qK v.T c).1 else .error (qK v.T c).2
end Go.Proofs.YtkghpdcloaiflaaGreatDoor
