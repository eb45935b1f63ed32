import Derived.Test.YtkghpdcloaiflaaGreatDoorH10
import Derived.Test.YtkghpdcloaiflaaGreatDoorH11
namespace Go.Proofs.YtkghpdcloaiflaaGreatDoor
open _root_.Go.Proofs.Tryz
variable {blocks k n:Nat}{was:List (List Int)}{wl:List Int}
theorem getD_some {l:List Int}{i:Nat}(h:i<l.length):l[i]?=some (l.getD i 0):=by simp[h]
def kF (used:ay)(blocks:Nat):Nat:=((List.range' 1 (blocks-1)).filter λn=>!aq used n).length
structure cE (p:Pl):Prop where
 lo:1<=p.next
 hi:p.next<=p.blocks
 most:p.blocks<=4096
 left:p.left=kF p.used p.blocks
theorem A6 (used:ay)(n k:Nat):aq (dZ used (iE [n])) k=(aq used k||k==n):=by
 rw[iN,vA];congr 1;by_cases h:k=n<;>simp[h]
theorem P5 {used:ay}(h1:1<=n)(h2:n<blocks)(h3:aq used n=false):kF (dZ used (iE [n])) blocks+1=kF used blocks:=by
 unfold kF;have Ol:((List.range' 1 (blocks-1)).filter λn=>!aq used n).Nodup:=(List.nodup_range' (step:=1) dc7).filter _;have hm:n∈(List.range' 1 (blocks-1)).filter λn=>!aq used n:=by
  rw[av1,aw3];exact⟨by omega,by simp[h3]⟩
 have e:((List.range' 1 (blocks-1)).filter λk=>!aq (dZ used (iE [n])) k)=((List.range' 1 (blocks-1)).filter λn=>!aq used n).erase n:=by
  rw[Ol.erase_eq_filter,List.filter_filter];apply List.filter_congr;intro k _;rw[A6]
  cases aq used k<;>simp[bne]
 rw[e,List.length_erase_of_mem hm];have:=List.length_pos_of_mem hm;omega
theorem DB {used:ay}(h:0<kF used blocks):∃ n,1<=n/\n<blocks/\aq used n=false:=by
 obtain⟨n,hn⟩:=List.exists_mem_of_length_pos h;rw[av1,aw3]at hn;exact⟨n,J,J,by simpa using hn.2⟩
theorem pE {p:Pl}(h:cE p)(hl:0<p.left):1<=p.seek/\p.seek<p.blocks/\aq p.used p.seek=false:=by
 obtain⟨n,h1,h2,h3⟩:=DB (by rw[<-h.left];exact hl);have hlo:=h.lo;unfold Pl.seek
 cases hg:fW p.used p.next p.blocks with
 |some m=>
  have:=ol hg;simp;exact⟨by omega,this.2.1,this.2.2.1⟩
 |none=>
  cases Cu:fW p.used 1 p.blocks with
  |some m=>
   have:=ol Cu;simp;exact⟨by omega,this.2.1,this.2.2.1⟩
  |none=>
   have:=vz Cu n h1 h2;rw[h3]at this;cases this
theorem uV {p:Pl}(h:cE p)(hl:0<p.left):∃ n p',p.take=.ok (n,p')/\1<=n/\n<p.blocks/\aq p.used n=false/\cE p'/\p'.left+1=p.left/\p'.blocks=p.blocks/\(∀ k,aq p'.used k=(aq p.used k||k==n))/\(∀ k,aq p'.taken k=(aq p.taken k||k==n)):=by
 obtain⟨h1,h2,h3⟩:=pE h hl;refine⟨p.seek,{ p with used:=dZ p.used (iE [p.seek]),taken:=dZ p.taken (iE [p.seek]),next:=p.seek+1,left:=p.left-1 },?_,h1,h2,h3,⟨?_,?_,h.most,?_⟩,?_,rfl,λk=>A6 _ _ _,λk=>A6 _ _ _⟩
 ·unfold Pl.take;rw[awf J]
 ·show 1<=p.seek+1;omega
 ·show p.seek+1<=p.blocks;omega
 ·show p.left-1=kF (dZ p.used (iE [p.seek])) p.blocks;have:=P5 h1 h2 h3;rw[<-h.left]at this;omega
 ·show p.left-1+1=p.left;omega
structure dd (t t':gy)(k:Nat):Prop where
 ok:cE t'.pool
 used:∀ n,aq t.pool.used n=true->aq t'.pool.used n=true
 taken:∀ n,aq t'.pool.taken n=(aq t.pool.taken n||(aq t'.pool.used n&&!aq t.pool.used n))
 blocks:t'.pool.blocks=t.pool.blocks
 left:t'.pool.left+k=t.pool.left
 rd:∀ z:Int,(∀ n:Nat,z=n->aq t.pool.used n=true\/aq t'.pool.used n=false)->t'.rd z=t.rd z
 news:∀ n,aq t'.pool.used n=true->aq t.pool.used n=false->1<=n/\n<t.pool.blocks
theorem dd.refl {t:gy}(h:cE t.pool):dd t t 0:=⟨h,λ_ h=>h,λn=>by cases aq t.pool.used n<;>simp,rfl,rfl,λ_ _=>rfl,λn h1 h2=>by rw[h1]at h2;cases h2⟩
theorem dd.trans {a b c:gy}{m:Nat}(h1:dd a b k)(h2:dd b c m):dd a c (k+m):=by
 refine⟨h2.ok,λn h=>h2.used n (h1.used n h),λn=>?_,h2.blocks.trans h1.blocks,by have:=h1.left;have:=h2.left;omega,λz hz=>?_,λn hc ha=>?_⟩
 ·rw[h2.taken,h1.taken];have e1:=h1.used n;have e2:=h2.used n
  cases ha:aq a.pool.used n<;>cases hb:aq b.pool.used n<;>cases hc:aq c.pool.used n<;>simp_all
 ·rw[h2.rd z,h1.rd z]
  ·intro n hn;rcases hz n hn with h|h
   ·exact .inl h
   ·right
    cases hb:aq b.pool.used n with
    |false=>rfl
    |true=>rw[h2.used n hb]at h;cases h
  ·intro n hn;rcases hz n hn with h|h
   ·exact .inl (h1.used n h)
   ·exact .inr h
 ·cases hb:aq b.pool.used n with
  |true=>exact h1.news n hb ha
  |false=>have:=h2.news n hc hb;rw[h1.blocks]at this;exact this
theorem dd.keepRd {t t':gy}(h:dd t t' k)(hn:aq t.pool.used n=true):t'.rd n=t.rd n:=
 h.rd n λm hm=>.inl (by rw[<-Int.ofNat_inj.1 hm];exact hn)
def fC (p:Pl)(n:Int):Prop:=∃ k:Nat,n=k/\aq p.used k=true/\1<=k/\k<p.blocks
theorem P7 {t:gy}(h:cE t.pool)(hl:0<t.pool.left)(s:ay):∃(n:Nat) (p':Pl),t.pool.take=.ok (n,p')/\dd t ⟨lM t.rd n s,p'⟩ 1/\aq t.pool.used n=false/\1<=n/\n<t.pool.blocks/\aq p'.used n=true/\lM t.rd n s n=.ok s:=by
 obtain⟨n,p',e,h1,h2,h3,h4,h5,h6,h7,h8⟩:=uV h hl;refine⟨n,p',e,⟨h4,λk hk=>by rw[h7,hk];rfl,λk=>?_,h6,h5,λz hz=>?_,λk hk dK=>?_⟩,h3,h1,h2,by rw[h7];simp,by simp[lM]⟩
 ·show aq p'.taken k=(aq t.pool.taken k||(aq p'.used k&&!aq t.pool.used k));rw[h8,h7];by_cases hk:k=n
  ·subst hk;simp[h3]
  ·have:(k==n)=false:=by simp[hk]
   rw[this];cases aq t.pool.used k<;>simp
 ·show lM t.rd n s z=t.rd z;unfold lM;rw[awf];intro hzn;rcases hz n hzn with h|h
  ·rw[h3]at h;cases h
  ·have h':aq p'.used n=false:=h;rw[h7]at h';simp at h'
 ·have FU:aq p'.used k=true:=hk;rw[h7]at FU;have:k=n:=by
   have dr:aq t.pool.used k=false:=dK;rw[dr]at FU;simpa using FU
  subst this;exact⟨h1,h2⟩
def GW (stay:Nat->Option Int)(f i:Nat):Nat:=((List.range' i f).filter λj=>(stay j).isNone).length
theorem LG (stay:Nat->Option Int)(f i:Nat):GW stay (f+1) i=(if(stay i).isNone=true then 1 else 0)+GW stay f (i+1):=by
 unfold GW;rw[List.range'_succ,axh];split<;>simp<;>omega
def nP (t t':gy)(stay:Nat->Option Int)(s:Nat->ay)(j:Nat)(n:Int):Prop:=match stay j with
 |some m=>n=m
 |none=>∃ k:Nat,n=k/\aq t.pool.used k=false/\aq t'.pool.used k=true/\1<=k/\k<t.pool.blocks/\t'.rd n=.ok (s j)
theorem P8 (stay:Nat->Option Int)(s:Nat->ay)(f i:Nat)(t:gy)(h:cE t.pool)(hl:GW stay f i<=t.pool.left):
  ∃ L t',ik stay s f i t=.ok (L,t')/\L.length=f/\dd t t' (GW stay f i)/\∀ j n,L[j]?=some n->nP t t' stay s (i+j) n:=by
 induction f generalizing i t with
 |zero=>exact⟨[],t,rfl,rfl,dd.refl h,λj n hn=>by simp at hn⟩
 |succ f ih=>
  rw[LG]at hl ⊢
  cases hs:stay i with
  |some n=>
   rw[hs]at hl;obtain⟨L,t',e,h1,h2,h3⟩:=ih (i+1) t h (by simpa using hl);refine⟨n::L,t',by rw[ik,hs];simp only;rw[e];rfl,by simp[h1],by simpa using h2,λj m hm=>?_⟩
   cases j with
   |zero=>simp at hm;subst hm;unfold nP;rw[Nat.add_zero,hs]
   |succ j=>have:=h3 j m (by simpa using hm);rwa [show i+1+j=i+(j+1) by omega]at this
  |none=>
   rw[hs]at hl;simp only[Option.isNone_none,awd]at hl;obtain⟨n,p',e,hg,hn,FS,Fy,Yd,Xu⟩:=P7 h J (s i);obtain⟨L,t',e',h1,h2,h3⟩:=ih (i+1) ⟨lM t.rd n (s i),p'⟩ hg.ok (by have:=hg.left;simp at this ⊢;omega);refine⟨n::L,t',by rw[ik,hs];simp only;rw[e];simp only;rw[e'];rfl,by simp[h1],by simpa using hg.trans h2,λj m hm=>?_⟩
   cases j with
   |zero=>
    simp at hm;subst hm;unfold nP;rw[Nat.add_zero,hs];exact⟨n,rfl,hn,h2.used n Yd,FS,Fy,by rw[h2.keepRd Yd];exact Xu⟩
   |succ j=>
    have:=h3 j m (by simpa using hm);rw[show i+1+j=i+(j+1) by omega]at this;unfold nP at this ⊢
    cases j5:stay (i+(j+1))with
    |some q=>rw[j5]at this;exact this
    |none=>
     rw[j5]at this;obtain⟨k,a1,a2,a3,a4,a5,a6⟩:=this;refine⟨k,a1,?_,a3,a4,by have:=hg.blocks;simp at this a5;omega,a6⟩
     cases hu:aq t.pool.used k with
     |false=>rfl
     |true=>have:=hg.used k hu;rw[this]at a2;cases a2
def iW (br data:ay):List Bool:=(List.range (bQ data.length 240)).map λi=>decide (aQ br i≠aQ data i)
def iq (alike:Bool)(m n was:Nat)(other:List Bool):List Bool:=(List.range m).map λi=>!alike||decide (bQ was 60<=i)||decide (min (n-60*i) 60≠min (was-60*i) 60)||(dC other (60*i) 60).any id
def lR (l:List Bool):Nat:=(l.filter id).length
def cU (alike:Bool):List Nat->Nat->Nat->List Bool->Nat
 |[],_,_,_=>0
 |m::r,n,was,other=>let o:=iq alike m n was other;lR o+cU alike r m (bQ was 60) o
def cY (br data:ay):Nat:=match ax data.length with
 |[]=>0
 |m::r=>lR (iW br data)+cU ((ax br.length).length==(ax data.length).length) r m (bQ br.length 240) (iW br data)
theorem DC (stay:Nat->Option Int)(o:List Bool)(h:∀ i,i<o.length->o[i]?=some (stay i).isNone):GW stay o.length 0=lR o:=by
 unfold GW lR;have e:o=(List.range' 0 o.length).map λi=>(stay i).isNone:=by
  apply List.ext_getElem?;intro i;by_cases hi:i<o.length
  ·rw[h i hi];simp[hi]
  ·rw[awY J,awY (by simp;omega)]
 conv=>rhs;rw[e,List.filter_map,awz]
 congr 1
theorem A7 {l:List Bool}{a:Nat}:(dC l a n).any id=true↔∃ k,k<n/\l[a+k]?=some true:=by
 unfold dC;rw[List.any_eq_true]
 constructor
 ·rintro⟨x,hx,h⟩;obtain⟨k,hk⟩:=axj hx;have aP:=(awk.1 hk).1;simp only[awc]at aP;rw[List.getElem?_take_of_lt J,axd]at hk;simp at h;subst h;exact⟨k,J,hk⟩
 ·rintro⟨k,hk,h⟩;refine⟨true,?_,rfl⟩;apply av7 (i:=k);rw[List.getElem?_take_of_lt hk,axd,h]
structure P9 (u:Pl)(was now:List Int)(other:List Bool):Prop where
 len:other.length=now.length
 stays:∀ i,other[i]?=some false->now[i]?=was[i]?/\i<was.length
 news:∀(i:Nat) (n:Int),other[i]?=some true->now[i]?=some n->∃ k:Nat,n=k/\aq u.used k=false
theorem A8 {α:Type}(l:List α)(a n k:Nat)(hk:k<n):(dC l a n)[k]?=l[a+k]?:=by
 unfold dC;rw[List.getElem?_take_of_lt hk,axd]
theorem J9 {α:Type}(l:List α)(a n:Nat):(dC l a n).length=min (l.length-a) n:=by unfold dC;simp;omega
theorem Vh {u:Pl}{nl:List Int}{other:List Bool}{up:List Int}(ho:P9 u wl nl other)(hw:∀ n∈wl,fC u n)(hr:∀ n∈nl,1<=n/\n<4096)(hb:u.blocks<=4096)(alike:Bool)(m i:Nat)(hi:i<m)(was:List (List Int))(bw:Nat)
  (e1:was.getD (bw-1) []=wl) (e2:was.getD bw []=up) (yo:alike=true->up.length=bQ wl.length 60):
  (iq alike m nl.length wl.length other)[i]?=some (eC alike was nl bw i).isNone:=by
 unfold iq eC;rw[aw5,aw6 hi,aw7,e1,e2]
 congr 1
 have hwr:∀ n∈aY wl i,0<=n/\n<4294967296:=λn hn=>by
  obtain⟨k,rfl,_,h1,h2⟩:=hw n (List.mem_of_mem_drop (awb hn));omega
 have hnr:∀ n∈aY nl i,0<=n/\n<4294967296:=λn hn=>by have:=hr n (List.mem_of_mem_drop (awb hn));omega
 by_cases ha:alike=true
 ·rw[ha,yo ha];by_cases aP:i<bQ wl.length 60
  ·by_cases hg:aY nl i=aY wl i
   ·rw[awd ⟨rfl,aP,by rw[hg]⟩];have bt:min (nl.length-60*i) 60=min (wl.length-60*i) 60:=by
     have:=axi List.length hg;rw[kc,kc]at this;omega
    have aj7:(dC other (60*i) 60).any id=false:=by
     rw[Bool.eq_false_iff];intro h;obtain⟨k,hk,bZ⟩:=A7.1 h;have Cn:=(awk.1 bZ).1;rw[ho.len]at Cn;have h3:=ho.news (60*i+k) nl[60*i+k] bZ (av6 Cn);obtain⟨q,e,hq⟩:=h3;have h4:(aY nl i)[k]?=some nl[60*i+k]:=by rw[pC,A8 _ _ _ _ hk,av6 Cn]
     rw[hg]at h4;have h5:=av7 h4;obtain⟨q',e',hq',_⟩:=hw _ (List.mem_of_mem_drop (awb h5));rw[e]at e';have:q=q':=J
     subst this;rw[hq]at hq';cases hq'
    simp[aP,bt,aj7]
   ·rw[awf (λh=>hg (P3 hnr hwr h.2.2))];simp only[Option.isNone_none,Bool.not_true,Bool.false_or,awq,awt];apply awZ;intro lh;simp only[not_or]at lh;obtain⟨⟨_,h2⟩,h3⟩:=lh;apply hg;have bt:min (nl.length-60*i) 60=min (wl.length-60*i) 60:=awZ h2;rw[pC,pC];apply List.ext_getElem?;intro k;by_cases hk:k<min (nl.length-60*i) 60
    ·rw[A8 _ _ _ _ J,A8 _ _ _ _ J];have Yy:60*i+k<other.length:=by rw[ho.len];omega
     cases hb:other[60*i+k]with
     |true=>exact absurd (A7.2 ⟨k,J,by rw[av6 Yy,hb]⟩) h3
     |false=>exact(ho.stays _ (by rw[av6 Yy,hb])).1
    ·rw[awY (by rw[J9];omega),awY (by rw[J9];omega)]
  ·rw[awf (λh=>aP h.2.1)];simp;omega
 ·have:alike=false:=by simpa using ha
  subst this;simp
theorem DD {t t':gy}{stay:Nat->Option Int}{s:Nat->ay}{L:List Int}{o:List Bool}(hm:∀ i,i<o.length->o[i]?=some (stay i).isNone)(hl:L.length=o.length)(h:∀ j n,L[j]?=some n->nP t t' stay s (0+j) n)
  (hs:∀ i n,stay i=some n->wl[i]?=some n) (u:Pl) (hu:∀ n,aq u.used n=true->aq t.pool.used n=true):P9 u wl L o:=by
 refine⟨hl.symm,λi hi=>?_,λi n hi hn=>?_⟩
 ·have aP:=(awk.1 hi).1;rw[hm i aP]at hi;have hL:L[i]?=some L[i]:=av6 J;have:=h i _ hL;rw[awR]at this;unfold nP at this
  cases dh:stay i with
  |none=>rw[dh]at hi;simp at hi
  |some m=>
   rw[dh]at this;simp only at this;have h1:=hs i m dh;exact⟨by rw[hL,h1,this],(awk.1 h1).1⟩
 ·have aP:=(awk.1 hi).1;rw[hm i aP]at hi;have:=h i n hn;rw[awR]at this;unfold nP at this
  cases dh:stay i with
  |some m=>rw[dh]at hi;simp at hi
  |none=>
   rw[dh]at this;obtain⟨k,e,h1,_⟩:=this;refine⟨k,e,?_⟩
   cases hk:aq u.used k with
   |false=>rfl
   |true=>rw[hu k hk]at h1;cases h1
theorem oH {t t':gy}(h:dd t t' k){n:Int}(hn:fC t.pool n):fC t'.pool n:=by
 obtain⟨m,e,h1,h2,h3⟩:=hn;exact⟨m,e,h.used m h1,h2,by rw[h.blocks];exact h3⟩
theorem qa (r:List Nat)(n w w':Nat)(o:List Bool):cU false r n w o=cU false r n w' o:=by
 induction r generalizing n w w' o with
 |nil=>rfl
 |cons m r ih=>
  have e:iq false m n w o=iq false m n w' o:=by simp[iq]
  simp only[cU,e];rw[ih]
theorem ZI (alike:Bool)(was:List (List Int))(u:Pl)(hub:u.blocks<=4096)(ze:∀ l,∀ n∈was.getD l [],fC u n)(yo:alike=true->∀ l,l+1<was.length->(was.getD (l+1) []).length=bQ (was.getD l []).length 60)(r:List Nat)(bw:Nat)(now:List Int)(t:gy)(ht:cE t.pool)(JF:t.pool.blocks=u.blocks)(hu:∀ n,aq u.used n=true->aq t.pool.used n=true)
  (alb:∀ n∈now,fC t.pool n) (other:List Bool) (ho:P9 u (was.getD bw []) now other)
  (ha:alike=true->was.length=bw+1+r.length)
  (hwp:∀ l i (n:Int),(was.getD (l+1) [])[i]?=some n->t.rd n=.ok (cM (aY (was.getD l []) i)))
  (wl:Nat) (YX:alike=true->wl=(was.getD bw []).length) (hc:cU alike r now.length wl other<=t.pool.left):
  ∃ L t',qz alike was r (bw+1) now t=.ok (L,t')/\L.map List.length=r/\dd t t' (cU alike r now.length wl other)/\(∀ l∈L,∀ n∈l,fC t'.pool n/\((∃ j,n∈was.getD j [])\/∃ k:Nat,n=k/\aq u.used k=false))/\
   ∀ l i (n:Int),((now::L).getD (l+1) [])[i]?=some n->t'.rd n=.ok (cM (aY ((now::L).getD l []) i)):=by
 have afn:cU alike r now.length wl other=cU alike r now.length (was.getD bw []).length other:=by
  cases alike with
  |false=>exact qa _ _ _ _ _
  |true=>rw[YX rfl]
 rw[afn]at hc ⊢;clear afn YX
 induction r generalizing bw now t other wl with
 |nil=>
  refine⟨[],t,rfl,rfl,dd.refl ht,λl hl=>by simp at hl,λl i n hn=>by simp at hn⟩
 |cons m r ih=>
  have hr:∀ n∈now,1<=n/\n<4096:=λn hn=>by
   obtain⟨k,rfl,_,h1,h2⟩:=alb n hn;omega
  have agq:alike=true->(was.getD (bw+1) []).length=bQ (was.getD bw []).length 60:=λh=>yo h bw (by have:=ha h;simp at this;omega);have hov:∀ i,i<m->(iq alike m now.length (was.getD bw []).length other)[i]?=some (eC alike was now (bw+1) i).isNone:=λi hi=>
   Vh ho (ze bw) hr hub alike m i hi was (bw+1) rfl rfl agq
  have Yy:(iq alike m now.length (was.getD bw []).length other).length=m:=by simp[iq]
  have j4:=DC (eC alike was now (bw+1)) (iq alike m now.length (was.getD bw []).length other) (λi hi=>hov i J);rw[Yy]at j4;have hcu:cU alike (m::r) now.length (was.getD bw []).length other=lR (iq alike m now.length (was.getD bw []).length other)+cU alike r m (bQ (was.getD bw []).length 60) (iq alike m now.length (was.getD bw []).length other):=rfl;rw[hcu]at hc ⊢;obtain⟨L,t1,e1,h1,h2,h3⟩:=P8 (eC alike was now (bw+1)) (λi=>cM (aY now i)) m 0 t ht J;rw[j4]at h2;have dh:∀ i n,eC alike was now (bw+1) i=some n->(was.getD (bw+1) [])[i]?=some n/\cM (aY now i)=cM (aY (was.getD bw []) i):=by
   intro i n h;unfold eC at h;split at h
   ·rename_i hh
    injection h with h;exact⟨by rw[<-h];exact getD_some hh.2.1,by simpa using hh.2.2⟩
   ·cases h
  have ai6:P9 u (was.getD (bw+1) []) L (iq alike m now.length (was.getD bw []).length other):=
   DD (λi hi=>hov i J) J h3 (λi n h=>(dh i n h).1) u hu
  have hL2:∀ n∈L,fC t1.pool n/\((∃ j,n∈was.getD j [])\/∃ k:Nat,n=k/\aq u.used k=false):=by
   intro n hn;obtain⟨j,hj⟩:=axj hn;have:=h3 j n hj;unfold nP at this
   cases hs:eC alike was now (bw+1) (0+j)with
   |some q=>
    rw[hs]at this;simp only at this;subst this;obtain⟨k,e,a1,a2,a3⟩:=ze (bw+1) n (av7 (dh _ _ hs).1);exact⟨⟨k,e,h2.used k (hu k a1),a2,by rw[h2.blocks,JF];exact a3⟩,.inl ⟨bw+1,av7 (dh _ _ hs).1⟩⟩
   |none=>
    rw[hs]at this;obtain⟨k,e,a0,a2,a3,a4,_⟩:=this;refine⟨⟨k,e,a2,a3,by rw[h2.blocks];exact a4⟩,.inr ⟨k,e,?_⟩⟩
    cases hk:aq u.used k with
    |false=>rfl
    |true=>rw[hu k hk]at a0;cases a0
  have hL:∀ n∈L,fC t1.pool n:=λn hn=>(hL2 n hn).1;have ajh:cU alike r m (bQ (was.getD bw []).length 60) (iq alike m now.length (was.getD bw []).length other)=cU alike r m (was.getD (bw+1) []).length (iq alike m now.length (was.getD bw []).length other):=by
   cases OX:alike with
   |false=>exact qa _ _ _ _ _
   |true=>rw[agq OX]
  rw[ajh]at hc ⊢;obtain⟨L2,t2,e2,g1,g2,g3,g4⟩:=ih (bw+1) L t1 h2.ok (h2.blocks.trans JF) (λn hn=>h2.used n (hu n hn)) hL _ ai6 (λh=>by have:=ha h;simp at this;omega)
   (λl i n hn=>by
    obtain⟨k,e,a1,_⟩:=ze (l+1) n (av7 hn);rw[e,h2.keepRd (hu k a1),<-e];exact hwp l i n hn) 0 (by rw[h1];have:=h2.left;omega)
  rw[h1]at g2;have g0:∀ i (n:Int),L[i]?=some n->t2.rd n=.ok (cM (aY now i)):=by
   intro i n hn;obtain⟨k,e,a1,_⟩:=hL n (av7 hn);rw[e,g2.keepRd a1,<-e];have:=h3 i n hn;unfold nP at this;rw[awR]at this
   cases hs:eC alike was now (bw+1) i with
   |some q=>
    rw[hs]at this;simp only at this;subst this;obtain⟨b1,b2⟩:=dh _ _ hs;obtain⟨k,e,a1,_⟩:=ze (bw+1) n (av7 b1);rw[e,h2.keepRd (hu k a1),<-e,hwp bw i n b1,b2]
   |none=>
    rw[hs]at this;obtain⟨k,_,_,_,_,_,a⟩:=this;exact a
  refine⟨L::L2,t2,?_,by simp[h1,g1],h2.trans g2,?_,?_⟩
  ·rw[qz,e1];simp only;rw[e2];rfl
  ·intro l hl n hn;rcases aws.1 hl with rfl|hl
   ·exact⟨oH g2 (hL n hn),(hL2 n hn).2⟩
   ·exact g3 l hl n hn
  ·intro l i n hn
   cases l with
   |zero=>exact g0 i n (by simpa using hn)
   |succ l=>
    have:=g4 l i n (by simpa using hn);simpa using this
theorem Qa {t:gy}{br data:ay}(ht:cE t.pool)(hw:eK t.rd br was)(hu:∀ l∈was,∀ n∈l,fC t.pool n)(hs:data.length<=16384)(hh:br.length<=16384)(hc:cY br data<=t.pool.left):
  ∃ nums t',kp br data was t=.ok (nums,t')/\eK t'.rd data nums/\dd t t' (cY br data)/\(∀ l∈nums,∀ n∈l,fC t'.pool n)/\∀ n:Nat,(n:Int)∈nums.flatten->(n:Int)∈was.flatten\/aq t.pool.used n=false:=by
 have YX:was.length=(ax br.length).length:=by rw[<-hw.shape];simp
 have hu':∀ l,∀ n∈was.getD l [],fC t.pool n:=by
  intro l n hn;by_cases hl:l<was.length
  ·rw[List.getD,av6 hl]at hn;exact hu _ (awF hl) n hn
  ·rw[List.getD,awY J]at hn;cases hn
 have KZ:(was.getD 0 []).length=bQ br.length 240:=by
  rw[fN hw];rcases aN br.length with⟨h0,e⟩|⟨h0,h2,e⟩|⟨_,_,e⟩|⟨_,e⟩<;>rw[e]
  ·rw[h0];rfl
  ·have h1:=(aL (n:=br.length) (each:=240) (k:=1) dc7).2 J;have h3:=dB (n:=br.length) (each:=240) dc7;simp;omega
  all_goals rfl
 unfold kp cY at*
 cases iA:ax data.length with
 |nil=>
  rw[iA]at hc;have hd:data=[]:=by
   rcases aN data.length with⟨h0,_⟩|⟨_,_,e⟩|⟨_,_,e⟩|⟨_,e⟩
   ·exact awD.1 h0
   all_goals rw[e]at iA;cases iA
  subst hd;exact⟨[],t,rfl,⟨by rw[iA];rfl,λi n h=>by simp at h,λl i n h=>by simp at h,λl h=>by simp at h⟩,dd.refl ht,λl h=>by simp at h,λn h=>by simp at h⟩
 |cons m r=>
  rw[iA]at hc;simp only at hc ⊢;have hm:m=bQ data.length 240:=by
   rcases aN data.length with⟨h0,e⟩|⟨h0,h2,e⟩|⟨_,_,e⟩|⟨_,e⟩<;>rw[e]at iA
   ·cases iA
   ·have h1:=(aL (n:=data.length) (each:=240) (k:=1) dc7).2 J;have h3:=dB (n:=data.length) (each:=240) dc7;injection iA;omega
   all_goals (injection iA;omega)
  have Yy:(iW br data).length=m:=by simp[iW,hm]
  have dh:∀ i,i<m->(iW br data)[i]?=some (fR br data was i).isNone:=by
   intro i hi;unfold iW fR;rw[aw5,aw6 J,aw7];by_cases e:aQ data i=aQ br i
   ·simp[e]
   ·simp[e,Ne.symm e]
  have j4:=DC (fR br data was) (iW br data) (λi hi=>dh i J);rw[Yy]at j4;obtain⟨L,t1,e1,h1,h2,h3⟩:=P8 (fR br data was) (aQ data) m 0 t ht J;rw[j4]at h2;have Ju:∀ i,i<m->240*i<data.length:=by
   intro i hi;have:=(aL (n:=data.length) (each:=240) (k:=i) dc7)
   omega
  have hsy:∀ i n,i<m->fR br data was i=some n->(was.getD 0 [])[i]?=some n/\aQ data i=aQ br i:=by
   intro i n hi h;unfold fR at h;split at h
   ·rename_i e
    injection h with h;have aP:i<(was.getD 0 []).length:=by
     rw[KZ];have:=axi List.length e;rw[j9,j9]at this;have:=Ju i hi;have:=(aL (n:=br.length) (each:=240) (k:=i) dc7)
     omega
    exact⟨by rw[<-h];exact getD_some aP,e⟩
   ·cases h
  have hov:P9 t.pool (was.getD 0 []) L (iW br data):=by
   refine DD (stay:=λi=>if i<m then fR br data was i else none) (s:=aQ data) (t:=t) (t':=t1) (λi hi=>by rw[Yy]at hi;simp only[hi,awd];exact dh i hi) J (λj n hn=>?_) (λi n h=>?_) t.pool (λ_ h=>h)
   ·have hj:=(awk.1 hn).1;have:=h3 j n hn;unfold nP at this ⊢;rw[awR]at this ⊢;simp only[show j<m by omega,awd];exact this
   ·by_cases hi:i<m
    ·rw[awd hi]at h;exact(hsy i n hi h).1
    ·rw[awf hi]at h;cases h
  have hL2:∀ n∈L,fC t1.pool n/\((∃ j,n∈was.getD j [])\/∃ k:Nat,n=k/\aq t.pool.used k=false):=by
   intro n hn;obtain⟨j,hj⟩:=axj hn;have hjm:=(awk.1 hj).1;have:=h3 j n hj;unfold nP at this;rw[awR]at this
   cases hs:fR br data was j with
   |some q=>
    rw[hs]at this;simp only at this;subst this;have hm:=av7 (hsy j n J hs).1;exact⟨oH h2 (hu' 0 n hm),.inl ⟨0,hm⟩⟩
   |none=>
    rw[hs]at this;obtain⟨k,e,a0,a2,a3,a4,_⟩:=this;exact⟨⟨k,e,a2,a3,by rw[h2.blocks];exact a4⟩,.inr ⟨k,e,a0⟩⟩
  have hL:∀ n∈L,fC t1.pool n:=λn hn=>(hL2 n hn).1;have abP:(was.length==r.length+1)=((ax br.length).length==(m::r).length):=by rw[YX];simp
  rw[abP];have agf:∀ l,l+1<was.length->(was.getD (l+1) []).length=bQ (was.getD l []).length 60:=by
   intro l hl;rw[fN hw,fN hw];rw[YX]at hl;rcases aN br.length with⟨h0,e⟩|⟨h0,h2,e⟩|⟨h0,h2,e⟩|⟨h0,e⟩<;>rw[e]at hl ⊢
   ·simp at hl
   ·simp at hl
   ·obtain rfl:l=0:=by simp at hl;omega
    have h1:=(aL (n:=br.length) (each:=240) (k:=60) dc7).2 J;have h3:=dB (n:=br.length) (each:=240) dc7;have h4:=dB (n:=bQ br.length 240) (each:=60) dc7;have h5:=(aL (n:=bQ br.length 240) (each:=60) (k:=1) dc7).2 J;simp;omega
   ·rcases l with _|_|l
    ·rfl
    ·have h1:=(aL (n:=br.length) (each:=240) (k:=69) dc7).2 J;have h6:=(aL (n:=br.length) (each:=240) (k:=60) dc7)
     have h3:=(aL (n:=bQ br.length 240) (each:=60) (k:=2) dc7).2 J;have h7:=(dB (n:=bQ br.length 240) (each:=60) dc7)
     have h4:=dB (n:=bQ (bQ br.length 240) 60) (each:=60) dc7;have h5:=(aL (n:=bQ (bQ br.length 240) 60) (each:=60) (k:=1) dc7).2 J;simp;omega
    ·simp at hl;omega
  obtain⟨L2,t2,e2,g1,g2,g3,g4⟩:=ZI ((ax br.length).length==(m::r).length) was t.pool ht.most hu' (λ_=>agf) r 0 L t1 h2.ok h2.blocks (λn hn=>h2.used n hn) hL (iW br data) hov (λh=>by simp at h;omega)
   (λl i n hn=>by
    obtain⟨k,e,a1,_⟩:=hu' (l+1) n (av7 hn);rw[e,h2.keepRd a1,<-e];exact hw.ptr l i n hn) (bQ br.length 240) (λ_=>KZ.symm) (by rw[h1];have:=h2.left;omega)
  rw[h1]at g2;have nC:∀ l∈L::L2,∀ n∈l,fC t2.pool n:=by
   intro l hl n hn;rcases aws.1 hl with rfl|hl
   ·exact oH g2 (hL n hn)
   ·exact(g3 l hl n hn).1
  have ad8:∀ n:Nat,(n:Int)∈(L::L2).flatten->(n:Int)∈was.flatten\/aq t.pool.used n=false:=by
   intro n hn;obtain⟨l,hl,hm⟩:=List.mem_flatten.1 hn;have:(∃ j,(n:Int)∈was.getD j [])\/∃ k:Nat,(n:Int)=k/\aq t.pool.used k=false:=by
    rcases aws.1 hl with rfl|hl
    ·exact(hL2 _ hm).2
    ·exact(g3 l hl _ hm).2
   rcases this with⟨j,hj⟩|⟨k,e,hk⟩
   ·left
    by_cases hl:j<was.length
    ·rw[List.getD,av6 hl]at hj;exact List.mem_flatten.2 ⟨_,awF hl,hj⟩
    ·rw[List.getD,awY J]at hj;cases hj
   ·right
    have:n=k:=J
    subst this;exact hk
  refine⟨L::L2,t2,?_,⟨?_,?_,g4,?_⟩,h2.trans g2,nC,ad8⟩
  ·rw[e1];simp only;rw[e2];rfl
  ·rw[av3,h1,g1,iA]
  ·intro i n hn;simp only[List.getD_cons_zero]at hn;obtain⟨k,e,a1,_⟩:=hL n (av7 hn);rw[e,g2.keepRd a1,<-e];have hjm:=(awk.1 hn).1;have:=h3 i n hn;unfold nP at this;rw[awR]at this
   cases hs:fR br data was i with
   |some q=>
    rw[hs]at this;simp only at this;subst this;obtain⟨b1,b2⟩:=hsy i n J hs;obtain⟨k,e,a1,_⟩:=hu' 0 n (av7 b1);rw[e,h2.keepRd a1,<-e,hw.chunk i n b1,b2]
   |none=>
    rw[hs]at this;obtain⟨k,_,_,_,_,_,a⟩:=this;exact a
  ·intro l hl n hn;obtain⟨k,e,_,a1,a2⟩:=nC l hl n hn;have:=g2.ok.most;omega
theorem LH {t:gy}{br data:ay}(ht:cE t.pool)(hw:eK t.rd br was)(hu:∀ l∈was,∀ n∈l,fC t.pool n)(hs:data.length<=16384)(hh:br.length<=16384)(hc:cY br data<=t.pool.left):
  ∃ nums t',dz t (dj br was) data=.ok (dj data nums,t')/\eK t'.rd data nums/\dd t t' (cY br data)/\(∀ l∈nums,∀ n∈l,fC t'.pool n)/\∀ n:Nat,(n:Int)∈nums.flatten->(n:Int)∈was.flatten\/aq t.pool.used n=false:=by
 obtain⟨nums,t',e,h1,h2,h3,h4⟩:=Qa ht hw hu hs hh hc;obtain⟨o,e1,e2,_⟩:=kD hw hh true;refine⟨nums,t',?_,h1,h2,h3,h4⟩;unfold dz;rw[awf J,e1];simp only[↓reduceIte];rw[e2,e];rfl
structure fD where
 num:Int
 dir:Bool
 links:Int
 blob:fI
structure Sn where
 name:ay
 id:Int
 plane:Int
 table:fI
def yM (b:fI):ay:=aD b.root.toNat++aD b.size.toNat
def nQ (x:fD):ay:=aD x.num.toNat++aD (if x.dir=true then 1 else 0)++aD x.links.toNat++yM x.blob
def jV (l:List fD):ay:=aD l.length++l.flatMap nQ
def oI (x:Sn):ay:=aD x.name.length++x.name++aD x.id.toNat++aD x.plane.toNat++yM x.table
def jW (l:List Sn):ay:=aD l.length++l.flatMap oI
def fI.ok (b:fI):Bool:=b.may&&decide (0<=b.root)&&decide (b.root<4096)
def yN (was:Int):List fD->Bool
 |[]=>true
 |x::r=>decide (was<x.num)&&decide (x.num<=65535)&&decide (1<=x.links)&&decide (x.links<=65535)&&x.blob.ok&&yN x.num r
def qJ (l:List fD):Bool:=decide (l.length<=4096)&&yN 0 l
def Uk (was:Int):List Sn->Bool
 |[]=>true
 |x::r=>aJ x.name&&decide (was<x.id)&&decide (x.id<=1099511627776)&&decide (1<=x.plane)&&decide (x.plane<=7)&&x.table.ok&&Uk x.id r
def zG (l:List Sn):Bool:=decide (l.length<=4096)&&Uk 0 l
def gV (planes:List ay)(blocks:Nat):ay:=(List.range blocks).map λb=>UInt8.ofNat ((List.range 8).foldl (λa p=>if aq (planes.getD p []) b then a+2 ^ p else a) 0)
def cT (planes:List ay):ay:=planes.foldl dZ []
def aU (size:Nat):Nat:=(ax size).sum
structure iX where
 table:fI
 snaps:fI
 mapped:fI
 next:Nat
 id:Nat
 inodes:List fD
 list:List Sn
 planes:List ay
 nodes:List Nt
structure Vs where
 rd:Rd
 blocks:Nat
 num:Nat
 b:iX
 T:Tr
 recs:List ay
 half:Nat
def dD (rd:Rd)(set:ay)(b:fI):Except Int ay:=match oo rd b with
 | .error e=>.error e
 | .ok l=>if l.all (λn=>decide (0<=n)&&decide (n<=65535))=true then .ok (dZ set (iE (l.map Int.toNat)))else .error 150
def dR (l:List fD)(num:Int):fI:=match (l.filter λx=>x.num==num).getLast? with
 |some x=>x.blob
 |none=>⟨0,0⟩
def mj (was:List fD):List Nt->ay->gy->Except Int (List fD×ay×gy)
 |[],set,t=>.ok ([],set,t)
 |x::r,set,t=>match dz t (dR was x.num) x.data with
  | .error e=>.error e
  | .ok (b,t1)=>match dD t1.rd set b with
   | .error e=>.error e
   | .ok s=>(mj was r s t1).map λo=>(⟨x.num,x.dir,x.links,b⟩::o.1,o.2)
def bf (l:List Sn):Nat:=((List.range' 1 8).find? λ(p:Nat)=>!l.any λx=>x.plane==(p:Int)).getD 0
def oJ:Nat->Pl->Except Int Pl
 |0,p=>.ok p
 |k+1,p=>match p.take with
  | .error e=>.error e
  | .ok (_,q)=>oJ k q
def fT (b:iX):ay:=yM b.table++yM b.snaps++yM b.mapped++aD b.next++aD b.id
def kG (planes:List ay)(l:List Sn):List ay:=(List.range 8).map λ(p:Nat)=>if p=0\/l.any (λx=>x.plane==(p:Int))=true then planes.getD p []else []
def bF (v:Vs)(list:List Sn)(more:ay):Except Int Vs:=do
 let p:=gp (cT v.b.planes) v.blocks v.b.next
 let (inos,set,t1) <-mj v.b.inodes (aw v.T) [] ⟨v.rd,p⟩
 let (table,t2) <-dz t1 v.b.table (jV inos)
 let set1 <-dD t2.rd set table
 let FV:=kG v.b.planes list
 let x:Sn:=⟨more,v.b.id,bf list,table⟩
 let l2:=if more=[]then list else list++[x]
 let pl2:=if more=[]then FV else FV.set (bf list) (dZ set1 [])
 let (snaps,t3) <-dz t2 v.b.snaps (jW l2)
 let set2 <-dD t3.rd set1 snaps
 let p4 <-oJ (aU v.blocks) t3.pool
 let own:=bV p4.taken t3.pool.taken
 let pl3:=pl2.set 0 (dZ (dZ set2 own) [])
 let q:=gp (bV (iE (List.range v.blocks)) own) v.blocks t3.pool.next
 let (mapped,t5) <-dz ⟨t3.rd,q⟩ ⟨0,0⟩ (gV pl3 v.blocks)
 .ok { v with rd:=t5.rd,num:=v.num+1,recs:=[],b:=⟨table,snaps,mapped,p4.next,if more=[]then v.b.id else v.b.id+1,inos,l2,pl3,aw v.T⟩ }
def cF (l:List Nt)(num:Int):ay:=match (l.filter λx=>x.num==num).getLast? with
 |some x=>x.data
 |none=>[]
def bP (v:Vs):Nat:=aU v.blocks
def bI (v:Vs)(l:List Nt):Nat:=bP v+1+(l.map λx=>cY (cF v.b.nodes x.num) x.data).sum+(if l=v.b.nodes then 0 else aU (2+12*l.length))
def cQ (v:Vs)(kind:Int):Nat:=if kind=8 then 0 else if kind=3\/kind=6 then bP v+2 else 2*bP v+16
def de (v:Vs):Nat:=kF (cT v.b.planes) v.blocks
def kY (l:List ay):ay:=l.flatMap λr=>[UInt8.ofNat (r.length%256),UInt8.ofNat (r.length/256%256)]++r
def cG (v:Vs):Nat:=v.half-(kY v.recs).length
def oK (v:Vs)(T:Tr)(kind:Int):Except Int (Bool×Vs):=
 if bI v (aw T)+cQ v kind<=de v then .ok (true,v)else
  (if aw v.T=v.b.nodes then .ok v else bF v v.b.list []).map λu=>(decide (bI u (aw T)+cQ u kind<=de u),u)
def dt (v:Vs)(name:ay):Option Nat:=v.b.list.findIdx? λx=>x.name==name
def nY (v:Vs)(c:cm):Except Int Tr:=
 if c.kind=7/\(dt v c.path).isSome=true then .error 161 else
 if c.kind=7/\(7<=v.b.list.length\/1099511627777<=v.b.id)then .error 163 else
 if c.kind=8/\(dt v c.path).isSome=false then .error 162 else
 if c.kind=7\/c.kind=8 then .ok v.T else
  if(qG v.T c).2=0 then .ok (qG v.T c).1 else .error (qG v.T c).2
end Go.Proofs.YtkghpdcloaiflaaGreatDoor
