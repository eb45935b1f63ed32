import Derived.Test.YtkghpdcloaiflaaGreatDoorD10
import Derived.Test.YtkghpdcloaiflaaGreatDoorD11
namespace Go.Proofs.YtkghpdcloaiflaaGreatDoor
open _root_.Go.Proofs.Tryz
theorem getD_some {l:List Int}{i:Nat}(h:i<l.length):l[i]?=some (l.getD i 0):=by simp[h]
def kV (used:ay)(blocks:Nat):Nat:=((List.range' 1 (blocks-1)).filter fun n=>!ai used n).length
structure cG (p:Pl):Prop where
 lo:1<=p.next
 hi:p.next<=p.blocks
 most:p.blocks<=4096
 left:p.left=kV p.used p.blocks
theorem A7 (used:ay)(n k:Nat):ai (eG used (iN [n])) k=(ai used k||k==n):=by
 rw[jN,vH];congr 1;by_cases h:k=n<;>simp[h]
theorem PW {used:ay}{blocks n:Nat}(h1:1<=n)(h2:n<blocks)(h3:ai used n=false):kV (eG used (iN [n])) blocks+1=kV used blocks:=by
 unfold kV;have Oc:((List.range' 1 (blocks-1)).filter fun n=>!ai used n).Nodup:=(List.nodup_range' (step:=1) (by decide)).filter _;have hm:n∈(List.range' 1 (blocks-1)).filter fun n=>!ai used n:=by
  rw[auH,avK];exact⟨by omega,by simp[h3]⟩
 have e:((List.range' 1 (blocks-1)).filter fun k=>!ai (eG used (iN [n])) k)=((List.range' 1 (blocks-1)).filter fun n=>!ai used n).erase n:=by
  rw[Oc.erase_eq_filter,List.filter_filter];apply List.filter_congr;intro k _;rw[A7]
  cases ai used k<;>simp[bne]
 rw[e,List.length_erase_of_mem hm];have:=List.length_pos_of_mem hm;omega
theorem Dt {used:ay}{blocks:Nat}(h:0<kV used blocks):∃ n,1<=n/\n<blocks/\ai used n=false:=by
 obtain⟨n,hn⟩:=List.exists_mem_of_length_pos h;rw[auH,avK]at hn;exact⟨n,by omega,by omega,by simpa using hn.2⟩
theorem pS {p:Pl}(h:cG p)(hl:0<p.left):1<=p.seek/\p.seek<p.blocks/\ai p.used p.seek=false:=by
 obtain⟨n,h1,h2,h3⟩:=Dt (by rw[<-h.left];exact hl);have hlo:=h.lo;unfold Pl.seek
 cases hg:gl p.used p.next p.blocks with
 |some m=>
  have:=oJ hg;simp;exact⟨by omega,this.2.1,this.2.2.1⟩
 |none=>
  cases Cv:gl p.used 1 p.blocks with
  |some m=>
   have:=oJ Cv;simp;exact⟨by omega,this.2.1,this.2.2.1⟩
  |none=>
   have:=vG Cv n h1 h2;rw[h3]at this;cases this
theorem vf {p:Pl}(h:cG p)(hl:0<p.left):∃ n p',p.take=.ok (n,p')/\1<=n/\n<p.blocks/\ai p.used n=false/\cG p'/\p'.left+1=p.left/\p'.blocks=p.blocks/\(∀ k,ai p'.used k=(ai p.used k||k==n))/\(∀ k,ai p'.taken k=(ai p.taken k||k==n)):=by
 obtain⟨h1,h2,h3⟩:=pS h hl;refine⟨p.seek,{ p with used:=eG p.used (iN [p.seek]),taken:=eG p.taken (iN [p.seek]),next:=p.seek+1,left:=p.left-1 },?_,h1,h2,h3,⟨?_,?_,h.most,?_⟩,?_,rfl,fun k=>A7 _ _ _,fun k=>A7 _ _ _⟩
 ·unfold Pl.take;rw[auV (by omega)]
 ·show 1<=p.seek+1;omega
 ·show p.seek+1<=p.blocks;omega
 ·show p.left-1=kV (eG p.used (iN [p.seek])) p.blocks;have:=PW h1 h2 h3;rw[<-h.left]at this;omega
 ·show p.left-1+1=p.left;omega
structure dr (t t':gJ)(k:Nat):Prop where
 ok:cG t'.pool
 used:∀ n,ai t.pool.used n=true->ai t'.pool.used n=true
 taken:∀ n,ai t'.pool.taken n=(ai t.pool.taken n||(ai t'.pool.used n&&!ai t.pool.used n))
 blocks:t'.pool.blocks=t.pool.blocks
 left:t'.pool.left+k=t.pool.left
 rd:∀ z:Int,(∀ n:Nat,z=n->ai t.pool.used n=true\/ai t'.pool.used n=false)->t'.rd z=t.rd z
 news:∀ n,ai t'.pool.used n=true->ai t.pool.used n=false->1<=n/\n<t.pool.blocks
theorem dr.refl {t:gJ}(h:cG t.pool):dr t t 0:=⟨h,fun _ h=>h,fun n=>by cases ai t.pool.used n<;>simp,rfl,rfl,fun _ _=>rfl,fun n h1 h2=>by rw[h1]at h2;cases h2⟩
theorem dr.trans {a b c:gJ}{k m:Nat}(h1:dr a b k)(h2:dr b c m):dr a c (k+m):=by
 refine⟨h2.ok,fun n h=>h2.used n (h1.used n h),fun n=>?_,h2.blocks.trans h1.blocks,by have:=h1.left;have:=h2.left;omega,fun z hz=>?_,fun n hc ha=>?_⟩
 ·rw[h2.taken,h1.taken];have e1:=h1.used n;have e2:=h2.used n
  cases ha:ai a.pool.used n<;>cases hb:ai b.pool.used n<;>cases hc:ai c.pool.used n<;>simp_all
 ·rw[h2.rd z,h1.rd z]
  ·intro n hn;rcases hz n hn with h|h
   ·exact .inl h
   ·right
    cases hb:ai b.pool.used n with
    |false=>rfl
    |true=>rw[h2.used n hb]at h;cases h
  ·intro n hn;rcases hz n hn with h|h
   ·exact .inl (h1.used n h)
   ·exact .inr h
 ·cases hb:ai b.pool.used n with
  |true=>exact h1.news n hb ha
  |false=>have:=h2.news n hc hb;rw[h1.blocks]at this;exact this
theorem dr.keepRd {t t':gJ}{k:Nat}(h:dr t t' k){n:Nat}(hn:ai t.pool.used n=true):t'.rd n=t.rd n:=
 h.rd n fun m hm=>.inl (by rw[<-Int.ofNat_inj.1 hm];exact hn)
def fK (p:Pl)(n:Int):Prop:=∃ k:Nat,n=k/\ai p.used k=true/\1<=k/\k<p.blocks
theorem PX {t:gJ}(h:cG t.pool)(hl:0<t.pool.left)(s:ay):∃(n:Nat) (p':Pl),t.pool.take=.ok (n,p')/\dr t ⟨l8 t.rd n s,p'⟩ 1/\ai t.pool.used n=false/\1<=n/\n<t.pool.blocks/\ai p'.used n=true/\l8 t.rd n s n=.ok s:=by
 obtain⟨n,p',e,h1,h2,h3,h4,h5,h6,h7,h8⟩:=vf h hl;refine⟨n,p',e,⟨h4,fun k hk=>by rw[h7,hk];rfl,fun k=>?_,h6,h5,fun z hz=>?_,fun k hk df=>?_⟩,h3,h1,h2,by rw[h7];simp,by simp[l8]⟩
 ·show ai p'.taken k=(ai t.pool.taken k||(ai p'.used k&&!ai t.pool.used k));rw[h8,h7];by_cases hk:k=n
  ·subst hk;simp[h3]
  ·have:(k==n)=false:=by simp[hk]
   rw[this];cases ai t.pool.used k<;>simp
 ·show l8 t.rd n s z=t.rd z;unfold l8;rw[auV];intro hzn;rcases hz n hzn with h|h
  ·rw[h3]at h;cases h
  ·have h':ai p'.used n=false:=h;rw[h7]at h';simp at h'
 ·have FM:ai p'.used k=true:=hk;rw[h7]at FM;have:k=n:=by
   have dm:ai t.pool.used k=false:=df;rw[dm]at FM;simpa using FM
  subst this;exact⟨h1,h2⟩
def GM (stay:Nat->Option Int)(f i:Nat):Nat:=((List.range' i f).filter fun j=>(stay j).isNone).length
theorem Lu (stay:Nat->Option Int)(f i:Nat):GM stay (f+1) i=(if(stay i).isNone=true then 1 else 0)+GM stay f (i+1):=by
 unfold GM;rw[List.range'_succ,avY];split<;>simp<;>omega
def oh (t t':gJ)(stay:Nat->Option Int)(s:Nat->ay)(j:Nat)(n:Int):Prop:=match stay j with
 |some m=>n=m
 |none=>∃ k:Nat,n=k/\ai t.pool.used k=false/\ai t'.pool.used k=true/\1<=k/\k<t.pool.blocks/\t'.rd n=.ok (s j)
theorem PY (stay:Nat->Option Int)(s:Nat->ay)(f i:Nat)(t:gJ)(h:cG t.pool)(hl:GM stay f i<=t.pool.left):
  ∃ L t',iw stay s f i t=.ok (L,t')/\L.length=f/\dr t t' (GM stay f i)/\∀ j n,L[j]?=some n->oh t t' stay s (i+j) n:=by
 induction f generalizing i t with
 |zero=>exact⟨[],t,rfl,rfl,dr.refl h,fun j n hn=>by simp at hn⟩
 |succ f ih=>
  rw[Lu]at hl ⊢
  cases hs:stay i with
  |some n=>
   rw[hs]at hl;obtain⟨L,t',e,h1,h2,h3⟩:=ih (i+1) t h (by simpa using hl);refine⟨n::L,t',by rw[iw,hs];simp only;rw[e];rfl,by simp[h1],by simpa using h2,fun j m hm=>?_⟩
   cases j with
   |zero=>simp at hm;subst hm;unfold oh;rw[Nat.add_zero,hs]
   |succ j=>have:=h3 j m (by simpa using hm);rwa [show i+1+j=i+(j+1) by omega]at this
  |none=>
   rw[hs]at hl;simp only[Option.isNone_none,auT]at hl;obtain⟨n,p',e,hg,hn,Cg,AB,TD,VX⟩:=PX h (by omega) (s i);obtain⟨L,t',e',h1,h2,h3⟩:=ih (i+1) ⟨l8 t.rd n (s i),p'⟩ hg.ok (by have:=hg.left;simp at this ⊢;omega);refine⟨n::L,t',by rw[iw,hs];simp only;rw[e];simp only;rw[e'];rfl,by simp[h1],by simpa using hg.trans h2,fun j m hm=>?_⟩
   cases j with
   |zero=>
    simp at hm;subst hm;unfold oh;rw[Nat.add_zero,hs];exact⟨n,rfl,hn,h2.used n TD,Cg,AB,by rw[h2.keepRd TD];exact VX⟩
   |succ j=>
    have:=h3 j m (by simpa using hm);rw[show i+1+j=i+(j+1) by omega]at this;unfold oh at this ⊢
    cases jv:stay (i+(j+1))with
    |some q=>rw[jv]at this;exact this
    |none=>
     rw[jv]at this;obtain⟨k,a1,a2,a3,a4,a5,a6⟩:=this;refine⟨k,a1,?_,a3,a4,by have:=hg.blocks;simp at this a5;omega,a6⟩
     cases hu:ai t.pool.used k with
     |false=>rfl
     |true=>have:=hg.used k hu;rw[this]at a2;cases a2
def je (br data:ay):List Bool:=(List.range (bN data.length 240)).map fun i=>decide (aO br i≠aO data i)
def iD (alike:Bool)(m n was:Nat)(other:List Bool):List Bool:=(List.range m).map fun i=>!alike||decide (bN was 60<=i)||decide (min (n-60*i) 60≠min (was-60*i) 60)||(dN other (60*i) 60).any id
def mh (l:List Bool):Nat:=(l.filter id).length
def cY (alike:Bool):List Nat->Nat->Nat->List Bool->Nat
 |[],_,_,_=>0
 |m::r,n,was,other=>let o:=iD alike m n was other;mh o+cY alike r m (bN was 60) o
def dd (br data:ay):Nat:=match au data.length with
 |[]=>0
 |m::r=>mh (je br data)+cY ((au br.length).length==(au data.length).length) r m (bN br.length 240) (je br data)
theorem Du (stay:Nat->Option Int)(o:List Bool)(h:∀ i,i<o.length->o[i]?=some (stay i).isNone):GM stay o.length 0=mh o:=by
 unfold GM mh;have e:o=(List.range' 0 o.length).map fun i=>(stay i).isNone:=by
  apply List.ext_getElem?;intro i;by_cases hi:i<o.length
  ·rw[h i hi];simp[hi]
  ·rw[avF (by omega),avF (by simp;omega)]
 conv=>rhs;rw[e,List.filter_map,avf]
 congr 1
theorem A8 {l:List Bool}{a n:Nat}:(dN l a n).any id=true↔∃ k,k<n/\l[a+k]?=some true:=by
 unfold dN;rw[List.any_eq_true]
 constructor
 ·rintro⟨x,hx,h⟩;obtain⟨k,hk⟩:=av1 hx;have aK:=(au0.1 hk).1;simp only[auS]at aK;rw[List.getElem?_take_of_lt (by omega),avU]at hk;simp at h;subst h;exact⟨k,by omega,hk⟩
 ·rintro⟨k,hk,h⟩;refine⟨true,?_,rfl⟩;apply auN (i:=k);rw[List.getElem?_take_of_lt hk,avU,h]
structure PZ (u:Pl)(was now:List Int)(other:List Bool):Prop where
 len:other.length=now.length
 stays:∀ i,other[i]?=some false->now[i]?=was[i]?/\i<was.length
 news:∀(i:Nat) (n:Int),other[i]?=some true->now[i]?=some n->∃ k:Nat,n=k/\ai u.used k=false
theorem A9 {α:Type}(l:List α)(a n k:Nat)(hk:k<n):(dN l a n)[k]?=l[a+k]?:=by
 unfold dN;rw[List.getElem?_take_of_lt hk,avU]
theorem JR {α:Type}(l:List α)(a n:Nat):(dN l a n).length=min (l.length-a) n:=by unfold dN;simp;omega
theorem UF {u:Pl}{wl nl:List Int}{other:List Bool}{up:List Int}(ho:PZ u wl nl other)(hw:∀ n∈wl,fK u n)(hr:∀ n∈nl,1<=n/\n<4096)(hb:u.blocks<=4096)(alike:Bool)(m i:Nat)(hi:i<m)(was:List (List Int))(bt:Nat)
  (e1:was.getD (bt-1) []=wl) (e2:was.getD bt []=up) (yy:alike=true->up.length=bN wl.length 60):
  (iD alike m nl.length wl.length other)[i]?=some (eH alike was nl bt i).isNone:=by
 unfold iD eH;rw[avM,avN hi,avO,e1,e2]
 congr 1
 have hwr:∀ n∈aV wl i,0<=n/\n<4294967296:=fun n hn=>by
  obtain⟨k,rfl,_,h1,h2⟩:=hw n (List.mem_of_mem_drop (auR hn));omega
 have hnr:∀ n∈aV nl i,0<=n/\n<4294967296:=fun n hn=>by have:=hr n (List.mem_of_mem_drop (auR hn));omega
 by_cases ha:alike=true
 ·rw[ha,yy ha];by_cases aK:i<bN wl.length 60
  ·by_cases hg:aV nl i=aV wl i
   ·rw[auT ⟨rfl,aK,by rw[hg]⟩];have aW:min (nl.length-60*i) 60=min (wl.length-60*i) 60:=by
     have:=avZ List.length hg;rw[jd,jd]at this;omega
    have aiF:(dN other (60*i) 60).any id=false:=by
     rw[Bool.eq_false_iff];intro h;obtain⟨k,hk,cg⟩:=A8.1 h;have Cn:=(au0.1 cg).1;rw[ho.len]at Cn;have h3:=ho.news (60*i+k) nl[60*i+k] cg (auM Cn);obtain⟨q,e,hq⟩:=h3;have h4:(aV nl i)[k]?=some nl[60*i+k]:=by rw[pQ,A9 _ _ _ _ hk,auM Cn]
     rw[hg]at h4;have h5:=auN h4;obtain⟨q',e',hq',_⟩:=hw _ (List.mem_of_mem_drop (auR h5));rw[e]at e';have:q=q':=by omega
     subst this;rw[hq]at hq';cases hq'
    simp[aK,aW,aiF]
   ·rw[auV (fun h=>hg (PQ hnr hwr h.2.2))];simp only[Option.isNone_none,Bool.not_true,Bool.false_or,au6,au9];apply avG;intro lJ;simp only[not_or]at lJ;obtain⟨⟨_,h2⟩,h3⟩:=lJ;apply hg;have aW:min (nl.length-60*i) 60=min (wl.length-60*i) 60:=avG h2;rw[pQ,pQ];apply List.ext_getElem?;intro k;by_cases hk:k<min (nl.length-60*i) 60
    ·rw[A9 _ _ _ _ (by omega),A9 _ _ _ _ (by omega)];have YE:60*i+k<other.length:=by rw[ho.len];omega
     cases hb:other[60*i+k]with
     |true=>exact absurd (A8.2 ⟨k,by omega,by rw[auM YE,hb]⟩) h3
     |false=>exact(ho.stays _ (by rw[auM YE,hb])).1
    ·rw[avF (by rw[JR];omega),avF (by rw[JR];omega)]
  ·rw[auV (fun h=>aK h.2.1)];simp;omega
 ·have:alike=false:=by simpa using ha
  subst this;simp
theorem Dv {t t':gJ}{stay:Nat->Option Int}{s:Nat->ay}{L wl:List Int}{o:List Bool}(hm:∀ i,i<o.length->o[i]?=some (stay i).isNone)(hl:L.length=o.length)(h:∀ j n,L[j]?=some n->oh t t' stay s (0+j) n)
  (hs:∀ i n,stay i=some n->wl[i]?=some n) (u:Pl) (hu:∀ n,ai u.used n=true->ai t.pool.used n=true):PZ u wl L o:=by
 refine⟨hl.symm,fun i hi=>?_,fun i n hi hn=>?_⟩
 ·have aK:=(au0.1 hi).1;rw[hm i aK]at hi;have hL:L[i]?=some L[i]:=auM (by omega);have:=h i _ hL;rw[avy]at this;unfold oh at this
  cases dj:stay i with
  |none=>rw[dj]at hi;simp at hi
  |some m=>
   rw[dj]at this;simp only at this;have h1:=hs i m dj;exact⟨by rw[hL,h1,this],(au0.1 h1).1⟩
 ·have aK:=(au0.1 hi).1;rw[hm i aK]at hi;have:=h i n hn;rw[avy]at this;unfold oh at this
  cases dj:stay i with
  |some m=>rw[dj]at hi;simp at hi
  |none=>
   rw[dj]at this;obtain⟨k,e,h1,_⟩:=this;refine⟨k,e,?_⟩
   cases hk:ai u.used k with
   |false=>rfl
   |true=>rw[hu k hk]at h1;cases h1
theorem o4 {t t':gJ}{k:Nat}(h:dr t t' k){n:Int}(hn:fK t.pool n):fK t'.pool n:=by
 obtain⟨m,e,h1,h2,h3⟩:=hn;exact⟨m,e,h.used m h1,h2,by rw[h.blocks];exact h3⟩
theorem qo (r:List Nat)(n w w':Nat)(o:List Bool):cY false r n w o=cY false r n w' o:=by
 induction r generalizing n w w' o with
 |nil=>rfl
 |cons m r ih=>
  have e:iD false m n w o=iD false m n w' o:=by simp[iD]
  simp only[cY,e];rw[ih]
theorem YX (alike:Bool)(was:List (List Int))(u:Pl)(hub:u.blocks<=4096)(zh:∀ l,∀ n∈was.getD l [],fK u n)(yy:alike=true->∀ l,l+1<was.length->(was.getD (l+1) []).length=bN (was.getD l []).length 60)(r:List Nat)(bt:Nat)(now:List Int)(t:gJ)(ht:cG t.pool)(I4:t.pool.blocks=u.blocks)(hu:∀ n,ai u.used n=true->ai t.pool.used n=true)
  (ajY:∀ n∈now,fK t.pool n) (other:List Bool) (ho:PZ u (was.getD bt []) now other)
  (ha:alike=true->was.length=bt+1+r.length)
  (hwp:∀ l i (n:Int),(was.getD (l+1) [])[i]?=some n->t.rd n=.ok (cM (aV (was.getD l []) i)))
  (wl:Nat) (Xo:alike=true->wl=(was.getD bt []).length) (hc:cY alike r now.length wl other<=t.pool.left):
  ∃ L t',qE alike was r (bt+1) now t=.ok (L,t')/\L.map List.length=r/\dr t t' (cY alike r now.length wl other)/\(∀ l∈L,∀ n∈l,fK t'.pool n/\((∃ j,n∈was.getD j [])\/∃ k:Nat,n=k/\ai u.used k=false))/\
   ∀ l i (n:Int),((now::L).getD (l+1) [])[i]?=some n->t'.rd n=.ok (cM (aV ((now::L).getD l []) i)):=by
 have ae1:cY alike r now.length wl other=cY alike r now.length (was.getD bt []).length other:=by
  cases alike with
  |false=>exact qo _ _ _ _ _
  |true=>rw[Xo rfl]
 rw[ae1]at hc ⊢;clear ae1 Xo
 induction r generalizing bt now t other wl with
 |nil=>
  refine⟨[],t,rfl,rfl,dr.refl ht,fun l hl=>by simp at hl,fun l i n hn=>by simp at hn⟩
 |cons m r ih=>
  have hr:∀ n∈now,1<=n/\n<4096:=fun n hn=>by
   obtain⟨k,rfl,_,h1,h2⟩:=ajY n hn;omega
  have aet:alike=true->(was.getD (bt+1) []).length=bN (was.getD bt []).length 60:=fun h=>yy h bt (by have:=ha h;simp at this;omega);have hov:∀ i,i<m->(iD alike m now.length (was.getD bt []).length other)[i]?=some (eH alike was now (bt+1) i).isNone:=fun i hi=>
   UF ho (zh bt) hr hub alike m i hi was (bt+1) rfl rfl aet
  have YE:(iD alike m now.length (was.getD bt []).length other).length=m:=by simp[iD]
  have kw:=Du (eH alike was now (bt+1)) (iD alike m now.length (was.getD bt []).length other) (fun i hi=>hov i (by omega));rw[YE]at kw;have hcu:cY alike (m::r) now.length (was.getD bt []).length other=mh (iD alike m now.length (was.getD bt []).length other)+cY alike r m (bN (was.getD bt []).length 60) (iD alike m now.length (was.getD bt []).length other):=rfl;rw[hcu]at hc ⊢;obtain⟨L,t1,e1,h1,h2,h3⟩:=PY (eH alike was now (bt+1)) (fun i=>cM (aV now i)) m 0 t ht (by omega);rw[kw]at h2;have dj:∀ i n,eH alike was now (bt+1) i=some n->(was.getD (bt+1) [])[i]?=some n/\cM (aV now i)=cM (aV (was.getD bt []) i):=by
   intro i n h;unfold eH at h;split at h
   ·rename_i hh
    injection h with h;exact⟨by rw[<-h];exact getD_some hh.2.1,by simpa using hh.2.2⟩
   ·cases h
  have aip:PZ u (was.getD (bt+1) []) L (iD alike m now.length (was.getD bt []).length other):=
   Dv (fun i hi=>hov i (by omega)) (by omega) h3 (fun i n h=>(dj i n h).1) u hu
  have T7:∀ n∈L,fK t1.pool n/\((∃ j,n∈was.getD j [])\/∃ k:Nat,n=k/\ai u.used k=false):=by
   intro n hn;obtain⟨j,hj⟩:=av1 hn;have:=h3 j n hj;unfold oh at this
   cases hs:eH alike was now (bt+1) (0+j)with
   |some q=>
    rw[hs]at this;simp only at this;subst this;obtain⟨k,e,a1,a2,a3⟩:=zh (bt+1) n (auN (dj _ _ hs).1);exact⟨⟨k,e,h2.used k (hu k a1),a2,by rw[h2.blocks,I4];exact a3⟩,.inl ⟨bt+1,auN (dj _ _ hs).1⟩⟩
   |none=>
    rw[hs]at this;obtain⟨k,e,a0,a2,a3,a4,_⟩:=this;refine⟨⟨k,e,a2,a3,by rw[h2.blocks];exact a4⟩,.inr ⟨k,e,?_⟩⟩
    cases hk:ai u.used k with
    |false=>rfl
    |true=>rw[hu k hk]at a0;cases a0
  have hL:∀ n∈L,fK t1.pool n:=fun n hn=>(T7 n hn).1;have ai7:cY alike r m (bN (was.getD bt []).length 60) (iD alike m now.length (was.getD bt []).length other)=cY alike r m (was.getD (bt+1) []).length (iD alike m now.length (was.getD bt []).length other):=by
   cases OS:alike with
   |false=>exact qo _ _ _ _ _
   |true=>rw[aet OS]
  rw[ai7]at hc ⊢;obtain⟨L2,t2,e2,g1,g2,g3,g4⟩:=ih (bt+1) L t1 h2.ok (h2.blocks.trans I4) (fun n hn=>h2.used n (hu n hn)) hL _ aip (fun h=>by have:=ha h;simp at this;omega)
   (fun l i n hn=>by
    obtain⟨k,e,a1,_⟩:=zh (l+1) n (auN hn);rw[e,h2.keepRd (hu k a1),<-e];exact hwp l i n hn) 0 (by rw[h1];have:=h2.left;omega)
  rw[h1]at g2;have g0:∀ i (n:Int),L[i]?=some n->t2.rd n=.ok (cM (aV now i)):=by
   intro i n hn;obtain⟨k,e,a1,_⟩:=hL n (auN hn);rw[e,g2.keepRd a1,<-e];have:=h3 i n hn;unfold oh at this;rw[avy]at this
   cases hs:eH alike was now (bt+1) i with
   |some q=>
    rw[hs]at this;simp only at this;subst this;obtain⟨b1,b2⟩:=dj _ _ hs;obtain⟨k,e,a1,_⟩:=zh (bt+1) n (auN b1);rw[e,h2.keepRd (hu k a1),<-e,hwp bt i n b1,b2]
   |none=>
    rw[hs]at this;obtain⟨k,_,_,_,_,_,a⟩:=this;exact a
  refine⟨L::L2,t2,?_,by simp[h1,g1],h2.trans g2,?_,?_⟩
  ·rw[qE,e1];simp only;rw[e2];rfl
  ·intro l hl n hn;rcases au8.1 hl with rfl|hl
   ·exact⟨o4 g2 (hL n hn),(T7 n hn).2⟩
   ·exact g3 l hl n hn
  ·intro l i n hn
   cases l with
   |zero=>exact g0 i n (by simpa using hn)
   |succ l=>
    have:=g4 l i n (by simpa using hn);simpa using this
theorem P0 {t:gJ}{br data:ay}{was:List (List Int)}(ht:cG t.pool)(hw:eC t.rd br was)(hu:∀ l∈was,∀ n∈l,fK t.pool n)(hs:data.length<=16384)(hh:br.length<=16384)(hc:dd br data<=t.pool.left):
  ∃ nums t',kI br data was t=.ok (nums,t')/\eC t'.rd data nums/\dr t t' (dd br data)/\(∀ l∈nums,∀ n∈l,fK t'.pool n)/\∀ n:Nat,(n:Int)∈nums.flatten->(n:Int)∈was.flatten\/ai t.pool.used n=false:=by
 have Xo:was.length=(au br.length).length:=by rw[<-hw.shape];simp
 have hu':∀ l,∀ n∈was.getD l [],fK t.pool n:=by
  intro l n hn;by_cases hl:l<was.length
  ·rw[List.getD,auM hl]at hn;exact hu _ (avl hl) n hn
  ·rw[List.getD,avF (by omega)]at hn;cases hn
 have Jd:(was.getD 0 []).length=bN br.length 240:=by
  rw[fV hw];rcases aN br.length with⟨h0,e⟩|⟨h0,h2,e⟩|⟨_,_,e⟩|⟨_,e⟩<;>rw[e]
  ·rw[h0];rfl
  ·have h1:=(aL (n:=br.length) (each:=240) (k:=1) (by decide)).2 (by omega);have h3:=dM (n:=br.length) (each:=240) (by decide);simp;omega
  all_goals rfl
 unfold kI dd at*
 cases gy:au data.length with
 |nil=>
  rw[gy]at hc;have hd:data=[]:=by
   rcases aN data.length with⟨h0,_⟩|⟨_,_,e⟩|⟨_,_,e⟩|⟨_,e⟩
   ·exact avj.1 h0
   all_goals rw[e]at gy;cases gy
  subst hd;exact⟨[],t,rfl,⟨by rw[gy];rfl,fun i n h=>by simp at h,fun l i n h=>by simp at h,fun l h=>by simp at h⟩,dr.refl ht,fun l h=>by simp at h,fun n h=>by simp at h⟩
 |cons m r=>
  rw[gy]at hc;simp only at hc ⊢;have hm:m=bN data.length 240:=by
   rcases aN data.length with⟨h0,e⟩|⟨h0,h2,e⟩|⟨_,_,e⟩|⟨_,e⟩<;>rw[e]at gy
   ·cases gy
   ·have h1:=(aL (n:=data.length) (each:=240) (k:=1) (by decide)).2 (by omega);have h3:=dM (n:=data.length) (each:=240) (by decide);injection gy;omega
   all_goals (injection gy;omega)
  have YE:(je br data).length=m:=by simp[je,hm]
  have dj:∀ i,i<m->(je br data)[i]?=some (gc br data was i).isNone:=by
   intro i hi;unfold je gc;rw[avM,avN (by omega),avO];by_cases e:aO data i=aO br i
   ·simp[e]
   ·simp[e,Ne.symm e]
  have kw:=Du (gc br data was) (je br data) (fun i hi=>dj i (by omega));rw[YE]at kw;obtain⟨L,t1,e1,h1,h2,h3⟩:=PY (gc br data was) (aO data) m 0 t ht (by omega);rw[kw]at h2;have ym:∀ i,i<m->240*i<data.length:=by
   intro i hi;have:=(aL (n:=data.length) (each:=240) (k:=i) (by decide))
   omega
  have hsy:∀ i n,i<m->gc br data was i=some n->(was.getD 0 [])[i]?=some n/\aO data i=aO br i:=by
   intro i n hi h;unfold gc at h;split at h
   ·rename_i e
    injection h with h;have aK:i<(was.getD 0 []).length:=by
     rw[Jd];have:=avZ List.length e;rw[jc,jc]at this;have:=ym i hi;have:=(aL (n:=br.length) (each:=240) (k:=i) (by decide))
     omega
    exact⟨by rw[<-h];exact getD_some aK,e⟩
   ·cases h
  have hov:PZ t.pool (was.getD 0 []) L (je br data):=by
   refine Dv (stay:=fun i=>if i<m then gc br data was i else none) (s:=aO data) (t:=t) (t':=t1) (fun i hi=>by rw[YE]at hi;simp only[hi,auT];exact dj i hi) (by omega) (fun j n hn=>?_) (fun i n h=>?_) t.pool (fun _ h=>h)
   ·have hj:=(au0.1 hn).1;have:=h3 j n hn;unfold oh at this ⊢;rw[avy]at this ⊢;simp only[show j<m by omega,auT];exact this
   ·by_cases hi:i<m
    ·rw[auT hi]at h;exact(hsy i n hi h).1
    ·rw[auV hi]at h;cases h
  have T7:∀ n∈L,fK t1.pool n/\((∃ j,n∈was.getD j [])\/∃ k:Nat,n=k/\ai t.pool.used k=false):=by
   intro n hn;obtain⟨j,hj⟩:=av1 hn;have hjm:=(au0.1 hj).1;have:=h3 j n hj;unfold oh at this;rw[avy]at this
   cases hs:gc br data was j with
   |some q=>
    rw[hs]at this;simp only at this;subst this;have hm:=auN (hsy j n (by omega) hs).1;exact⟨o4 h2 (hu' 0 n hm),.inl ⟨0,hm⟩⟩
   |none=>
    rw[hs]at this;obtain⟨k,e,a0,a2,a3,a4,_⟩:=this;exact⟨⟨k,e,a2,a3,by rw[h2.blocks];exact a4⟩,.inr ⟨k,e,a0⟩⟩
  have hL:∀ n∈L,fK t1.pool n:=fun n hn=>(T7 n hn).1;have abe:(was.length==r.length+1)=((au br.length).length==(m::r).length):=by rw[Xo];simp
  rw[abe];have afM:∀ l,l+1<was.length->(was.getD (l+1) []).length=bN (was.getD l []).length 60:=by
   intro l hl;rw[fV hw,fV hw];rw[Xo]at hl;rcases aN br.length with⟨h0,e⟩|⟨h0,h2,e⟩|⟨h0,h2,e⟩|⟨h0,e⟩<;>rw[e]at hl ⊢
   ·simp at hl
   ·simp at hl
   ·obtain rfl:l=0:=by simp at hl;omega
    have h1:=(aL (n:=br.length) (each:=240) (k:=60) (by decide)).2 (by omega);have h3:=dM (n:=br.length) (each:=240) (by decide);have h4:=dM (n:=bN br.length 240) (each:=60) (by decide);have h5:=(aL (n:=bN br.length 240) (each:=60) (k:=1) (by decide)).2 (by omega);simp;omega
   ·rcases l with _|_|l
    ·rfl
    ·have h1:=(aL (n:=br.length) (each:=240) (k:=69) (by decide)).2 (by omega);have h6:=(aL (n:=br.length) (each:=240) (k:=60) (by decide))
     have h3:=(aL (n:=bN br.length 240) (each:=60) (k:=2) (by decide)).2 (by omega);have h7:=(dM (n:=bN br.length 240) (each:=60) (by decide))
     have h4:=dM (n:=bN (bN br.length 240) 60) (each:=60) (by decide);have h5:=(aL (n:=bN (bN br.length 240) 60) (each:=60) (k:=1) (by decide)).2 (by omega);simp;omega
    ·simp at hl;omega
  obtain⟨L2,t2,e2,g1,g2,g3,g4⟩:=YX ((au br.length).length==(m::r).length) was t.pool ht.most hu' (fun _=>afM) r 0 L t1 h2.ok h2.blocks (fun n hn=>h2.used n hn) hL (je br data) hov (fun h=>by simp at h;omega)
   (fun l i n hn=>by
    obtain⟨k,e,a1,_⟩:=hu' (l+1) n (auN hn);rw[e,h2.keepRd a1,<-e];exact hw.ptr l i n hn) (bN br.length 240) (fun _=>Jd.symm) (by rw[h1];have:=h2.left;omega)
  rw[h1]at g2;have nV:∀ l∈L::L2,∀ n∈l,fK t2.pool n:=by
   intro l hl n hn;rcases au8.1 hl with rfl|hl
   ·exact o4 g2 (hL n hn)
   ·exact(g3 l hl n hn).1
  have adW:∀ n:Nat,(n:Int)∈(L::L2).flatten->(n:Int)∈was.flatten\/ai t.pool.used n=false:=by
   intro n hn;obtain⟨l,hl,hm⟩:=List.mem_flatten.1 hn;have:(∃ j,(n:Int)∈was.getD j [])\/∃ k:Nat,(n:Int)=k/\ai t.pool.used k=false:=by
    rcases au8.1 hl with rfl|hl
    ·exact(T7 _ hm).2
    ·exact(g3 l hl _ hm).2
   rcases this with⟨j,hj⟩|⟨k,e,hk⟩
   ·left
    by_cases hl:j<was.length
    ·rw[List.getD,auM hl]at hj;exact List.mem_flatten.2 ⟨_,avl hl,hj⟩
    ·rw[List.getD,avF (by omega)]at hj;cases hj
   ·right
    have:n=k:=by omega
    subst this;exact hk
  refine⟨L::L2,t2,?_,⟨?_,?_,g4,?_⟩,h2.trans g2,nV,adW⟩
  ·rw[e1];simp only;rw[e2];rfl
  ·rw[auJ,h1,g1,gy]
  ·intro i n hn;simp only[List.getD_cons_zero]at hn;obtain⟨k,e,a1,_⟩:=hL n (auN hn);rw[e,g2.keepRd a1,<-e];have hjm:=(au0.1 hn).1;have:=h3 i n hn;unfold oh at this;rw[avy]at this
   cases hs:gc br data was i with
   |some q=>
    rw[hs]at this;simp only at this;subst this;obtain⟨b1,b2⟩:=hsy i n (by omega) hs;obtain⟨k,e,a1,_⟩:=hu' 0 n (auN b1);rw[e,h2.keepRd a1,<-e,hw.chunk i n b1,b2]
   |none=>
    rw[hs]at this;obtain⟨k,_,_,_,_,_,a⟩:=this;exact a
  ·intro l hl n hn;obtain⟨k,e,_,a1,a2⟩:=nV l hl n hn;have:=g2.ok.most;omega
theorem Lw {t:gJ}{br data:ay}{was:List (List Int)}(ht:cG t.pool)(hw:eC t.rd br was)(hu:∀ l∈was,∀ n∈l,fK t.pool n)(hs:data.length<=16384)(hh:br.length<=16384)(hc:dd br data<=t.pool.left):
  ∃ nums t',dK t (dx br was) data=.ok (dx data nums,t')/\eC t'.rd data nums/\dr t t' (dd br data)/\(∀ l∈nums,∀ n∈l,fK t'.pool n)/\∀ n:Nat,(n:Int)∈nums.flatten->(n:Int)∈was.flatten\/ai t.pool.used n=false:=by
 obtain⟨nums,t',e,h1,h2,h3,h4⟩:=P0 ht hw hu hs hh hc;obtain⟨o,e1,e2,_⟩:=kU hw hh true;refine⟨nums,t',?_,h1,h2,h3,h4⟩;unfold dK;rw[auV (by omega),e1];simp only[↓reduceIte];rw[e2,e];rfl
structure fC where
 num:Int
 dir:Bool
 links:Int
 blob:fQ
structure Sn where
 name:ay
 id:Int
 plane:Int
 table:fQ
def yJ (b:fQ):ay:=aM b.root.toNat++aM b.size.toNat
def ol (x:fC):ay:=aM x.num.toNat++aM (if x.dir=true then 1 else 0)++aM x.links.toNat++yJ x.blob
def kh (l:List fC):ay:=aM l.length++l.flatMap ol
def o6 (x:Sn):ay:=aM x.name.length++x.name++aM x.id.toNat++aM x.plane.toNat++yJ x.table
def kj (l:List Sn):ay:=aM l.length++l.flatMap o6
def fQ.ok (b:fQ):Bool:=b.may&&decide (0<=b.root)&&decide (b.root<4096)
def yK (was:Int):List fC->Bool
 |[]=>true
 |x::r=>decide (was<x.num)&&decide (x.num<=65535)&&decide (1<=x.links)&&decide (x.links<=65535)&&x.blob.ok&&yK x.num r
def qP (l:List fC):Bool:=decide (l.length<=4096)&&yK 0 l
def TJ (was:Int):List Sn->Bool
 |[]=>true
 |x::r=>aG x.name&&decide (was<x.id)&&decide (x.id<=1099511627776)&&decide (1<=x.plane)&&decide (x.plane<=7)&&x.table.ok&&TJ x.id r
def zJ (l:List Sn):Bool:=decide (l.length<=4096)&&TJ 0 l
def ik (planes:List ay)(blocks:Nat):ay:=(List.range blocks).map fun b=>UInt8.ofNat ((List.range 8).foldl (fun a p=>if ai (planes.getD p []) b then a+2 ^ p else a) 0)
def cW (planes:List ay):ay:=planes.foldl eG []
def aT (size:Nat):Nat:=(au size).sum
structure jf where
 table:fQ
 snaps:fQ
 mapped:fQ
 next:Nat
 id:Nat
 inodes:List fC
 list:List Sn
 planes:List ay
 nodes:List Nt
structure Vs where
 rd:Rd
 blocks:Nat
 num:Nat
 b:jf
 T:Tr
 recs:List ay
 half:Nat
def dO (rd:Rd)(set:ay)(b:fQ):Except Int ay:=match oK rd b with
 | .error e=>.error e
 | .ok l=>if l.all (fun n=>decide (0<=n)&&decide (n<=65535))=true then .ok (eG set (iN (l.map Int.toNat)))else .error 150
def eg (l:List fC)(num:Int):fQ:=match (l.filter fun x=>x.num==num).getLast? with
 |some x=>x.blob
 |none=>⟨0,0⟩
def mF (was:List fC):List Nt->ay->gJ->Except Int (List fC×ay×gJ)
 |[],set,t=>.ok ([],set,t)
 |x::r,set,t=>match dK t (eg was x.num) x.data with
  | .error e=>.error e
  | .ok (b,t1)=>match dO t1.rd set b with
   | .error e=>.error e
   | .ok s=>(mF was r s t1).map fun o=>(⟨x.num,x.dir,x.links,b⟩::o.1,o.2)
def aX (l:List Sn):Nat:=((List.range' 1 8).find? fun(p:Nat)=>!l.any fun x=>x.plane==(p:Int)).getD 0
def o8:Nat->Pl->Except Int Pl
 |0,p=>.ok p
 |k+1,p=>match p.take with
  | .error e=>.error e
  | .ok (_,q)=>o8 k q
def ge (b:jf):ay:=yJ b.table++yJ b.snaps++yJ b.mapped++aM b.next++aM b.id
def kX (planes:List ay)(l:List Sn):List ay:=(List.range 8).map fun(p:Nat)=>if p=0\/l.any (fun x=>x.plane==(p:Int))=true then planes.getD p []else []
def bC (v:Vs)(list:List Sn)(more:ay):Except Int Vs:=do
 let p:=gA (cW v.b.planes) v.blocks v.b.next
 let (inos,set,t1) <-mF v.b.inodes (ar v.T) [] ⟨v.rd,p⟩
 let (table,t2) <-dK t1 v.b.table (kh inos)
 let set1 <-dO t2.rd set table
 let F0:=kX v.b.planes list
 let x:Sn:=⟨more,v.b.id,aX list,table⟩
 let l2:=if more=[]then list else list++[x]
 let pl2:=if more=[]then F0 else F0.set (aX list) (eG set1 [])
 let (snaps,t3) <-dK t2 v.b.snaps (kj l2)
 let set2 <-dO t3.rd set1 snaps
 let p4 <-o8 (aT v.blocks) t3.pool
 let own:=bZ p4.taken t3.pool.taken
 let pl3:=pl2.set 0 (eG (eG set2 own) [])
 let q:=gA (bZ (iN (List.range v.blocks)) own) v.blocks t3.pool.next
 let (mapped,t5) <-dK ⟨t3.rd,q⟩ ⟨0,0⟩ (ik pl3 v.blocks)
 .ok { v with rd:=t5.rd,num:=v.num+1,recs:=[],b:=⟨table,snaps,mapped,p4.next,if more=[]then v.b.id else v.b.id+1,inos,l2,pl3,ar v.T⟩ }
def cH (l:List Nt)(num:Int):ay:=match (l.filter fun x=>x.num==num).getLast? with
 |some x=>x.data
 |none=>[]
def bK (v:Vs):Nat:=aT v.blocks
def bG (v:Vs)(l:List Nt):Nat:=bK v+1+(l.map fun x=>dd (cH v.b.nodes x.num) x.data).sum+(if l=v.b.nodes then 0 else aT (2+12*l.length))
def cT (v:Vs)(kind:Int):Nat:=if kind=8 then 0 else if kind=3\/kind=6 then bK v+2 else 2*bK v+16
def dt (v:Vs):Nat:=kV (cW v.b.planes) v.blocks
def lB (l:List ay):ay:=l.flatMap fun r=>[UInt8.ofNat (r.length%256),UInt8.ofNat (r.length/256%256)]++r
def cI (v:Vs):Nat:=v.half-(lB v.recs).length
def pa (v:Vs)(T:Tr)(kind:Int):Except Int (Bool×Vs):=
 if bG v (ar T)+cT v kind<=dt v then .ok (true,v)else
  (if ar v.T=v.b.nodes then .ok v else bC v v.b.list []).map fun u=>(decide (bG u (ar T)+cT u kind<=dt u),u)
def dA (v:Vs)(name:ay):Option Nat:=v.b.list.findIdx? fun x=>x.name==name
def oA (v:Vs)(c:bU):Except Int Tr:=
 if c.kind=7/\(dA v c.path).isSome=true then .error 161 else
 if c.kind=7/\(7<=v.b.list.length\/1099511627777<=v.b.id)then .error 163 else
 if c.kind=8/\(dA v c.path).isSome=false then .error 162 else
 if c.kind=7\/c.kind=8 then .ok v.T else
  if(qM v.T c).2=0 then .ok (qM v.T c).1 else .error (qM v.T c).2
end Go.Proofs.YtkghpdcloaiflaaGreatDoor
