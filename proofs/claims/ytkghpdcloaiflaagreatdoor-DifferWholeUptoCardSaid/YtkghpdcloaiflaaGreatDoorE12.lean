import Derived.Test.YtkghpdcloaiflaaGreatDoorE10
import Derived.Test.YtkghpdcloaiflaaGreatDoorE11
namespace Go.Proofs.YtkghpdcloaiflaaGreatDoor
open _root_.Go.Proofs.Tryz
theorem getD_some {l:List Int}{i:Nat}(h:i<l.length):l[i]?=some (l.getD i 0):=by simp[h]
def kX (used:az)(blocks:Nat):Nat:=((List.range' 1 (blocks-1)).filter fun n=>!am used n).length
structure cH (p:Pl):Prop where
 lo:1<=p.next
 hi:p.next<=p.blocks
 most:p.blocks<=4096
 left:p.left=kX p.used p.blocks
theorem A5 (used:az)(n k:Nat):am (eH used (iO [n])) k=(am used k||k==n):=by
 rw[jL,vL];congr 1;by_cases h:k=n<;>simp[h]
theorem PI {used:az}{blocks n:Nat}(h1:1<=n)(h2:n<blocks)(h3:am used n=false):kX (eH used (iO [n])) blocks+1=kX used blocks:=by
 unfold kX;have Ny:((List.range' 1 (blocks-1)).filter fun n=>!am used n).Nodup:=(List.nodup_range' (step:=1) (by decide)).filter _;have hm:n∈(List.range' 1 (blocks-1)).filter fun n=>!am used n:=by
  rw[auw,avz];exact⟨by omega,by simp[h3]⟩
 have e:((List.range' 1 (blocks-1)).filter fun k=>!am (eH used (iO [n])) k)=((List.range' 1 (blocks-1)).filter fun n=>!am used n).erase n:=by
  rw[Ny.erase_eq_filter,List.filter_filter];apply List.filter_congr;intro k _;rw[A5]
  cases am used k<;>simp[bne]
 rw[e,List.length_erase_of_mem hm];have:=List.length_pos_of_mem hm;omega
theorem Dt {used:az}{blocks:Nat}(h:0<kX used blocks):∃ n,1<=n/\n<blocks/\am used n=false:=by
 obtain⟨n,hn⟩:=List.exists_mem_of_length_pos h;rw[auw,avz]at hn;exact⟨n,by omega,by omega,by simpa using hn.2⟩
theorem pT {p:Pl}(h:cH p)(hl:0<p.left):1<=p.seek/\p.seek<p.blocks/\am p.used p.seek=false:=by
 obtain⟨n,h1,h2,h3⟩:=Dt (by rw[<-h.left];exact hl);have hlo:=h.lo;unfold Pl.seek
 cases hg:gl p.used p.next p.blocks with
 |some m=>
  have:=oL hg;simp;exact⟨by omega,this.2.1,this.2.2.1⟩
 |none=>
  cases CE:gl p.used 1 p.blocks with
  |some m=>
   have:=oL CE;simp;exact⟨by omega,this.2.1,this.2.2.1⟩
  |none=>
   have:=vK CE n h1 h2;rw[h3]at this;cases this
theorem vk {p:Pl}(h:cH p)(hl:0<p.left):∃ n p',p.take=.ok (n,p')/\1<=n/\n<p.blocks/\am p.used n=false/\cH p'/\p'.left+1=p.left/\p'.blocks=p.blocks/\(∀ k,am p'.used k=(am p.used k||k==n))/\(∀ k,am p'.taken k=(am p.taken k||k==n)):=by
 obtain⟨h1,h2,h3⟩:=pT h hl;refine⟨p.seek,{ p with used:=eH p.used (iO [p.seek]),taken:=eH p.taken (iO [p.seek]),next:=p.seek+1,left:=p.left-1 },?_,h1,h2,h3,⟨?_,?_,h.most,?_⟩,?_,rfl,fun k=>A5 _ _ _,fun k=>A5 _ _ _⟩
 ·unfold Pl.take;rw[auK (by omega)]
 ·show 1<=p.seek+1;omega
 ·show p.seek+1<=p.blocks;omega
 ·show p.left-1=kX (eH p.used (iO [p.seek])) p.blocks;have:=PI h1 h2 h3;rw[<-h.left]at this;omega
 ·show p.left-1+1=p.left;omega
structure dm (t t':gK)(k:Nat):Prop where
 ok:cH t'.pool
 used:∀ n,am t.pool.used n=true->am t'.pool.used n=true
 taken:∀ n,am t'.pool.taken n=(am t.pool.taken n||(am t'.pool.used n&&!am t.pool.used n))
 blocks:t'.pool.blocks=t.pool.blocks
 left:t'.pool.left+k=t.pool.left
 rd:∀ z:Int,(∀ n:Nat,z=n->am t.pool.used n=true\/am t'.pool.used n=false)->t'.rd z=t.rd z
 news:∀ n,am t'.pool.used n=true->am t.pool.used n=false->1<=n/\n<t.pool.blocks
theorem dm.refl {t:gK}(h:cH t.pool):dm t t 0:=⟨h,fun _ h=>h,fun n=>by cases am t.pool.used n<;>simp,rfl,rfl,fun _ _=>rfl,fun n h1 h2=>by rw[h1]at h2;cases h2⟩
theorem dm.trans {a b c:gK}{k m:Nat}(h1:dm a b k)(h2:dm b c m):dm a c (k+m):=by
 refine⟨h2.ok,fun n h=>h2.used n (h1.used n h),fun n=>?_,h2.blocks.trans h1.blocks,by have:=h1.left;have:=h2.left;omega,fun z hz=>?_,fun n hc ha=>?_⟩
 ·rw[h2.taken,h1.taken];have e1:=h1.used n;have e2:=h2.used n
  cases ha:am a.pool.used n<;>cases hb:am b.pool.used n<;>cases hc:am c.pool.used n<;>simp_all
 ·rw[h2.rd z,h1.rd z]
  ·intro n hn;rcases hz n hn with h|h
   ·exact .inl h
   ·right
    cases hb:am b.pool.used n with
    |false=>rfl
    |true=>rw[h2.used n hb]at h;cases h
  ·intro n hn;rcases hz n hn with h|h
   ·exact .inl (h1.used n h)
   ·exact .inr h
 ·cases hb:am b.pool.used n with
  |true=>exact h1.news n hb ha
  |false=>have:=h2.news n hc hb;rw[h1.blocks]at this;exact this
theorem dm.keepRd {t t':gK}{k:Nat}(h:dm t t' k){n:Nat}(hn:am t.pool.used n=true):t'.rd n=t.rd n:=
 h.rd n fun m hm=>.inl (by rw[<-Int.ofNat_inj.1 hm];exact hn)
def fK (p:Pl)(n:Int):Prop:=∃ k:Nat,n=k/\am p.used k=true/\1<=k/\k<p.blocks
theorem PJ {t:gK}(h:cH t.pool)(hl:0<t.pool.left)(s:az):∃(n:Nat) (p':Pl),t.pool.take=.ok (n,p')/\dm t ⟨l8 t.rd n s,p'⟩ 1/\am t.pool.used n=false/\1<=n/\n<t.pool.blocks/\am p'.used n=true/\l8 t.rd n s n=.ok s:=by
 obtain⟨n,p',e,h1,h2,h3,h4,h5,h6,h7,h8⟩:=vk h hl;refine⟨n,p',e,⟨h4,fun k hk=>by rw[h7,hk];rfl,fun k=>?_,h6,h5,fun z hz=>?_,fun k hk de=>?_⟩,h3,h1,h2,by rw[h7];simp,by simp[l8]⟩
 ·show am p'.taken k=(am t.pool.taken k||(am p'.used k&&!am t.pool.used k));rw[h8,h7];by_cases hk:k=n
  ·subst hk;simp[h3]
  ·have:(k==n)=false:=by simp[hk]
   rw[this];cases am t.pool.used k<;>simp
 ·show l8 t.rd n s z=t.rd z;unfold l8;rw[auK];intro hzn;rcases hz n hzn with h|h
  ·rw[h3]at h;cases h
  ·have h':am p'.used n=false:=h;rw[h7]at h';simp at h'
 ·have FQ:am p'.used k=true:=hk;rw[h7]at FQ;have:k=n:=by
   have dw:am t.pool.used k=false:=de;rw[dw]at FQ;simpa using FQ
  subst this;exact⟨h1,h2⟩
def GJ (stay:Nat->Option Int)(f i:Nat):Nat:=((List.range' i f).filter fun j=>(stay j).isNone).length
theorem Ly (stay:Nat->Option Int)(f i:Nat):GJ stay (f+1) i=(if(stay i).isNone=true then 1 else 0)+GJ stay f (i+1):=by
 unfold GJ;rw[List.range'_succ,avN];split<;>simp<;>omega
def ol (t t':gK)(stay:Nat->Option Int)(s:Nat->az)(j:Nat)(n:Int):Prop:=match stay j with
 |some m=>n=m
 |none=>∃ k:Nat,n=k/\am t.pool.used k=false/\am t'.pool.used k=true/\1<=k/\k<t.pool.blocks/\t'.rd n=.ok (s j)
theorem PK (stay:Nat->Option Int)(s:Nat->az)(f i:Nat)(t:gK)(h:cH t.pool)(hl:GJ stay f i<=t.pool.left):
  ∃ L t',iu stay s f i t=.ok (L,t')/\L.length=f/\dm t t' (GJ stay f i)/\∀ j n,L[j]?=some n->ol t t' stay s (i+j) n:=by
 induction f generalizing i t with
 |zero=>exact⟨[],t,rfl,rfl,dm.refl h,fun j n hn=>by simp at hn⟩
 |succ f ih=>
  rw[Ly]at hl ⊢
  cases hs:stay i with
  |some n=>
   rw[hs]at hl;obtain⟨L,t',e,h1,h2,h3⟩:=ih (i+1) t h (by simpa using hl);refine⟨n::L,t',by rw[iu,hs];simp only;rw[e];rfl,by simp[h1],by simpa using h2,fun j m hm=>?_⟩
   cases j with
   |zero=>simp at hm;subst hm;unfold ol;rw[Nat.add_zero,hs]
   |succ j=>have:=h3 j m (by simpa using hm);rwa [show i+1+j=i+(j+1) by omega]at this
  |none=>
   rw[hs]at hl;simp only[Option.isNone_none,auI]at hl;obtain⟨n,p',e,hg,hn,Cl,AK,Te,VG⟩:=PJ h (by omega) (s i);obtain⟨L,t',e',h1,h2,h3⟩:=ih (i+1) ⟨l8 t.rd n (s i),p'⟩ hg.ok (by have:=hg.left;simp at this ⊢;omega);refine⟨n::L,t',by rw[iu,hs];simp only;rw[e];simp only;rw[e'];rfl,by simp[h1],by simpa using hg.trans h2,fun j m hm=>?_⟩
   cases j with
   |zero=>
    simp at hm;subst hm;unfold ol;rw[Nat.add_zero,hs];exact⟨n,rfl,hn,h2.used n Te,Cl,AK,by rw[h2.keepRd Te];exact VG⟩
   |succ j=>
    have:=h3 j m (by simpa using hm);rw[show i+1+j=i+(j+1) by omega]at this;unfold ol at this ⊢
    cases kp:stay (i+(j+1))with
    |some q=>rw[kp]at this;exact this
    |none=>
     rw[kp]at this;obtain⟨k,a1,a2,a3,a4,a5,a6⟩:=this;refine⟨k,a1,?_,a3,a4,by have:=hg.blocks;simp at this a5;omega,a6⟩
     cases hu:am t.pool.used k with
     |false=>rfl
     |true=>have:=hg.used k hu;rw[this]at a2;cases a2
def jf (bh data:az):List Bool:=(List.range (bN data.length 240)).map fun i=>decide (aO bh i≠aO data i)
def iE (alike:Bool)(m n was:Nat)(other:List Bool):List Bool:=(List.range m).map fun i=>!alike||decide (bN was 60<=i)||decide (min (n-60*i) 60≠min (was-60*i) 60)||(dK other (60*i) 60).any id
def mh (l:List Bool):Nat:=(l.filter id).length
def cW (alike:Bool):List Nat->Nat->Nat->List Bool->Nat
 |[],_,_,_=>0
 |m::r,n,was,other=>let o:=iE alike m n was other;mh o+cW alike r m (bN was 60) o
def dc (bh data:az):Nat:=match au data.length with
 |[]=>0
 |m::r=>mh (jf bh data)+cW ((au bh.length).length==(au data.length).length) r m (bN bh.length 240) (jf bh data)
theorem Du (stay:Nat->Option Int)(o:List Bool)(h:∀ i,i<o.length->o[i]?=some (stay i).isNone):GJ stay o.length 0=mh o:=by
 unfold GJ mh;have e:o=(List.range' 0 o.length).map fun i=>(stay i).isNone:=by
  apply List.ext_getElem?;intro i;by_cases hi:i<o.length
  ·rw[h i hi];simp[hi]
  ·rw[avu (by omega),avu (by simp;omega)]
 conv=>rhs;rw[e,List.filter_map,au4]
 congr 1
theorem A6 {l:List Bool}{a n:Nat}:(dK l a n).any id=true↔∃ k,k<n/\l[a+k]?=some true:=by
 unfold dK;rw[List.any_eq_true]
 constructor
 ·rintro⟨x,hx,h⟩;obtain⟨k,hk⟩:=avP hx;have aL:=(auP.1 hk).1;simp only[auH]at aL;rw[List.getElem?_take_of_lt (by omega),avJ]at hk;simp at h;subst h;exact⟨k,by omega,hk⟩
 ·rintro⟨k,hk,h⟩;refine⟨true,?_,rfl⟩;apply auC (i:=k);rw[List.getElem?_take_of_lt hk,avJ,h]
structure PM (u:Pl)(was now:List Int)(other:List Bool):Prop where
 len:other.length=now.length
 stays:∀ i,other[i]?=some false->now[i]?=was[i]?/\i<was.length
 news:∀(i:Nat) (n:Int),other[i]?=some true->now[i]?=some n->∃ k:Nat,n=k/\am u.used k=false
theorem A7 {α:Type}(l:List α)(a n k:Nat)(hk:k<n):(dK l a n)[k]?=l[a+k]?:=by
 unfold dK;rw[List.getElem?_take_of_lt hk,avJ]
theorem JU {α:Type}(l:List α)(a n:Nat):(dK l a n).length=min (l.length-a) n:=by unfold dK;simp;omega
theorem Us {u:Pl}{wl nl:List Int}{other:List Bool}{up:List Int}(ho:PM u wl nl other)(hw:∀ n∈wl,fK u n)(hr:∀ n∈nl,1<=n/\n<4096)(hb:u.blocks<=4096)(alike:Bool)(m i:Nat)(hi:i<m)(was:List (List Int))(br:Nat)
  (e1:was.getD (br-1) []=wl) (e2:was.getD br []=up) (yh:alike=true->up.length=bN wl.length 60):
  (iE alike m nl.length wl.length other)[i]?=some (eI alike was nl br i).isNone:=by
 unfold iE eI;rw[avB,avC hi,avD,e1,e2]
 congr 1
 have hwr:∀ n∈aU wl i,0<=n/\n<4294967296:=fun n hn=>by
  obtain⟨k,rfl,_,h1,h2⟩:=hw n (List.mem_of_mem_drop (auG hn));omega
 have hnr:∀ n∈aU nl i,0<=n/\n<4294967296:=fun n hn=>by have:=hr n (List.mem_of_mem_drop (auG hn));omega
 by_cases ha:alike=true
 ·rw[ha,yh ha];by_cases aL:i<bN wl.length 60
  ·by_cases hg:aU nl i=aU wl i
   ·rw[auI ⟨rfl,aL,by rw[hg]⟩];have aV:min (nl.length-60*i) 60=min (wl.length-60*i) 60:=by
     have:=avO List.length hg;rw[je,je]at this;omega
    have aiQ:(dK other (60*i) 60).any id=false:=by
     rw[Bool.eq_false_iff];intro h;obtain⟨k,hk,cq⟩:=A6.1 h;have Co:=(auP.1 cq).1;rw[ho.len]at Co;have h3:=ho.news (60*i+k) nl[60*i+k] cq (auB Co);obtain⟨q,e,hq⟩:=h3;have h4:(aU nl i)[k]?=some nl[60*i+k]:=by rw[pR,A7 _ _ _ _ hk,auB Co]
     rw[hg]at h4;have h5:=auC h4;obtain⟨q',e',hq',_⟩:=hw _ (List.mem_of_mem_drop (auG h5));rw[e]at e';have:q=q':=by omega
     subst this;rw[hq]at hq';cases hq'
    simp[aL,aV,aiQ]
   ·rw[auK (fun h=>hg (PA hnr hwr h.2.2))];simp only[Option.isNone_none,Bool.not_true,Bool.false_or,auV,auY];apply avv;intro lH;simp only[not_or]at lH;obtain⟨⟨_,h2⟩,h3⟩:=lH;apply hg;have aV:min (nl.length-60*i) 60=min (wl.length-60*i) 60:=avv h2;rw[pR,pR];apply List.ext_getElem?;intro k;by_cases hk:k<min (nl.length-60*i) 60
    ·rw[A7 _ _ _ _ (by omega),A7 _ _ _ _ (by omega)];have Xd:60*i+k<other.length:=by rw[ho.len];omega
     cases hb:other[60*i+k]with
     |true=>exact absurd (A6.2 ⟨k,by omega,by rw[auB Xd,hb]⟩) h3
     |false=>exact(ho.stays _ (by rw[auB Xd,hb])).1
    ·rw[avu (by rw[JU];omega),avu (by rw[JU];omega)]
  ·rw[auK (fun h=>aL h.2.1)];simp;omega
 ·have:alike=false:=by simpa using ha
  subst this;simp
theorem Dv {t t':gK}{stay:Nat->Option Int}{s:Nat->az}{L wl:List Int}{o:List Bool}(hm:∀ i,i<o.length->o[i]?=some (stay i).isNone)(hl:L.length=o.length)(h:∀ j n,L[j]?=some n->ol t t' stay s (0+j) n)
  (hs:∀ i n,stay i=some n->wl[i]?=some n) (u:Pl) (hu:∀ n,am u.used n=true->am t.pool.used n=true):PM u wl L o:=by
 refine⟨hl.symm,fun i hi=>?_,fun i n hi hn=>?_⟩
 ·have aL:=(auP.1 hi).1;rw[hm i aL]at hi;have hL:L[i]?=some L[i]:=auB (by omega);have:=h i _ hL;rw[avm]at this;unfold ol at this
  cases dg:stay i with
  |none=>rw[dg]at hi;simp at hi
  |some m=>
   rw[dg]at this;simp only at this;have h1:=hs i m dg;exact⟨by rw[hL,h1,this],(auP.1 h1).1⟩
 ·have aL:=(auP.1 hi).1;rw[hm i aL]at hi;have:=h i n hn;rw[avm]at this;unfold ol at this
  cases dg:stay i with
  |some m=>rw[dg]at hi;simp at hi
  |none=>
   rw[dg]at this;obtain⟨k,e,h1,_⟩:=this;refine⟨k,e,?_⟩
   cases hk:am u.used k with
   |false=>rfl
   |true=>rw[hu k hk]at h1;cases h1
theorem o8 {t t':gK}{k:Nat}(h:dm t t' k){n:Int}(hn:fK t.pool n):fK t'.pool n:=by
 obtain⟨m,e,h1,h2,h3⟩:=hn;exact⟨m,e,h.used m h1,h2,by rw[h.blocks];exact h3⟩
theorem qp (r:List Nat)(n w w':Nat)(o:List Bool):cW false r n w o=cW false r n w' o:=by
 induction r generalizing n w w' o with
 |nil=>rfl
 |cons m r ih=>
  have e:iE false m n w o=iE false m n w' o:=by simp[iE]
  simp only[cW,e];rw[ih]
theorem YK (alike:Bool)(was:List (List Int))(u:Pl)(hub:u.blocks<=4096)(yU:∀ l,∀ n∈was.getD l [],fK u n)(yh:alike=true->∀ l,l+1<was.length->(was.getD (l+1) []).length=bN (was.getD l []).length 60)(r:List Nat)(br:Nat)(now:List Int)(t:gK)(ht:cH t.pool)(Jv:t.pool.blocks=u.blocks)(hu:∀ n,am u.used n=true->am t.pool.used n=true)
  (ai9:∀ n∈now,fK t.pool n) (other:List Bool) (ho:PM u (was.getD br []) now other)
  (ha:alike=true->was.length=br+1+r.length)
  (hwp:∀ l i (n:Int),(was.getD (l+1) [])[i]?=some n->t.rd n=.ok (cM (aU (was.getD l []) i)))
  (wl:Nat) (Xf:alike=true->wl=(was.getD br []).length) (hc:cW alike r now.length wl other<=t.pool.left):
  ∃ L t',qF alike was r (br+1) now t=.ok (L,t')/\L.map List.length=r/\dm t t' (cW alike r now.length wl other)/\(∀ l∈L,∀ n∈l,fK t'.pool n/\((∃ j,n∈was.getD j [])\/∃ k:Nat,n=k/\am u.used k=false))/\
   ∀ l i (n:Int),((now::L).getD (l+1) [])[i]?=some n->t'.rd n=.ok (cM (aU ((now::L).getD l []) i)):=by
 have aey:cW alike r now.length wl other=cW alike r now.length (was.getD br []).length other:=by
  cases alike with
  |false=>exact qp _ _ _ _ _
  |true=>rw[Xf rfl]
 rw[aey]at hc ⊢;clear aey Xf
 induction r generalizing br now t other wl with
 |nil=>
  refine⟨[],t,rfl,rfl,dm.refl ht,fun l hl=>by simp at hl,fun l i n hn=>by simp at hn⟩
 |cons m r ih=>
  have hr:∀ n∈now,1<=n/\n<4096:=fun n hn=>by
   obtain⟨k,rfl,_,h1,h2⟩:=ai9 n hn;omega
  have adJ:alike=true->(was.getD (br+1) []).length=bN (was.getD br []).length 60:=fun h=>yh h br (by have:=ha h;simp at this;omega);have hov:∀ i,i<m->(iE alike m now.length (was.getD br []).length other)[i]?=some (eI alike was now (br+1) i).isNone:=fun i hi=>
   Us ho (yU br) hr hub alike m i hi was (br+1) rfl rfl adJ
  have Xd:(iE alike m now.length (was.getD br []).length other).length=m:=by simp[iE]
  have kq:=Du (eI alike was now (br+1)) (iE alike m now.length (was.getD br []).length other) (fun i hi=>hov i (by omega));rw[Xd]at kq;have hcu:cW alike (m::r) now.length (was.getD br []).length other=mh (iE alike m now.length (was.getD br []).length other)+cW alike r m (bN (was.getD br []).length 60) (iE alike m now.length (was.getD br []).length other):=rfl;rw[hcu]at hc ⊢;obtain⟨L,t1,e1,h1,h2,h3⟩:=PK (eI alike was now (br+1)) (fun i=>cM (aU now i)) m 0 t ht (by omega);rw[kq]at h2;have dg:∀ i n,eI alike was now (br+1) i=some n->(was.getD (br+1) [])[i]?=some n/\cM (aU now i)=cM (aU (was.getD br []) i):=by
   intro i n h;unfold eI at h;split at h
   ·rename_i hh
    injection h with h;exact⟨by rw[<-h];exact getD_some hh.2.1,by simpa using hh.2.2⟩
   ·cases h
  have ajl:PM u (was.getD (br+1) []) L (iE alike m now.length (was.getD br []).length other):=
   Dv (fun i hi=>hov i (by omega)) (by omega) h3 (fun i n h=>(dg i n h).1) u hu
  have TJ:∀ n∈L,fK t1.pool n/\((∃ j,n∈was.getD j [])\/∃ k:Nat,n=k/\am u.used k=false):=by
   intro n hn;obtain⟨j,hj⟩:=avP hn;have:=h3 j n hj;unfold ol at this
   cases hs:eI alike was now (br+1) (0+j)with
   |some q=>
    rw[hs]at this;simp only at this;subst this;obtain⟨k,e,a1,a2,a3⟩:=yU (br+1) n (auC (dg _ _ hs).1);exact⟨⟨k,e,h2.used k (hu k a1),a2,by rw[h2.blocks,Jv];exact a3⟩,.inl ⟨br+1,auC (dg _ _ hs).1⟩⟩
   |none=>
    rw[hs]at this;obtain⟨k,e,a0,a2,a3,a4,_⟩:=this;refine⟨⟨k,e,a2,a3,by rw[h2.blocks];exact a4⟩,.inr ⟨k,e,?_⟩⟩
    cases hk:am u.used k with
    |false=>rfl
    |true=>rw[hu k hk]at a0;cases a0
  have hL:∀ n∈L,fK t1.pool n:=fun n hn=>(TJ n hn).1;have aiy:cW alike r m (bN (was.getD br []).length 60) (iE alike m now.length (was.getD br []).length other)=cW alike r m (was.getD (br+1) []).length (iE alike m now.length (was.getD br []).length other):=by
   cases OO:alike with
   |false=>exact qp _ _ _ _ _
   |true=>rw[adJ OO]
  rw[aiy]at hc ⊢;obtain⟨L2,t2,e2,g1,g2,g3,g4⟩:=ih (br+1) L t1 h2.ok (h2.blocks.trans Jv) (fun n hn=>h2.used n (hu n hn)) hL _ ajl (fun h=>by have:=ha h;simp at this;omega)
   (fun l i n hn=>by
    obtain⟨k,e,a1,_⟩:=yU (l+1) n (auC hn);rw[e,h2.keepRd (hu k a1),<-e];exact hwp l i n hn) 0 (by rw[h1];have:=h2.left;omega)
  rw[h1]at g2;have g0:∀ i (n:Int),L[i]?=some n->t2.rd n=.ok (cM (aU now i)):=by
   intro i n hn;obtain⟨k,e,a1,_⟩:=hL n (auC hn);rw[e,g2.keepRd a1,<-e];have:=h3 i n hn;unfold ol at this;rw[avm]at this
   cases hs:eI alike was now (br+1) i with
   |some q=>
    rw[hs]at this;simp only at this;subst this;obtain⟨b1,b2⟩:=dg _ _ hs;obtain⟨k,e,a1,_⟩:=yU (br+1) n (auC b1);rw[e,h2.keepRd (hu k a1),<-e,hwp br i n b1,b2]
   |none=>
    rw[hs]at this;obtain⟨k,_,_,_,_,_,a⟩:=this;exact a
  refine⟨L::L2,t2,?_,by simp[h1,g1],h2.trans g2,?_,?_⟩
  ·rw[qF,e1];simp only;rw[e2];rfl
  ·intro l hl n hn;rcases auX.1 hl with rfl|hl
   ·exact⟨o8 g2 (hL n hn),(TJ n hn).2⟩
   ·exact g3 l hl n hn
  ·intro l i n hn
   cases l with
   |zero=>exact g0 i n (by simpa using hn)
   |succ l=>
    have:=g4 l i n (by simpa using hn);simpa using this
theorem PQ {t:gK}{bh data:az}{was:List (List Int)}(ht:cH t.pool)(hw:ez t.rd bh was)(hu:∀ l∈was,∀ n∈l,fK t.pool n)(hs:data.length<=16384)(hh:bh.length<=16384)(hc:dc bh data<=t.pool.left):
  ∃ nums t',kI bh data was t=.ok (nums,t')/\ez t'.rd data nums/\dm t t' (dc bh data)/\(∀ l∈nums,∀ n∈l,fK t'.pool n)/\∀ n:Nat,(n:Int)∈nums.flatten->(n:Int)∈was.flatten\/am t.pool.used n=false:=by
 have Xf:was.length=(au bh.length).length:=by rw[<-hw.shape];simp
 have hu':∀ l,∀ n∈was.getD l [],fK t.pool n:=by
  intro l n hn;by_cases hl:l<was.length
  ·rw[List.getD,auB hl]at hn;exact hu _ (ava hl) n hn
  ·rw[List.getD,avu (by omega)]at hn;cases hn
 have Jg:(was.getD 0 []).length=bN bh.length 240:=by
  rw[fU hw];rcases aM bh.length with⟨h0,e⟩|⟨h0,h2,e⟩|⟨_,_,e⟩|⟨_,e⟩<;>rw[e]
  ·rw[h0];rfl
  ·have h1:=(aJ (n:=bh.length) (each:=240) (k:=1) (by decide)).2 (by omega);have h3:=dJ (n:=bh.length) (each:=240) (by decide);simp;omega
  all_goals rfl
 unfold kI dc at*
 cases eU:au data.length with
 |nil=>
  rw[eU]at hc;have hd:data=[]:=by
   rcases aM data.length with⟨h0,_⟩|⟨_,_,e⟩|⟨_,_,e⟩|⟨_,e⟩
   ·exact au8.1 h0
   all_goals rw[e]at eU;cases eU
  subst hd;exact⟨[],t,rfl,⟨by rw[eU];rfl,fun i n h=>by simp at h,fun l i n h=>by simp at h,fun l h=>by simp at h⟩,dm.refl ht,fun l h=>by simp at h,fun n h=>by simp at h⟩
 |cons m r=>
  rw[eU]at hc;simp only at hc ⊢;have hm:m=bN data.length 240:=by
   rcases aM data.length with⟨h0,e⟩|⟨h0,h2,e⟩|⟨_,_,e⟩|⟨_,e⟩<;>rw[e]at eU
   ·cases eU
   ·have h1:=(aJ (n:=data.length) (each:=240) (k:=1) (by decide)).2 (by omega);have h3:=dJ (n:=data.length) (each:=240) (by decide);injection eU;omega
   all_goals (injection eU;omega)
  have Xd:(jf bh data).length=m:=by simp[jf,hm]
  have dg:∀ i,i<m->(jf bh data)[i]?=some (gc bh data was i).isNone:=by
   intro i hi;unfold jf gc;rw[avB,avC (by omega),avD];by_cases e:aO data i=aO bh i
   ·simp[e]
   ·simp[e,Ne.symm e]
  have kq:=Du (gc bh data was) (jf bh data) (fun i hi=>dg i (by omega));rw[Xd]at kq;obtain⟨L,t1,e1,h1,h2,h3⟩:=PK (gc bh data was) (aO data) m 0 t ht (by omega);rw[kq]at h2;have uS:∀ i,i<m->240*i<data.length:=by
   intro i hi;have:=(aJ (n:=data.length) (each:=240) (k:=i) (by decide))
   omega
  have hsy:∀ i n,i<m->gc bh data was i=some n->(was.getD 0 [])[i]?=some n/\aO data i=aO bh i:=by
   intro i n hi h;unfold gc at h;split at h
   ·rename_i e
    injection h with h;have aL:i<(was.getD 0 []).length:=by
     rw[Jg];have:=avO List.length e;rw[jd,jd]at this;have:=uS i hi;have:=(aJ (n:=bh.length) (each:=240) (k:=i) (by decide))
     omega
    exact⟨by rw[<-h];exact getD_some aL,e⟩
   ·cases h
  have hov:PM t.pool (was.getD 0 []) L (jf bh data):=by
   refine Dv (stay:=fun i=>if i<m then gc bh data was i else none) (s:=aO data) (t:=t) (t':=t1) (fun i hi=>by rw[Xd]at hi;simp only[hi,auI];exact dg i hi) (by omega) (fun j n hn=>?_) (fun i n h=>?_) t.pool (fun _ h=>h)
   ·have hj:=(auP.1 hn).1;have:=h3 j n hn;unfold ol at this ⊢;rw[avm]at this ⊢;simp only[show j<m by omega,auI];exact this
   ·by_cases hi:i<m
    ·rw[auI hi]at h;exact(hsy i n hi h).1
    ·rw[auK hi]at h;cases h
  have TJ:∀ n∈L,fK t1.pool n/\((∃ j,n∈was.getD j [])\/∃ k:Nat,n=k/\am t.pool.used k=false):=by
   intro n hn;obtain⟨j,hj⟩:=avP hn;have hjm:=(auP.1 hj).1;have:=h3 j n hj;unfold ol at this;rw[avm]at this
   cases hs:gc bh data was j with
   |some q=>
    rw[hs]at this;simp only at this;subst this;have hm:=auC (hsy j n (by omega) hs).1;exact⟨o8 h2 (hu' 0 n hm),.inl ⟨0,hm⟩⟩
   |none=>
    rw[hs]at this;obtain⟨k,e,a0,a2,a3,a4,_⟩:=this;exact⟨⟨k,e,a2,a3,by rw[h2.blocks];exact a4⟩,.inr ⟨k,e,a0⟩⟩
  have hL:∀ n∈L,fK t1.pool n:=fun n hn=>(TJ n hn).1;have aaX:(was.length==r.length+1)=((au bh.length).length==(m::r).length):=by rw[Xf];simp
  rw[aaX];have aea:∀ l,l+1<was.length->(was.getD (l+1) []).length=bN (was.getD l []).length 60:=by
   intro l hl;rw[fU hw,fU hw];rw[Xf]at hl;rcases aM bh.length with⟨h0,e⟩|⟨h0,h2,e⟩|⟨h0,h2,e⟩|⟨h0,e⟩<;>rw[e]at hl ⊢
   ·simp at hl
   ·simp at hl
   ·obtain rfl:l=0:=by simp at hl;omega
    have h1:=(aJ (n:=bh.length) (each:=240) (k:=60) (by decide)).2 (by omega);have h3:=dJ (n:=bh.length) (each:=240) (by decide);have h4:=dJ (n:=bN bh.length 240) (each:=60) (by decide);have h5:=(aJ (n:=bN bh.length 240) (each:=60) (k:=1) (by decide)).2 (by omega);simp;omega
   ·rcases l with _|_|l
    ·rfl
    ·have h1:=(aJ (n:=bh.length) (each:=240) (k:=69) (by decide)).2 (by omega);have h6:=(aJ (n:=bh.length) (each:=240) (k:=60) (by decide))
     have h3:=(aJ (n:=bN bh.length 240) (each:=60) (k:=2) (by decide)).2 (by omega);have h7:=(dJ (n:=bN bh.length 240) (each:=60) (by decide))
     have h4:=dJ (n:=bN (bN bh.length 240) 60) (each:=60) (by decide);have h5:=(aJ (n:=bN (bN bh.length 240) 60) (each:=60) (k:=1) (by decide)).2 (by omega);simp;omega
    ·simp at hl;omega
  obtain⟨L2,t2,e2,g1,g2,g3,g4⟩:=YK ((au bh.length).length==(m::r).length) was t.pool ht.most hu' (fun _=>aea) r 0 L t1 h2.ok h2.blocks (fun n hn=>h2.used n hn) hL (jf bh data) hov (fun h=>by simp at h;omega)
   (fun l i n hn=>by
    obtain⟨k,e,a1,_⟩:=hu' (l+1) n (auC hn);rw[e,h2.keepRd a1,<-e];exact hw.ptr l i n hn) (bN bh.length 240) (fun _=>Jg.symm) (by rw[h1];have:=h2.left;omega)
  rw[h1]at g2;have nV:∀ l∈L::L2,∀ n∈l,fK t2.pool n:=by
   intro l hl n hn;rcases auX.1 hl with rfl|hl
   ·exact o8 g2 (hL n hn)
   ·exact(g3 l hl n hn).1
  have ad5:∀ n:Nat,(n:Int)∈(L::L2).flatten->(n:Int)∈was.flatten\/am t.pool.used n=false:=by
   intro n hn;obtain⟨l,hl,hm⟩:=List.mem_flatten.1 hn;have:(∃ j,(n:Int)∈was.getD j [])\/∃ k:Nat,(n:Int)=k/\am t.pool.used k=false:=by
    rcases auX.1 hl with rfl|hl
    ·exact(TJ _ hm).2
    ·exact(g3 l hl _ hm).2
   rcases this with⟨j,hj⟩|⟨k,e,hk⟩
   ·left
    by_cases hl:j<was.length
    ·rw[List.getD,auB hl]at hj;exact List.mem_flatten.2 ⟨_,ava hl,hj⟩
    ·rw[List.getD,avu (by omega)]at hj;cases hj
   ·right
    have:n=k:=by omega
    subst this;exact hk
  refine⟨L::L2,t2,?_,⟨?_,?_,g4,?_⟩,h2.trans g2,nV,ad5⟩
  ·rw[e1];simp only;rw[e2];rfl
  ·rw[auy,h1,g1,eU]
  ·intro i n hn;simp only[List.getD_cons_zero]at hn;obtain⟨k,e,a1,_⟩:=hL n (auC hn);rw[e,g2.keepRd a1,<-e];have hjm:=(auP.1 hn).1;have:=h3 i n hn;unfold ol at this;rw[avm]at this
   cases hs:gc bh data was i with
   |some q=>
    rw[hs]at this;simp only at this;subst this;obtain⟨b1,b2⟩:=hsy i n (by omega) hs;obtain⟨k,e,a1,_⟩:=hu' 0 n (auC b1);rw[e,h2.keepRd a1,<-e,hw.chunk i n b1,b2]
   |none=>
    rw[hs]at this;obtain⟨k,_,_,_,_,_,a⟩:=this;exact a
  ·intro l hl n hn;obtain⟨k,e,_,a1,a2⟩:=nV l hl n hn;have:=g2.ok.most;omega
theorem Lz {t:gK}{bh data:az}{was:List (List Int)}(ht:cH t.pool)(hw:ez t.rd bh was)(hu:∀ l∈was,∀ n∈l,fK t.pool n)(hs:data.length<=16384)(hh:bh.length<=16384)(hc:dc bh data<=t.pool.left):
  ∃ nums t',dI t (dt bh was) data=.ok (dt data nums,t')/\ez t'.rd data nums/\dm t t' (dc bh data)/\(∀ l∈nums,∀ n∈l,fK t'.pool n)/\∀ n:Nat,(n:Int)∈nums.flatten->(n:Int)∈was.flatten\/am t.pool.used n=false:=by
 obtain⟨nums,t',e,h1,h2,h3,h4⟩:=PQ ht hw hu hs hh hc;obtain⟨o,e1,e2,_⟩:=kV hw hh true;refine⟨nums,t',?_,h1,h2,h3,h4⟩;unfold dI;rw[auK (by omega),e1];simp only[↓reduceIte];rw[e2,e];rfl
structure fC where
 num:Int
 dir:Bool
 links:Int
 blob:fP
structure Sn where
 name:az
 id:Int
 plane:Int
 table:fP
def yH (b:fP):az:=aP b.root.toNat++aP b.size.toNat
def oo (x:fC):az:=aP x.num.toNat++aP (if x.dir=true then 1 else 0)++aP x.links.toNat++yH x.blob
def j9 (l:List fC):az:=aP l.length++l.flatMap oo
def pa (x:Sn):az:=aP x.name.length++x.name++aP x.id.toNat++aP x.plane.toNat++yH x.table
def kc (l:List Sn):az:=aP l.length++l.flatMap pa
def fP.ok (b:fP):Bool:=b.may&&decide (0<=b.root)&&decide (b.root<4096)
def yI (was:Int):List fC->Bool
 |[]=>true
 |x::r=>decide (was<x.num)&&decide (x.num<=65535)&&decide (1<=x.links)&&decide (x.links<=65535)&&x.blob.ok&&yI x.num r
def qQ (l:List fC):Bool:=decide (l.length<=4096)&&yI 0 l
def Ty (was:Int):List Sn->Bool
 |[]=>true
 |x::r=>aG x.name&&decide (was<x.id)&&decide (x.id<=1099511627776)&&decide (1<=x.plane)&&decide (x.plane<=7)&&x.table.ok&&Ty x.id r
def zI (l:List Sn):Bool:=decide (l.length<=4096)&&Ty 0 l
def ig (planes:List az)(blocks:Nat):az:=(List.range blocks).map fun b=>UInt8.ofNat ((List.range 8).foldl (fun a p=>if am (planes.getD p []) b then a+2 ^ p else a) 0)
def cV (planes:List az):az:=planes.foldl eH []
def aS (size:Nat):Nat:=(au size).sum
structure jg where
 table:fP
 snaps:fP
 mapped:fP
 next:Nat
 id:Nat
 inodes:List fC
 list:List Sn
 planes:List az
 nodes:List Nt
structure Vs where
 rd:Rd
 blocks:Nat
 num:Nat
 b:jg
 T:Tr
 recs:List az
 half:Nat
def dL (rd:Rd)(set:az)(b:fP):Except Int az:=match oM rd b with
 | .error e=>.error e
 | .ok l=>if l.all (fun n=>decide (0<=n)&&decide (n<=65535))=true then .ok (eH set (iO (l.map Int.toNat)))else .error 150
def ec (l:List fC)(num:Int):fP:=match (l.filter fun x=>x.num==num).getLast? with
 |some x=>x.blob
 |none=>⟨0,0⟩
def mF (was:List fC):List Nt->az->gK->Except Int (List fC×az×gK)
 |[],set,t=>.ok ([],set,t)
 |x::r,set,t=>match dI t (ec was x.num) x.data with
  | .error e=>.error e
  | .ok (b,t1)=>match dL t1.rd set b with
   | .error e=>.error e
   | .ok s=>(mF was r s t1).map fun o=>(⟨x.num,x.dir,x.links,b⟩::o.1,o.2)
def aW (l:List Sn):Nat:=((List.range' 1 8).find? fun(p:Nat)=>!l.any fun x=>x.plane==(p:Int)).getD 0
def pf:Nat->Pl->Except Int Pl
 |0,p=>.ok p
 |k+1,p=>match p.take with
  | .error e=>.error e
  | .ok (_,q)=>pf k q
def ge (b:jg):az:=yH b.table++yH b.snaps++yH b.mapped++aP b.next++aP b.id
def kY (planes:List az)(l:List Sn):List az:=(List.range 8).map fun(p:Nat)=>if p=0\/l.any (fun x=>x.plane==(p:Int))=true then planes.getD p []else []
def bB (v:Vs)(list:List Sn)(more:az):Except Int Vs:=do
 let p:=gB (cV v.b.planes) v.blocks v.b.next
 let (inos,set,t1) <-mF v.b.inodes (ar v.T) [] ⟨v.rd,p⟩
 let (table,t2) <-dI t1 v.b.table (j9 inos)
 let set1 <-dL t2.rd set table
 let FK:=kY v.b.planes list
 let x:Sn:=⟨more,v.b.id,aW list,table⟩
 let l2:=if more=[]then list else list++[x]
 let pl2:=if more=[]then FK else FK.set (aW list) (eH set1 [])
 let (snaps,t3) <-dI t2 v.b.snaps (kc l2)
 let set2 <-dL t3.rd set1 snaps
 let p4 <-pf (aS v.blocks) t3.pool
 let own:=bQ p4.taken t3.pool.taken
 let pl3:=pl2.set 0 (eH (eH set2 own) [])
 let q:=gB (bQ (iO (List.range v.blocks)) own) v.blocks t3.pool.next
 let (mapped,t5) <-dI ⟨t3.rd,q⟩ ⟨0,0⟩ (ig pl3 v.blocks)
 .ok { v with rd:=t5.rd,num:=v.num+1,recs:=[],b:=⟨table,snaps,mapped,p4.next,if more=[]then v.b.id else v.b.id+1,inos,l2,pl3,ar v.T⟩ }
def cI (l:List Nt)(num:Int):az:=match (l.filter fun x=>x.num==num).getLast? with
 |some x=>x.data
 |none=>[]
def bM (v:Vs):Nat:=aS v.blocks
def bH (v:Vs)(l:List Nt):Nat:=bM v+1+(l.map fun x=>dc (cI v.b.nodes x.num) x.data).sum+(if l=v.b.nodes then 0 else aS (2+12*l.length))
def cR (v:Vs)(kind:Int):Nat:=if kind=8 then 0 else if kind=3\/kind=6 then bM v+2 else 2*bM v+16
def dp (v:Vs):Nat:=kX (cV v.b.planes) v.blocks
def lB (l:List az):az:=l.flatMap fun r=>[UInt8.ofNat (r.length%256),UInt8.ofNat (r.length/256%256)]++r
def cl (v:Vs):Nat:=v.half-(lB v.recs).length
def mG (v:Vs)(T:Tr)(kind:Int):Except Int (Bool×Vs):=
 if bH v (ar T)+cR v kind<=dp v then .ok (true,v)else
  (if ar v.T=v.b.nodes then .ok v else bB v v.b.list []).map fun u=>(decide (bH u (ar T)+cR u kind<=dp u),u)
def du (v:Vs)(name:az):Option Nat:=v.b.list.findIdx? fun x=>x.name==name
def nB (v:Vs)(c:bP):Except Int Tr:=
 if c.kind=7/\(du v c.path).isSome=true then .error 161 else
 if c.kind=7/\(7<=v.b.list.length\/1099511627777<=v.b.id)then .error 163 else
 if c.kind=8/\(du v c.path).isSome=false then .error 162 else
 if c.kind=7\/c.kind=8 then .ok v.T else
  if(qN v.T c).2=0 then .ok (qN v.T c).1 else .error (qN v.T c).2
end Go.Proofs.YtkghpdcloaiflaaGreatDoor
