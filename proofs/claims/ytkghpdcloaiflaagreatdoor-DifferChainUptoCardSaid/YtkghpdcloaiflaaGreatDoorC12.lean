import Derived.Test.YtkghpdcloaiflaaGreatDoorC10
import Derived.Test.YtkghpdcloaiflaaGreatDoorC11
namespace Go.Proofs.YtkghpdcloaiflaaGreatDoor
open _root_.Go.Proofs.Tryz
theorem getD_some {l:List Int}{i:Nat}(h:i<l.length):l[i]?=some (l.getD i 0):=by simp[h]
def kK (used:ay)(blocks:Nat):Nat:=((List.range' 1 (blocks-1)).filter fun n=>!ak used n).length
structure cE (p:Pl):Prop where
 lo:1<=p.next
 hi:p.next<=p.blocks
 most:p.blocks<=4096
 left:p.left=kK p.used p.blocks
theorem AI (used:ay)(n k:Nat):ak (d6 used (iE [n])) k=(ak used k||k==n):=by
 rw[iL,vk];congr 1;by_cases h:k=n<;>simp[h]
theorem Ph {used:ay}{blocks n:Nat}(h1:1<=n)(h2:n<blocks)(h3:ak used n=false):kK (d6 used (iE [n])) blocks+1=kK used blocks:=by
 unfold kK;have Nx:((List.range' 1 (blocks-1)).filter fun n=>!ak used n).Nodup:=(List.nodup_range' (step:=1) (by decide)).filter _;have hm:n∈(List.range' 1 (blocks-1)).filter fun n=>!ak used n:=by
  rw[atD,auK];exact⟨by omega,by simp[h3]⟩
 have e:((List.range' 1 (blocks-1)).filter fun k=>!ak (d6 used (iE [n])) k)=((List.range' 1 (blocks-1)).filter fun n=>!ak used n).erase n:=by
  rw[Nx.erase_eq_filter,List.filter_filter];apply List.filter_congr;intro k _;rw[AI]
  cases ak used k<;>simp[bne]
 rw[e,List.length_erase_of_mem hm];have:=List.length_pos_of_mem hm;omega
theorem C3 {used:ay}{blocks:Nat}(h:0<kK used blocks):∃ n,1<=n/\n<blocks/\ak used n=false:=by
 obtain⟨n,hn⟩:=List.exists_mem_of_length_pos h;rw[atD,auK]at hn;exact⟨n,by omega,by omega,by simpa using hn.2⟩
theorem pF {p:Pl}(h:cE p)(hl:0<p.left):1<=p.seek/\p.seek<p.blocks/\ak p.used p.seek=false:=by
 obtain⟨n,h1,h2,h3⟩:=C3 (by rw[<-h.left];exact hl);have hlo:=h.lo;unfold Pl.seek
 cases hg:fY p.used p.next p.blocks with
 |some m=>
  have:=ow hg;simp;exact⟨by omega,this.2.1,this.2.2.1⟩
 |none=>
  cases BX:fY p.used 1 p.blocks with
  |some m=>
   have:=ow BX;simp;exact⟨by omega,this.2.1,this.2.2.1⟩
  |none=>
   have:=vi BX n h1 h2;rw[h3]at this;cases this
theorem uM {p:Pl}(h:cE p)(hl:0<p.left):∃ n p',p.take=.ok (n,p')/\1<=n/\n<p.blocks/\ak p.used n=false/\cE p'/\p'.left+1=p.left/\p'.blocks=p.blocks/\(∀ k,ak p'.used k=(ak p.used k||k==n))/\(∀ k,ak p'.taken k=(ak p.taken k||k==n)):=by
 obtain⟨h1,h2,h3⟩:=pF h hl;refine⟨p.seek,{ p with used:=d6 p.used (iE [p.seek]),taken:=d6 p.taken (iE [p.seek]),next:=p.seek+1,left:=p.left-1 },?_,h1,h2,h3,⟨?_,?_,h.most,?_⟩,?_,rfl,fun k=>AI _ _ _,fun k=>AI _ _ _⟩
 ·unfold Pl.take;rw[atR (by omega)]
 ·show 1<=p.seek+1;omega
 ·show p.seek+1<=p.blocks;omega
 ·show p.left-1=kK (d6 p.used (iE [p.seek])) p.blocks;have:=Ph h1 h2 h3;rw[<-h.left]at this;omega
 ·show p.left-1+1=p.left;omega
structure dg (t t':gA)(k:Nat):Prop where
 ok:cE t'.pool
 used:∀ n,ak t.pool.used n=true->ak t'.pool.used n=true
 taken:∀ n,ak t'.pool.taken n=(ak t.pool.taken n||(ak t'.pool.used n&&!ak t.pool.used n))
 blocks:t'.pool.blocks=t.pool.blocks
 left:t'.pool.left+k=t.pool.left
 rd:∀ z:Int,(∀ n:Nat,z=n->ak t.pool.used n=true\/ak t'.pool.used n=false)->t'.rd z=t.rd z
 news:∀ n,ak t'.pool.used n=true->ak t.pool.used n=false->1<=n/\n<t.pool.blocks
theorem dg.refl {t:gA}(h:cE t.pool):dg t t 0:=⟨h,fun _ h=>h,fun n=>by cases ak t.pool.used n<;>simp,rfl,rfl,fun _ _=>rfl,fun n h1 h2=>by rw[h1]at h2;cases h2⟩
theorem dg.trans {a b c:gA}{k m:Nat}(h1:dg a b k)(h2:dg b c m):dg a c (k+m):=by
 refine⟨h2.ok,fun n h=>h2.used n (h1.used n h),fun n=>?_,h2.blocks.trans h1.blocks,by have:=h1.left;have:=h2.left;omega,fun z hz=>?_,fun n hc ha=>?_⟩
 ·rw[h2.taken,h1.taken];have e1:=h1.used n;have e2:=h2.used n
  cases ha:ak a.pool.used n<;>cases hb:ak b.pool.used n<;>cases hc:ak c.pool.used n<;>simp_all
 ·rw[h2.rd z,h1.rd z]
  ·intro n hn;rcases hz n hn with h|h
   ·exact .inl h
   ·right
    cases hb:ak b.pool.used n with
    |false=>rfl
    |true=>rw[h2.used n hb]at h;cases h
  ·intro n hn;rcases hz n hn with h|h
   ·exact .inl (h1.used n h)
   ·exact .inr h
 ·cases hb:ak b.pool.used n with
  |true=>exact h1.news n hb ha
  |false=>have:=h2.news n hc hb;rw[h1.blocks]at this;exact this
theorem dg.keepRd {t t':gA}{k:Nat}(h:dg t t' k){n:Nat}(hn:ak t.pool.used n=true):t'.rd n=t.rd n:=
 h.rd n fun m hm=>.inl (by rw[<-Int.ofNat_inj.1 hm];exact hn)
def fE (p:Pl)(n:Int):Prop:=∃ k:Nat,n=k/\ak p.used k=true/\1<=k/\k<p.blocks
theorem Pi {t:gA}(h:cE t.pool)(hl:0<t.pool.left)(s:ay):∃(n:Nat) (p':Pl),t.pool.take=.ok (n,p')/\dg t ⟨lW t.rd n s,p'⟩ 1/\ak t.pool.used n=false/\1<=n/\n<t.pool.blocks/\ak p'.used n=true/\lW t.rd n s n=.ok s:=by
 obtain⟨n,p',e,h1,h2,h3,h4,h5,h6,h7,h8⟩:=uM h hl;refine⟨n,p',e,⟨h4,fun k hk=>by rw[h7,hk];rfl,fun k=>?_,h6,h5,fun z hz=>?_,fun k hk dc=>?_⟩,h3,h1,h2,by rw[h7];simp,by simp[lW]⟩
 ·show ak p'.taken k=(ak t.pool.taken k||(ak p'.used k&&!ak t.pool.used k));rw[h8,h7];by_cases hk:k=n
  ·subst hk;simp[h3]
  ·have:(k==n)=false:=by simp[hk]
   rw[this];cases ak t.pool.used k<;>simp
 ·show lW t.rd n s z=t.rd z;unfold lW;rw[atR];intro hzn;rcases hz n hzn with h|h
  ·rw[h3]at h;cases h
  ·have h':ak p'.used n=false:=h;rw[h7]at h';simp at h'
 ·have Fz:ak p'.used k=true:=hk;rw[h7]at Fz;have:k=n:=by
   have dq:ak t.pool.used k=false:=dc;rw[dq]at Fz;simpa using Fz
  subst this;exact⟨h1,h2⟩
def Gl (stay:Nat->Option Int)(f i:Nat):Nat:=((List.range' i f).filter fun j=>(stay j).isNone).length
theorem KX (stay:Nat->Option Int)(f i:Nat):Gl stay (f+1) i=(if(stay i).isNone=true then 1 else 0)+Gl stay f (i+1):=by
 unfold Gl;rw[List.range'_succ,auY];split<;>simp<;>omega
def nT (t t':gA)(stay:Nat->Option Int)(s:Nat->ay)(j:Nat)(n:Int):Prop:=match stay j with
 |some m=>n=m
 |none=>∃ k:Nat,n=k/\ak t.pool.used k=false/\ak t'.pool.used k=true/\1<=k/\k<t.pool.blocks/\t'.rd n=.ok (s j)
theorem Pj (stay:Nat->Option Int)(s:Nat->ay)(f i:Nat)(t:gA)(h:cE t.pool)(hl:Gl stay f i<=t.pool.left):
  ∃ L t',ij stay s f i t=.ok (L,t')/\L.length=f/\dg t t' (Gl stay f i)/\∀ j n,L[j]?=some n->nT t t' stay s (i+j) n:=by
 induction f generalizing i t with
 |zero=>exact⟨[],t,rfl,rfl,dg.refl h,fun j n hn=>by simp at hn⟩
 |succ f ih=>
  rw[KX]at hl ⊢
  cases hs:stay i with
  |some n=>
   rw[hs]at hl;obtain⟨L,t',e,h1,h2,h3⟩:=ih (i+1) t h (by simpa using hl);refine⟨n::L,t',by rw[ij,hs];simp only;rw[e];rfl,by simp[h1],by simpa using h2,fun j m hm=>?_⟩
   cases j with
   |zero=>simp at hm;subst hm;unfold nT;rw[Nat.add_zero,hs]
   |succ j=>have:=h3 j m (by simpa using hm);rwa [show i+1+j=i+(j+1) by omega]at this
  |none=>
   rw[hs]at hl;simp only[Option.isNone_none,atP]at hl;obtain⟨n,p',e,hg,hn,By,Aq,Sa,VE⟩:=Pi h (by omega) (s i);obtain⟨L,t',e',h1,h2,h3⟩:=ih (i+1) ⟨lW t.rd n (s i),p'⟩ hg.ok (by have:=hg.left;simp at this ⊢;omega);refine⟨n::L,t',by rw[ij,hs];simp only;rw[e];simp only;rw[e'];rfl,by simp[h1],by simpa using hg.trans h2,fun j m hm=>?_⟩
   cases j with
   |zero=>
    simp at hm;subst hm;unfold nT;rw[Nat.add_zero,hs];exact⟨n,rfl,hn,h2.used n Sa,By,Aq,by rw[h2.keepRd Sa];exact VE⟩
   |succ j=>
    have:=h3 j m (by simpa using hm);rw[show i+1+j=i+(j+1) by omega]at this;unfold nT at this ⊢
    cases lh:stay (i+(j+1))with
    |some q=>rw[lh]at this;exact this
    |none=>
     rw[lh]at this;obtain⟨k,a1,a2,a3,a4,a5,a6⟩:=this;refine⟨k,a1,?_,a3,a4,by have:=hg.blocks;simp at this a5;omega,a6⟩
     cases hu:ak t.pool.used k with
     |false=>rfl
     |true=>have:=hg.used k hu;rw[this]at a2;cases a2
def iW (bg data:ay):List Bool:=(List.range (bN data.length 240)).map fun i=>decide (aN bg i≠aN data i)
def ir (alike:Bool)(m n was:Nat)(other:List Bool):List Bool:=(List.range m).map fun i=>!alike||decide (bN was 60<=i)||decide (min (n-60*i) 60≠min (was-60*i) 60)||(dH other (60*i) 60).any id
def l7 (l:List Bool):Nat:=(l.filter id).length
def cW (alike:Bool):List Nat->Nat->Nat->List Bool->Nat
 |[],_,_,_=>0
 |m::r,n,was,other=>let o:=ir alike m n was other;l7 o+cW alike r m (bN was 60) o
def da (bg data:ay):Nat:=match au data.length with
 |[]=>0
 |m::r=>l7 (iW bg data)+cW ((au bg.length).length==(au data.length).length) r m (bN bg.length 240) (iW bg data)
theorem C4 (stay:Nat->Option Int)(o:List Bool)(h:∀ i,i<o.length->o[i]?=some (stay i).isNone):Gl stay o.length 0=l7 o:=by
 unfold Gl l7;have e:o=(List.range' 0 o.length).map fun i=>(stay i).isNone:=by
  apply List.ext_getElem?;intro i;by_cases hi:i<o.length
  ·rw[h i hi];simp[hi]
  ·rw[auF (by omega),auF (by simp;omega)]
 conv=>rhs;rw[e,List.filter_map,aug]
 congr 1
theorem AJ {l:List Bool}{a n:Nat}:(dH l a n).any id=true↔∃ k,k<n/\l[a+k]?=some true:=by
 unfold dH;rw[List.any_eq_true]
 constructor
 ·rintro⟨x,hx,h⟩;obtain⟨k,hk⟩:=au0 hx;have aM:=(atX.1 hk).1;simp only[atO]at aM;rw[List.getElem?_take_of_lt (by omega),auU]at hk;simp at h;subst h;exact⟨k,by omega,hk⟩
 ·rintro⟨k,hk,h⟩;refine⟨true,?_,rfl⟩;apply atJ (i:=k);rw[List.getElem?_take_of_lt hk,auU,h]
structure Pk (u:Pl)(was now:List Int)(other:List Bool):Prop where
 len:other.length=now.length
 stays:∀ i,other[i]?=some false->now[i]?=was[i]?/\i<was.length
 news:∀(i:Nat) (n:Int),other[i]?=some true->now[i]?=some n->∃ k:Nat,n=k/\ak u.used k=false
theorem AK {α:Type}(l:List α)(a n k:Nat)(hk:k<n):(dH l a n)[k]?=l[a+k]?:=by
 unfold dH;rw[List.getElem?_take_of_lt hk,auU]
theorem Jv {α:Type}(l:List α)(a n:Nat):(dH l a n).length=min (l.length-a) n:=by unfold dH;simp;omega
theorem TR {u:Pl}{wl nl:List Int}{other:List Bool}{up:List Int}(ho:Pk u wl nl other)(hw:∀ n∈wl,fE u n)(hr:∀ n∈nl,1<=n/\n<4096)(hb:u.blocks<=4096)(alike:Bool)(m i:Nat)(hi:i<m)(was:List (List Int))(bo:Nat)
  (e1:was.getD (bo-1) []=wl) (e2:was.getD bo []=up) (yh:alike=true->up.length=bN wl.length 60):
  (ir alike m nl.length wl.length other)[i]?=some (em alike was nl bo i).isNone:=by
 unfold ir em;rw[auM,auN hi,auO,e1,e2]
 congr 1
 have hwr:∀ n∈aT wl i,0<=n/\n<4294967296:=fun n hn=>by
  obtain⟨k,rfl,_,h1,h2⟩:=hw n (List.mem_of_mem_drop (atN hn));omega
 have hnr:∀ n∈aT nl i,0<=n/\n<4294967296:=fun n hn=>by have:=hr n (List.mem_of_mem_drop (atN hn));omega
 by_cases ha:alike=true
 ·rw[ha,yh ha];by_cases aM:i<bN wl.length 60
  ·by_cases hg:aT nl i=aT wl i
   ·rw[atP ⟨rfl,aM,by rw[hg]⟩];have aU:min (nl.length-60*i) 60=min (wl.length-60*i) 60:=by
     have:=auZ List.length hg;rw[kg,kg]at this;omega
    have ai4:(dH other (60*i) 60).any id=false:=by
     rw[Bool.eq_false_iff];intro h;obtain⟨k,hk,cC⟩:=AJ.1 h;have Bq:=(atX.1 cC).1;rw[ho.len]at Bq;have h3:=ho.news (60*i+k) nl[60*i+k] cC (atI Bq);obtain⟨q,e,hq⟩:=h3;have h4:(aT nl i)[k]?=some nl[60*i+k]:=by rw[pD,AK _ _ _ _ hk,atI Bq]
     rw[hg]at h4;have h5:=atJ h4;obtain⟨q',e',hq',_⟩:=hw _ (List.mem_of_mem_drop (atN h5));rw[e]at e';have:q=q':=by omega
     subst this;rw[hq]at hq';cases hq'
    simp[aM,aU,ai4]
   ·rw[atR (fun h=>hg (Pf hnr hwr h.2.2))];simp only[Option.isNone_none,Bool.not_true,Bool.false_or,at5,aua];apply auG;intro lB;simp only[not_or]at lB;obtain⟨⟨_,h2⟩,h3⟩:=lB;apply hg;have aU:min (nl.length-60*i) 60=min (wl.length-60*i) 60:=auG h2;rw[pD,pD];apply List.ext_getElem?;intro k;by_cases hk:k<min (nl.length-60*i) 60
    ·rw[AK _ _ _ _ (by omega),AK _ _ _ _ (by omega)];have Td:60*i+k<other.length:=by rw[ho.len];omega
     cases hb:other[60*i+k]with
     |true=>exact absurd (AJ.2 ⟨k,by omega,by rw[atI Td,hb]⟩) h3
     |false=>exact(ho.stays _ (by rw[atI Td,hb])).1
    ·rw[auF (by rw[Jv];omega),auF (by rw[Jv];omega)]
  ·rw[atR (fun h=>aM h.2.1)];simp;omega
 ·have:alike=false:=by simpa using ha
  subst this;simp
theorem C5 {t t':gA}{stay:Nat->Option Int}{s:Nat->ay}{L wl:List Int}{o:List Bool}(hm:∀ i,i<o.length->o[i]?=some (stay i).isNone)(hl:L.length=o.length)(h:∀ j n,L[j]?=some n->nT t t' stay s (0+j) n)
  (hs:∀ i n,stay i=some n->wl[i]?=some n) (u:Pl) (hu:∀ n,ak u.used n=true->ak t.pool.used n=true):Pk u wl L o:=by
 refine⟨hl.symm,fun i hi=>?_,fun i n hi hn=>?_⟩
 ·have aM:=(atX.1 hi).1;rw[hm i aM]at hi;have hL:L[i]?=some L[i]:=atI (by omega);have:=h i _ hL;rw[auy]at this;unfold nT at this
  cases dr:stay i with
  |none=>rw[dr]at hi;simp at hi
  |some m=>
   rw[dr]at this;simp only at this;have h1:=hs i m dr;exact⟨by rw[hL,h1,this],(atX.1 h1).1⟩
 ·have aM:=(atX.1 hi).1;rw[hm i aM]at hi;have:=h i n hn;rw[auy]at this;unfold nT at this
  cases dr:stay i with
  |some m=>rw[dr]at hi;simp at hi
  |none=>
   rw[dr]at this;obtain⟨k,e,h1,_⟩:=this;refine⟨k,e,?_⟩
   cases hk:ak u.used k with
   |false=>rfl
   |true=>rw[hu k hk]at h1;cases h1
theorem oN {t t':gA}{k:Nat}(h:dg t t' k){n:Int}(hn:fE t.pool n):fE t'.pool n:=by
 obtain⟨m,e,h1,h2,h3⟩:=hn;exact⟨m,e,h.used m h1,h2,by rw[h.blocks];exact h3⟩
theorem pX (r:List Nat)(n w w':Nat)(o:List Bool):cW false r n w o=cW false r n w' o:=by
 induction r generalizing n w w' o with
 |nil=>rfl
 |cons m r ih=>
  have e:ir false m n w o=ir false m n w' o:=by simp[ir]
  simp only[cW,e];rw[ih]
theorem Yd (alike:Bool)(was:List (List Int))(u:Pl)(hub:u.blocks<=4096)(yJ:∀ l,∀ n∈was.getD l [],fE u n)(yh:alike=true->∀ l,l+1<was.length->(was.getD (l+1) []).length=bN (was.getD l []).length 60)(r:List Nat)(bo:Nat)(now:List Int)(t:gA)(ht:cE t.pool)(Ir:t.pool.blocks=u.blocks)(hu:∀ n,ak u.used n=true->ak t.pool.used n=true)
  (ahh:∀ n∈now,fE t.pool n) (other:List Bool) (ho:Pk u (was.getD bo []) now other)
  (ha:alike=true->was.length=bo+1+r.length)
  (hwp:∀ l i (n:Int),(was.getD (l+1) [])[i]?=some n->t.rd n=.ok (cL (aT (was.getD l []) i)))
  (wl:Nat) (Xi:alike=true->wl=(was.getD bo []).length) (hc:cW alike r now.length wl other<=t.pool.left):
  ∃ L t',qq alike was r (bo+1) now t=.ok (L,t')/\L.map List.length=r/\dg t t' (cW alike r now.length wl other)/\(∀ l∈L,∀ n∈l,fE t'.pool n/\((∃ j,n∈was.getD j [])\/∃ k:Nat,n=k/\ak u.used k=false))/\
   ∀ l i (n:Int),((now::L).getD (l+1) [])[i]?=some n->t'.rd n=.ok (cL (aT ((now::L).getD l []) i)):=by
 have aei:cW alike r now.length wl other=cW alike r now.length (was.getD bo []).length other:=by
  cases alike with
  |false=>exact pX _ _ _ _ _
  |true=>rw[Xi rfl]
 rw[aei]at hc ⊢;clear aei Xi
 induction r generalizing bo now t other wl with
 |nil=>
  refine⟨[],t,rfl,rfl,dg.refl ht,fun l hl=>by simp at hl,fun l i n hn=>by simp at hn⟩
 |cons m r ih=>
  have hr:∀ n∈now,1<=n/\n<4096:=fun n hn=>by
   obtain⟨k,rfl,_,h1,h2⟩:=ahh n hn;omega
  have adX:alike=true->(was.getD (bo+1) []).length=bN (was.getD bo []).length 60:=fun h=>yh h bo (by have:=ha h;simp at this;omega);have hov:∀ i,i<m->(ir alike m now.length (was.getD bo []).length other)[i]?=some (em alike was now (bo+1) i).isNone:=fun i hi=>
   TR ho (yJ bo) hr hub alike m i hi was (bo+1) rfl rfl adX
  have Td:(ir alike m now.length (was.getD bo []).length other).length=m:=by simp[ir]
  have j4:=C4 (em alike was now (bo+1)) (ir alike m now.length (was.getD bo []).length other) (fun i hi=>hov i (by omega));rw[Td]at j4;have hcu:cW alike (m::r) now.length (was.getD bo []).length other=l7 (ir alike m now.length (was.getD bo []).length other)+cW alike r m (bN (was.getD bo []).length 60) (ir alike m now.length (was.getD bo []).length other):=rfl;rw[hcu]at hc ⊢;obtain⟨L,t1,e1,h1,h2,h3⟩:=Pj (em alike was now (bo+1)) (fun i=>cL (aT now i)) m 0 t ht (by omega);rw[j4]at h2;have dr:∀ i n,em alike was now (bo+1) i=some n->(was.getD (bo+1) [])[i]?=some n/\cL (aT now i)=cL (aT (was.getD bo []) i):=by
   intro i n h;unfold em at h;split at h
   ·rename_i hh
    injection h with h;exact⟨by rw[<-h];exact getD_some hh.2.1,by simpa using hh.2.2⟩
   ·cases h
  have ahv:Pk u (was.getD (bo+1) []) L (ir alike m now.length (was.getD bo []).length other):=
   C5 (fun i hi=>hov i (by omega)) (by omega) h3 (fun i n h=>(dr i n h).1) u hu
  have Tf:∀ n∈L,fE t1.pool n/\((∃ j,n∈was.getD j [])\/∃ k:Nat,n=k/\ak u.used k=false):=by
   intro n hn;obtain⟨j,hj⟩:=au0 hn;have:=h3 j n hj;unfold nT at this
   cases hs:em alike was now (bo+1) (0+j)with
   |some q=>
    rw[hs]at this;simp only at this;subst this;obtain⟨k,e,a1,a2,a3⟩:=yJ (bo+1) n (atJ (dr _ _ hs).1);exact⟨⟨k,e,h2.used k (hu k a1),a2,by rw[h2.blocks,Ir];exact a3⟩,.inl ⟨bo+1,atJ (dr _ _ hs).1⟩⟩
   |none=>
    rw[hs]at this;obtain⟨k,e,a0,a2,a3,a4,_⟩:=this;refine⟨⟨k,e,a2,a3,by rw[h2.blocks];exact a4⟩,.inr ⟨k,e,?_⟩⟩
    cases hk:ak u.used k with
    |false=>rfl
    |true=>rw[hu k hk]at a0;cases a0
  have hL:∀ n∈L,fE t1.pool n:=fun n hn=>(Tf n hn).1;have ajB:cW alike r m (bN (was.getD bo []).length 60) (ir alike m now.length (was.getD bo []).length other)=cW alike r m (was.getD (bo+1) []).length (ir alike m now.length (was.getD bo []).length other):=by
   cases Ob:alike with
   |false=>exact pX _ _ _ _ _
   |true=>rw[adX Ob]
  rw[ajB]at hc ⊢;obtain⟨L2,t2,e2,g1,g2,g3,g4⟩:=ih (bo+1) L t1 h2.ok (h2.blocks.trans Ir) (fun n hn=>h2.used n (hu n hn)) hL _ ahv (fun h=>by have:=ha h;simp at this;omega)
   (fun l i n hn=>by
    obtain⟨k,e,a1,_⟩:=yJ (l+1) n (atJ hn);rw[e,h2.keepRd (hu k a1),<-e];exact hwp l i n hn) 0 (by rw[h1];have:=h2.left;omega)
  rw[h1]at g2;have g0:∀ i (n:Int),L[i]?=some n->t2.rd n=.ok (cL (aT now i)):=by
   intro i n hn;obtain⟨k,e,a1,_⟩:=hL n (atJ hn);rw[e,g2.keepRd a1,<-e];have:=h3 i n hn;unfold nT at this;rw[auy]at this
   cases hs:em alike was now (bo+1) i with
   |some q=>
    rw[hs]at this;simp only at this;subst this;obtain⟨b1,b2⟩:=dr _ _ hs;obtain⟨k,e,a1,_⟩:=yJ (bo+1) n (atJ b1);rw[e,h2.keepRd (hu k a1),<-e,hwp bo i n b1,b2]
   |none=>
    rw[hs]at this;obtain⟨k,_,_,_,_,_,a⟩:=this;exact a
  refine⟨L::L2,t2,?_,by simp[h1,g1],h2.trans g2,?_,?_⟩
  ·rw[qq,e1];simp only;rw[e2];rfl
  ·intro l hl n hn;rcases at9.1 hl with rfl|hl
   ·exact⟨oN g2 (hL n hn),(Tf n hn).2⟩
   ·exact g3 l hl n hn
  ·intro l i n hn
   cases l with
   |zero=>exact g0 i n (by simpa using hn)
   |succ l=>
    have:=g4 l i n (by simpa using hn);simpa using this
theorem Pm {t:gA}{bg data:ay}{was:List (List Int)}(ht:cE t.pool)(hw:eG t.rd bg was)(hu:∀ l∈was,∀ n∈l,fE t.pool n)(hs:data.length<=16384)(hh:bg.length<=16384)(hc:da bg data<=t.pool.left):
  ∃ nums t',ku bg data was t=.ok (nums,t')/\eG t'.rd data nums/\dg t t' (da bg data)/\(∀ l∈nums,∀ n∈l,fE t'.pool n)/\∀ n:Nat,(n:Int)∈nums.flatten->(n:Int)∈was.flatten\/ak t.pool.used n=false:=by
 have Xi:was.length=(au bg.length).length:=by rw[<-hw.shape];simp
 have Vi:∀ l,∀ n∈was.getD l [],fE t.pool n:=by
  intro l n hn;by_cases hl:l<was.length
  ·rw[List.getD,atI hl]at hn;exact hu _ (aum hl) n hn
  ·rw[List.getD,auF (by omega)]at hn;cases hn
 have IU:(was.getD 0 []).length=bN bg.length 240:=by
  rw[fO hw];rcases aK bg.length with⟨h0,e⟩|⟨h0,h2,e⟩|⟨_,_,e⟩|⟨_,e⟩<;>rw[e]
  ·rw[h0];rfl
  ·have h1:=(aJ (n:=bg.length) (each:=240) (k:=1) (by decide)).2 (by omega);have h3:=dG (n:=bg.length) (each:=240) (by decide);simp;omega
  all_goals rfl
 unfold ku da at*
 cases ib:au data.length with
 |nil=>
  rw[ib]at hc;have hd:data=[]:=by
   rcases aK data.length with⟨h0,_⟩|⟨_,_,e⟩|⟨_,_,e⟩|⟨_,e⟩
   ·exact auk.1 h0
   all_goals rw[e]at ib;cases ib
  subst hd;exact⟨[],t,rfl,⟨by rw[ib];rfl,fun i n h=>by simp at h,fun l i n h=>by simp at h,fun l h=>by simp at h⟩,dg.refl ht,fun l h=>by simp at h,fun n h=>by simp at h⟩
 |cons m r=>
  rw[ib]at hc;simp only at hc ⊢;have hm:m=bN data.length 240:=by
   rcases aK data.length with⟨h0,e⟩|⟨h0,h2,e⟩|⟨_,_,e⟩|⟨_,e⟩<;>rw[e]at ib
   ·cases ib
   ·have h1:=(aJ (n:=data.length) (each:=240) (k:=1) (by decide)).2 (by omega);have h3:=dG (n:=data.length) (each:=240) (by decide);injection ib;omega
   all_goals (injection ib;omega)
  have Td:(iW bg data).length=m:=by simp[iW,hm]
  have dr:∀ i,i<m->(iW bg data)[i]?=some (fS bg data was i).isNone:=by
   intro i hi;unfold iW fS;rw[auM,auN (by omega),auO];by_cases e:aN data i=aN bg i
   ·simp[e]
   ·simp[e,Ne.symm e]
  have j4:=C4 (fS bg data was) (iW bg data) (fun i hi=>dr i (by omega));rw[Td]at j4;obtain⟨L,t1,e1,h1,h2,h3⟩:=Pj (fS bg data was) (aN data) m 0 t ht (by omega);rw[j4]at h2;have xY:∀ i,i<m->240*i<data.length:=by
   intro i hi;have:=(aJ (n:=data.length) (each:=240) (k:=i) (by decide))
   omega
  have hsy:∀ i n,i<m->fS bg data was i=some n->(was.getD 0 [])[i]?=some n/\aN data i=aN bg i:=by
   intro i n hi h;unfold fS at h;split at h
   ·rename_i e
    injection h with h;have aM:i<(was.getD 0 []).length:=by
     rw[IU];have:=auZ List.length e;rw[ke,ke]at this;have:=xY i hi;have:=(aJ (n:=bg.length) (each:=240) (k:=i) (by decide))
     omega
    exact⟨by rw[<-h];exact getD_some aM,e⟩
   ·cases h
  have hov:Pk t.pool (was.getD 0 []) L (iW bg data):=by
   refine C5 (stay:=fun i=>if i<m then fS bg data was i else none) (s:=aN data) (t:=t) (t':=t1) (fun i hi=>by rw[Td]at hi;simp only[hi,atP];exact dr i hi) (by omega) (fun j n hn=>?_) (fun i n h=>?_) t.pool (fun _ h=>h)
   ·have hj:=(atX.1 hn).1;have:=h3 j n hn;unfold nT at this ⊢;rw[auy]at this ⊢;simp only[show j<m by omega,atP];exact this
   ·by_cases hi:i<m
    ·rw[atP hi]at h;exact(hsy i n hi h).1
    ·rw[atR hi]at h;cases h
  have Tf:∀ n∈L,fE t1.pool n/\((∃ j,n∈was.getD j [])\/∃ k:Nat,n=k/\ak t.pool.used k=false):=by
   intro n hn;obtain⟨j,hj⟩:=au0 hn;have hjm:=(atX.1 hj).1;have:=h3 j n hj;unfold nT at this;rw[auy]at this
   cases hs:fS bg data was j with
   |some q=>
    rw[hs]at this;simp only at this;subst this;have hm:=atJ (hsy j n (by omega) hs).1;exact⟨oN h2 (Vi 0 n hm),.inl ⟨0,hm⟩⟩
   |none=>
    rw[hs]at this;obtain⟨k,e,a0,a2,a3,a4,_⟩:=this;exact⟨⟨k,e,a2,a3,by rw[h2.blocks];exact a4⟩,.inr ⟨k,e,a0⟩⟩
  have hL:∀ n∈L,fE t1.pool n:=fun n hn=>(Tf n hn).1;have Zu:(was.length==r.length+1)=((au bg.length).length==(m::r).length):=by rw[Xi];simp
  rw[Zu];have adn:∀ l,l+1<was.length->(was.getD (l+1) []).length=bN (was.getD l []).length 60:=by
   intro l hl;rw[fO hw,fO hw];rw[Xi]at hl;rcases aK bg.length with⟨h0,e⟩|⟨h0,h2,e⟩|⟨h0,h2,e⟩|⟨h0,e⟩<;>rw[e]at hl ⊢
   ·simp at hl
   ·simp at hl
   ·obtain rfl:l=0:=by simp at hl;omega
    have h1:=(aJ (n:=bg.length) (each:=240) (k:=60) (by decide)).2 (by omega);have h3:=dG (n:=bg.length) (each:=240) (by decide);have h4:=dG (n:=bN bg.length 240) (each:=60) (by decide);have h5:=(aJ (n:=bN bg.length 240) (each:=60) (k:=1) (by decide)).2 (by omega);simp;omega
   ·rcases l with _|_|l
    ·rfl
    ·have h1:=(aJ (n:=bg.length) (each:=240) (k:=69) (by decide)).2 (by omega);have h6:=(aJ (n:=bg.length) (each:=240) (k:=60) (by decide))
     have h3:=(aJ (n:=bN bg.length 240) (each:=60) (k:=2) (by decide)).2 (by omega);have h7:=(dG (n:=bN bg.length 240) (each:=60) (by decide))
     have h4:=dG (n:=bN (bN bg.length 240) 60) (each:=60) (by decide);have h5:=(aJ (n:=bN (bN bg.length 240) 60) (each:=60) (k:=1) (by decide)).2 (by omega);simp;omega
    ·simp at hl;omega
  obtain⟨L2,t2,e2,g1,g2,g3,g4⟩:=Yd ((au bg.length).length==(m::r).length) was t.pool ht.most Vi (fun _=>adn) r 0 L t1 h2.ok h2.blocks (fun n hn=>h2.used n hn) hL (iW bg data) hov (fun h=>by simp at h;omega)
   (fun l i n hn=>by
    obtain⟨k,e,a1,_⟩:=Vi (l+1) n (atJ hn);rw[e,h2.keepRd a1,<-e];exact hw.ptr l i n hn) (bN bg.length 240) (fun _=>IU.symm) (by rw[h1];have:=h2.left;omega)
  rw[h1]at g2;have nM:∀ l∈L::L2,∀ n∈l,fE t2.pool n:=by
   intro l hl n hn;rcases at9.1 hl with rfl|hl
   ·exact oN g2 (hL n hn)
   ·exact(g3 l hl n hn).1
  have acM:∀ n:Nat,(n:Int)∈(L::L2).flatten->(n:Int)∈was.flatten\/ak t.pool.used n=false:=by
   intro n hn;obtain⟨l,hl,hm⟩:=List.mem_flatten.1 hn;have:(∃ j,(n:Int)∈was.getD j [])\/∃ k:Nat,(n:Int)=k/\ak t.pool.used k=false:=by
    rcases at9.1 hl with rfl|hl
    ·exact(Tf _ hm).2
    ·exact(g3 l hl _ hm).2
   rcases this with⟨j,hj⟩|⟨k,e,hk⟩
   ·left
    by_cases hl:j<was.length
    ·rw[List.getD,atI hl]at hj;exact List.mem_flatten.2 ⟨_,aum hl,hj⟩
    ·rw[List.getD,auF (by omega)]at hj;cases hj
   ·right
    have:n=k:=by omega
    subst this;exact hk
  refine⟨L::L2,t2,?_,⟨?_,?_,g4,?_⟩,h2.trans g2,nM,acM⟩
  ·rw[e1];simp only;rw[e2];rfl
  ·rw[atF,h1,g1,ib]
  ·intro i n hn;simp only[List.getD_cons_zero]at hn;obtain⟨k,e,a1,_⟩:=hL n (atJ hn);rw[e,g2.keepRd a1,<-e];have hjm:=(atX.1 hn).1;have:=h3 i n hn;unfold nT at this;rw[auy]at this
   cases hs:fS bg data was i with
   |some q=>
    rw[hs]at this;simp only at this;subst this;obtain⟨b1,b2⟩:=hsy i n (by omega) hs;obtain⟨k,e,a1,_⟩:=Vi 0 n (atJ b1);rw[e,h2.keepRd a1,<-e,hw.chunk i n b1,b2]
   |none=>
    rw[hs]at this;obtain⟨k,_,_,_,_,_,a⟩:=this;exact a
  ·intro l hl n hn;obtain⟨k,e,_,a1,a2⟩:=nM l hl n hn;have:=g2.ok.most;omega
theorem KY {t:gA}{bg data:ay}{was:List (List Int)}(ht:cE t.pool)(hw:eG t.rd bg was)(hu:∀ l∈was,∀ n∈l,fE t.pool n)(hs:data.length<=16384)(hh:bg.length<=16384)(hc:da bg data<=t.pool.left):
  ∃ nums t',dE t (dp bg was) data=.ok (dp data nums,t')/\eG t'.rd data nums/\dg t t' (da bg data)/\(∀ l∈nums,∀ n∈l,fE t'.pool n)/\∀ n:Nat,(n:Int)∈nums.flatten->(n:Int)∈was.flatten\/ak t.pool.used n=false:=by
 obtain⟨nums,t',e,h1,h2,h3,h4⟩:=Pm ht hw hu hs hh hc;obtain⟨o,e1,e2,_⟩:=kJ hw hh true;refine⟨nums,t',?_,h1,h2,h3,h4⟩;unfold dE;rw[atR (by omega),e1];simp only[↓reduceIte];rw[e2,e];rfl
structure fF where
 num:Int
 dir:Bool
 links:Int
 blob:fR
structure Sn where
 name:ay
 id:Int
 plane:Int
 table:fR
def yt (b:fR):ay:=aO b.root.toNat++aO b.size.toNat
def nU (x:fF):ay:=aO x.num.toNat++aO (if x.dir=true then 1 else 0)++aO x.links.toNat++yt x.blob
def jT (l:List fF):ay:=aO l.length++l.flatMap nU
def oO (x:Sn):ay:=aO x.name.length++x.name++aO x.id.toNat++aO x.plane.toNat++yt x.table
def jU (l:List Sn):ay:=aO l.length++l.flatMap oO
def fR.ok (b:fR):Bool:=b.may&&decide (0<=b.root)&&decide (b.root<4096)
def yu (was:Int):List fF->Bool
 |[]=>true
 |x::r=>decide (was<x.num)&&decide (x.num<=65535)&&decide (1<=x.links)&&decide (x.links<=65535)&&x.blob.ok&&yu x.num r
def qB (l:List fF):Bool:=decide (l.length<=4096)&&yu 0 l
def SI (was:Int):List Sn->Bool
 |[]=>true
 |x::r=>aH x.name&&decide (was<x.id)&&decide (x.id<=1099511627776)&&decide (1<=x.plane)&&decide (x.plane<=7)&&x.table.ok&&SI x.id r
def zo (l:List Sn):Bool:=decide (l.length<=4096)&&SI 0 l
def gW (planes:List ay)(blocks:Nat):ay:=(List.range blocks).map fun b=>UInt8.ofNat ((List.range 8).foldl (fun a p=>if ak (planes.getD p []) b then a+2 ^ p else a) 0)
def cV (planes:List ay):ay:=planes.foldl d6 []
def aQ (size:Nat):Nat:=(au size).sum
structure iX where
 table:fR
 snaps:fR
 mapped:fR
 next:Nat
 id:Nat
 inodes:List fF
 list:List Sn
 planes:List ay
 nodes:List Nt
structure Vs where
 rd:Rd
 blocks:Nat
 num:Nat
 b:iX
 T:Tr
 recs:List ay
 half:Nat
def dI (rd:Rd)(set:ay)(b:fR):Except Int ay:=match ox rd b with
 | .error e=>.error e
 | .ok l=>if l.all (fun n=>decide (0<=n)&&decide (n<=65535))=true then .ok (d6 set (iE (l.map Int.toNat)))else .error 150
def dX (l:List fF)(num:Int):fR:=match (l.filter fun x=>x.num==num).getLast? with
 |some x=>x.blob
 |none=>⟨0,0⟩
def mt (was:List fF):List Nt->ay->gA->Except Int (List fF×ay×gA)
 |[],set,t=>.ok ([],set,t)
 |x::r,set,t=>match dE t (dX was x.num) x.data with
  | .error e=>.error e
  | .ok (b,t1)=>match dI t1.rd set b with
   | .error e=>.error e
   | .ok s=>(mt was r s t1).map fun o=>(⟨x.num,x.dir,x.links,b⟩::o.1,o.2)
def aV (l:List Sn):Nat:=((List.range' 1 8).find? fun(p:Nat)=>!l.any fun x=>x.plane==(p:Int)).getD 0
def oP:Nat->Pl->Except Int Pl
 |0,p=>.ok p
 |k+1,p=>match p.take with
  | .error e=>.error e
  | .ok (_,q)=>oP k q
def fU (b:iX):ay:=yt b.table++yt b.snaps++yt b.mapped++aO b.next++aO b.id
def kL (planes:List ay)(l:List Sn):List ay:=(List.range 8).map fun(p:Nat)=>if p=0\/l.any (fun x=>x.plane==(p:Int))=true then planes.getD p []else []
def bB (v:Vs)(list:List Sn)(more:ay):Except Int Vs:=do
 let p:=gm (cV v.b.planes) v.blocks v.b.next
 let (inos,set,t1) <-mt v.b.inodes (ar v.T) [] ⟨v.rd,p⟩
 let (table,t2) <-dE t1 v.b.table (jT inos)
 let set1 <-dI t2.rd set table
 let Fg:=kL v.b.planes list
 let x:Sn:=⟨more,v.b.id,aV list,table⟩
 let l2:=if more=[]then list else list++[x]
 let pl2:=if more=[]then Fg else Fg.set (aV list) (d6 set1 [])
 let (snaps,t3) <-dE t2 v.b.snaps (jU l2)
 let set2 <-dI t3.rd set1 snaps
 let p4 <-oP (aQ v.blocks) t3.pool
 let own:=bK p4.taken t3.pool.taken
 let pl3:=pl2.set 0 (d6 (d6 set2 own) [])
 let q:=gm (bK (iE (List.range v.blocks)) own) v.blocks t3.pool.next
 let (mapped,t5) <-dE ⟨t3.rd,q⟩ ⟨0,0⟩ (gW pl3 v.blocks)
 .ok { v with rd:=t5.rd,num:=v.num+1,recs:=[],b:=⟨table,snaps,mapped,p4.next,if more=[]then v.b.id else v.b.id+1,inos,l2,pl3,ar v.T⟩ }
def cF (l:List Nt)(num:Int):ay:=match (l.filter fun x=>x.num==num).getLast? with
 |some x=>x.data
 |none=>[]
def bL (v:Vs):Nat:=aQ v.blocks
def bF (v:Vs)(l:List Nt):Nat:=bL v+1+(l.map fun x=>da (cF v.b.nodes x.num) x.data).sum+(if l=v.b.nodes then 0 else aQ (2+12*l.length))
def cR (v:Vs)(kind:Int):Nat:=if kind=8 then 0 else if kind=3\/kind=6 then bL v+2 else 2*bL v+16
def dh (v:Vs):Nat:=kK (cV v.b.planes) v.blocks
def lq (l:List ay):ay:=l.flatMap fun r=>[UInt8.ofNat (r.length%256),UInt8.ofNat (r.length/256%256)]++r
def cG (v:Vs):Nat:=v.half-(lq v.recs).length
def oQ (v:Vs)(T:Tr)(kind:Int):Except Int (Bool×Vs):=
 if bF v (ar T)+cR v kind<=dh v then .ok (true,v)else
  (if ar v.T=v.b.nodes then .ok v else bB v v.b.list []).map fun u=>(decide (bF u (ar T)+cR u kind<=dh u),u)
def dw (v:Vs)(name:ay):Option Nat:=v.b.list.findIdx? fun x=>x.name==name
def od (v:Vs)(c:bT):Except Int Tr:=
 if c.kind=7/\(dw v c.path).isSome=true then .error 161 else
 if c.kind=7/\(7<=v.b.list.length\/1099511627777<=v.b.id)then .error 163 else
 if c.kind=8/\(dw v c.path).isSome=false then .error 162 else
 if c.kind=7\/c.kind=8 then .ok v.T else
  if(qy v.T c).2=0 then .ok (qy v.T c).1 else .error (qy v.T c).2
end Go.Proofs.YtkghpdcloaiflaaGreatDoor
