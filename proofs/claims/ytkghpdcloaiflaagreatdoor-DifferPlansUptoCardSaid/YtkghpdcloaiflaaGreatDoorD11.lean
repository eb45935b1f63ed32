import Derived.Test.YtkghpdcloaiflaaGreatDoorD02
namespace Go.Proofs.YtkghpdcloaiflaaGreatDoor
open _root_.Go.Proofs.Tryz
section
theorem UC (n:Int):(WZ n).length=4:=rfl
theorem rR (l:List Int):(cM l).length=4*l.length:=by
 induction l with
 |nil=>rfl
 |cons a l ih=>simp only[cM,avs,au3,auL]at *;rw[ih,UC];omega
theorem th (l:List Int)(h:∀ n∈l,0<=n/\n<4294967296):cr (cM l)=l:=by
 induction l with
 |nil=>rfl
 |cons a l ih=>
  have h1:=h a (by simp);have h2:=ih fun n hn=>h n (by simp[hn]);have e:cM (a::l)=WZ a++cM l:=rfl;rw[e];unfold WZ;simp only[avr,avk,cr];rw[h2]
  congr 1
  simp only[UInt8.toNat_ofNat'];omega
theorem PQ {a b:List Int}(ha:∀ n∈a,0<=n/\n<4294967296)(hb:∀ n∈b,0<=n/\n<4294967296)(h:cM a=cM b):a=b:=by
 rw[<-th a ha,<-th b hb,h]
theorem aL {n each k:Nat}(he:0<each):bN n each<=k↔n<=k*each:=by
 unfold bN;rw[<-Nat.lt_succ_iff,Nat.div_lt_iff_lt_mul he,Nat.succ_mul];omega
theorem dM {n each:Nat}(he:0<each):bN n each=0↔n=0:=by
 have:=aL (n:=n) (each:=each) (k:=0) he;omega
theorem aN (size:Nat):(size=0/\au size=[])\/(0<size/\size<=240/\au size=[1])\/(240<size/\size<=14400/\au size=[bN size 240,1])\/(14400<size/\au size=[bN size 240,bN (bN size 240) 60,1]):=by
 have h0:=dM (n:=size) (each:=240) (by decide);have h1:=aL (n:=size) (each:=240) (k:=1) (by decide);have h2:=aL (n:=size) (each:=240) (k:=60) (by decide);unfold au;simp only;by_cases e0:bN size 240=0
 ·exact .inl ⟨h0.1 e0,by rw[auT e0]⟩
 ·rw[auV e0];by_cases e1:bN size 240=1
  ·exact .inr (.inl ⟨by omega,by omega,by rw[auT e1]⟩)
  ·rw[auV e1];by_cases e2:bN size 240<=60
   ·exact .inr (.inr (.inl ⟨by omega,by omega,by rw[auT e2]⟩))
   ·exact .inr (.inr (.inr ⟨by omega,by rw[auV e2]⟩))
theorem jc (s:ay)(i:Nat):(aO s i).length=min (s.length-i*240) 240:=by
 simp[aO];omega
theorem jd (l:List Int)(i:Nat):(aV l i).length=min (l.length-i*60) 60:=by
 simp[aV];omega
structure eC (rd:Rd)(data:ay)(nums:List (List Int)):Prop where
 shape:nums.map List.length=au data.length
 chunk:∀ i (n:Int),(nums.getD 0 [])[i]?=some n->rd n=.ok (aO data i)
 ptr:∀ l i (n:Int),(nums.getD (l+1) [])[i]?=some n->rd n=.ok (cM (aV (nums.getD l []) i))
 range:∀ l∈nums,∀ n∈l,1<=n/\n<4096
def dN {α:Type}(l:List α)(a n:Nat):List α:=(l.drop a).take n
theorem wA {α:Type}(l:List α)(a n m:Nat):dN l a n++dN l (a+n) m=dN l a (n+m):=by
 unfold dN;rw[<-List.drop_drop,<-List.take_add]
theorem Dr {α:Type}{l:List α}{a:Nat}{x:α}(h:l[a]?=some x)(m:Nat):dN l a (m+1)=x::dN l (a+1) m:=by
 obtain⟨hl,e⟩:=au0.1 h;unfold dN;rw[List.drop_eq_getElem_cons hl,avz,e]
theorem JP {α:Type}{l:List α}{a:Nat}{x:α}(h:l[a]?=some x):dN l a 1=[x]:=by rw[Dr h];simp[dN]
theorem A6 {α:Type}{l:List α}{a:Nat}(h:l.length<=a)(m:Nat):dN l a m=[]:=by
 unfold dN;rw[List.drop_of_length_le h,List.take_nil]
theorem pQ (l:List Int)(i:Nat):aV l i=dN l (60*i) 60:=by unfold aV dN;rw[Nat.mul_comm]
theorem Lr (s:ay)(i:Nat):aO s i=dN s (240*i) 240:=by unfold aO dN;rw[Nat.mul_comm]
theorem oY (a b:List (Nat×Int))(l:Nat):bJ (a++b) l=bJ a l++bJ b l:=by simp[bJ]
section
variable {rd:Rd}{ch:Bool}{data:ay}{nums:List (List Int)}
theorem fV (h:eC rd data nums)(l:Nat):(nums.getD l []).length=(au data.length).getD l 0:=by
 rw[<-h.shape];simp only[List.getD,avM];cases nums[l]?<;>rfl
theorem mE (h:eC rd data nums){l i:Nat}{n:Int}(hn:(nums.getD l [])[i]?=some n):1<=n/\n<4096:=by
 have hm:=auN hn;by_cases hl:l<nums.length
 ·rw[List.getD,auM hl]at hm;exact h.range _ (avl hl) _ hm
 ·rw[List.getD,avF (by omega)]at hm;cases hm
theorem oZ (size l:Nat)(hs:size<=16384)(hl:l<(au size).length):size<=240*60 ^ l*(au size).getD l 0/\∀ j,j<l->(au size).getD j 0<=60 ^ (l-j)*(au size).getD l 0:=by
 have hu:=(aL (n:=size) (each:=240) (k:=bN size 240) (by decide)).1 (auP _);have hv:=(aL (n:=bN size 240) (each:=60) (k:=bN (bN size 240) 60) (by decide)).1 (auP _);rcases aN size with⟨_,e⟩|⟨_,h2,e⟩|⟨_,h2,e⟩|⟨_,e⟩<;>rw[e]at hl ⊢
 ·simp at hl
 ·obtain rfl:l=0:=by simp at hl;omega
  exact⟨by simp;omega,fun j h=>by omega⟩
 ·have hk:=(aL (n:=size) (each:=240) (k:=60) (by decide)).2 (by omega);rcases l with _|_|l
  ·exact⟨by simp;omega,fun j h=>by omega⟩
  ·refine⟨by simp;omega,fun j h=>?_⟩;obtain rfl:j=0:=by omega
   simp;omega
  ·simp at hl;omega
 ·have hk:=(aL (n:=size) (each:=240) (k:=69) (by decide)).2 (by omega);have df:=(aL (n:=bN size 240) (each:=60) (k:=2) (by decide)).2 (by omega);rcases l with _|_|_|l
  ·exact⟨by simp;omega,fun j h=>by omega⟩
  ·refine⟨by simp;omega,fun j h=>?_⟩;obtain rfl:j=0:=by omega
   simp;omega
  ·refine⟨by simp;omega,fun j h=>?_⟩;rcases j with _|_|j
   ·simp;omega
   ·simp;omega
   ·omega
  ·simp at hl;omega
def GL (ch:Bool)(data:ay)(nums:List (List Int))(l i m:Nat)(r:Except Int rx):Prop:=
 ∃ o,r=.ok (o,if ch=true then dN data (240*60 ^ l*i) (240*60 ^ l*m)else [])/\∀ j,bJ o j=if j<=l then dN (nums.getD j []) (60 ^ (l-j)*i) (60 ^ (l-j)*m)else []
theorem UD (h:eC rd data nums)(hs:data.length<=16384)(l:Nat)(hl:l<nums.length)(hf:∀ i (n:Int),(nums.getD l [])[i]?=some n->GL ch data nums l i 1 (oa rd ch data.length l i n))(m i:Nat):
  GL ch data nums l i m (cK (oa rd ch data.length l) i (dN (nums.getD l []) i m)):=by
 have hn:=fV h;have gy:l<(au data.length).length:=by rw[<-h.shape];simpa using hl
 obtain⟨hc,hj⟩:=oZ data.length l hs gy
 induction m generalizing i with
 |zero=>
  refine⟨[],?_,fun j=>?_⟩
  ·simp[dN,cK]
  ·simp[dN,bJ]
 |succ m ih=>
  cases hx:(nums.getD l [])[i]? with
  |none=>
   have hi:(au data.length).getD l 0<=i:=by rw[<-hn];exact List.getElem?_eq_none_iff.1 hx
   rw[A6 (by rw[hn];exact hi)];refine⟨[],?_,fun j=>?_⟩
   ·have:data.length<=240*60 ^ l*i:=auI hc (avd _ hi);rw[A6 this];simp[cK]
   ·split
    ·rename_i CD
     have:(nums.getD j []).length<=60 ^ (l-j)*i:=by
      rw[hn];rcases Nat.lt_or_eq_of_le CD with h1|rfl
      ·exact auI (hj j h1) (avd _ hi)
      ·simpa using hi
     rw[A6 this];rfl
    ·rfl
  |some n=>
   obtain⟨o,e,ho⟩:=hf i n hx;obtain⟨o',e',Fs⟩:=ih (i+1);rw[Dr hx,cK,e];simp only;rw[e'];refine⟨o++o',?_,fun j=>?_⟩
   ·simp only
    congr 2
    split
    ·rw[show 240*60 ^ l*(i+1)=240*60 ^ l*i+240*60 ^ l*1 by rw[Nat.mul_add],wA,<-Nat.mul_add,Nat.add_comm 1 m]
    ·rfl
   ·rw[oY,ho,Fs];split
    ·rw[show 60 ^ (l-j)*(i+1)=60 ^ (l-j)*i+60 ^ (l-j)*1 by rw[Nat.mul_add],wA,<-Nat.mul_add,Nat.add_comm 1 m]
    ·rfl
theorem UE (h:eC rd data nums)(hs:data.length<=16384)(l:Nat)(hl:l<nums.length):∀ i (n:Int),(nums.getD l [])[i]?=some n->GL ch data nums l i 1 (oa rd ch data.length l i n):=by
 induction l with
 |zero=>
  intro i n hx;have hr:=h.chunk i n hx;have hp:=jc data i;refine⟨[(0,n)],?_,fun j=>?_⟩
  ·unfold oa
   cases ch with
   |false=>simp
   |true=>
    simp only[↓reduceIte,hr];rw[auV (by rw[hp];omega),Lr]
  ·cases j with
   |zero=>rw[auT (auP 0)];simp only[Nat.sub_zero,Nat.pow_zero,Nat.one_mul];rw[JP hx];rfl
   |succ j=>simp[bJ]
 |succ l ih=>
  intro i n hx;have hr:=h.ptr l i n hx;have hg:=jd (nums.getD l []) i;have hp:cr (cM (aV (nums.getD l []) i))=aV (nums.getD l []) i:=th _ fun k hk=>by
   obtain⟨q,hq⟩:=av1 (List.mem_of_mem_drop (auR hk));have:=mE h hq;omega
  obtain⟨o,e,ho⟩:=UD (ch:=ch) h hs l (by omega) (ih (by omega)) 60 (60*i);rw[oa,hr];simp only[rR];rw[auV (by rw[hg,fV h];omega),hp,pQ,e];refine⟨(l+1,n)::o,?_,fun j=>?_⟩
  ·simp only;rw[show 240*60 ^ l*(60*i)=240*60 ^ (l+1)*i by rw[ave];simp[av2],show 240*60 ^ l*60=240*60 ^ (l+1)*1 by rw[ave];simp[av2]]
  ·have e1:bJ ((l+1,n)::o) j=(if l+1=j then [n]else [])++bJ o j:=by
    unfold bJ;rw[avY];by_cases hj:l+1=j<;>simp[hj]
   rw[e1,ho];by_cases h1:j<=l
   ·rw[auV (by omega),auT h1,auT (by omega),avk];rw[show l+1-j=(l-j)+1 by omega,ave,av2,av2]
   ·rw[auV h1];by_cases h2:l+1=j
    ·subst h2;rw[auT rfl,auT (by omega)];simp only[Nat.sub_self,Nat.pow_zero,Nat.one_mul];rw[JP hx];rfl
    ·rw[auV h2,auV (by omega)];rfl
theorem Ds (ch:Bool)(rd:Rd)(size l i:Nat)(n:Int)(o:rx)(h:oa rd ch size l i n=.ok o):∀ x∈o.1,x.1<=l:=by
 induction l generalizing i n o with
 |zero=>
  unfold oa at h;split at h
  ·cases hr:rd n with
   |error e=>rw[hr]at h;cases h
   |ok s=>
    rw[hr]at h;simp only at h;split at h
    ·cases h
    ·injection h with h;subst h;simp
  ·injection h with h;subst h;simp
 |succ l ih=>
  rw[oa]at h
  cases hr:rd n with
  |error e=>rw[hr]at h;cases h
  |ok s=>
   rw[hr]at h;simp only at h;split at h
   ·cases h
   ·cases hk:cK (oa rd ch size l) (60*i) (cr s)with
    |error e=>rw[hk]at h;cases h
    |ok p=>
     rw[hk]at h;injection h with h;subst h;have key:∀(L:List Int) c (q:rx),cK (oa rd ch size l) c L=.ok q->∀ x∈q.1,x.1<=l:=by
      intro L
      induction L with
      |nil=>intro c q hq;rw[cK]at hq;injection hq with hq;subst hq;simp
      |cons a L ihL=>
       intro c q hq;rw[cK]at hq
       cases ha:oa rd ch size l c a with
       |error e=>rw[ha]at hq;cases hq
       |ok u=>
        rw[ha]at hq;simp only at hq
        cases hb:cK (oa rd ch size l) (c+1) L with
        |error e=>rw[hb]at hq;cases hq
        |ok v=>
         rw[hb]at hq;injection hq with hq;subst hq;intro x hx;rcases avP.1 hx with hx|hx
         ·exact ih _ _ _ ha x hx
         ·exact ihL _ _ hb x hx
     intro x hx;rcases au8.1 hx with rfl|hx
     ·exact auP _
     ·have:=key _ _ _ hk x hx;omega
theorem Lt (o:List (Nat×Int))(n:Int):n∈dS o↔∃ l,n∈bJ o l:=by
 unfold dS bJ;simp only[avh,auH,avq]
 constructor
 ·rintro⟨x,hx,rfl⟩;exact⟨x.1,x,⟨hx,rfl⟩,rfl⟩
 ·rintro⟨l,x,⟨hx,_⟩,rfl⟩;exact⟨x,hx,rfl⟩
def dx (data:ay)(nums:List (List Int)):fQ:=if data.length=0 then⟨0,0⟩else⟨iO nums,data.length⟩
theorem JQ (size:Nat)(h:0<size)(hs:size<=16384):0<(au size).length/\(au size).getD ((au size).length-1) 0=1:=by
 rcases aN size with⟨_,e⟩|⟨_,h2,e⟩|⟨_,h2,e⟩|⟨_,e⟩<;>rw[e]
 ·omega
 all_goals simp
theorem pR (h:eC rd data nums)(h0:0<data.length)(hs:data.length<=16384):0<nums.length/\nums.getD (nums.length-1) []=[iO nums]/\1<=iO nums/\iO nums<4096:=by
 obtain⟨h1,h2⟩:=JQ _ h0 hs;have hl:nums.length=(au data.length).length:=by rw[<-h.shape];simp
 have hn:=fV h (nums.length-1);rw[hl,h2,<-hl]at hn;have e1:nums.getLastD []=nums.getD (nums.length-1) []:=by
  rcases List.eq_nil_or_concat nums with rfl|⟨r,x,rfl⟩
  ·rfl
  ·simp
 obtain⟨a,ha⟩:∃ a,nums.getD (nums.length-1) []=[a]:=List.length_eq_one_iff.1 hn;have e2:iO nums=a:=by unfold iO;rw[e1,ha];rfl
 refine⟨by omega,by rw[ha,e2],?_⟩;rw[e2];exact mE h (l:=nums.length-1) (i:=0) (by rw[ha];rfl)
theorem qO (h:eC rd data nums)(hs:data.length<=16384):(dx data nums).may=true:=by
 unfold dx fQ.may;split
 ·rfl
 ·have:=pR h (by omega) hs;have e1:decide (iO nums=0)=false:=auU (by omega);have e2:decide ((data.length:Int)=0)=false:=auU (by omega);simp only[e1,e2,au4,au9];exact⟨⟨by omega,by omega⟩,rfl⟩
theorem kU (h:eC rd data nums)(hs:data.length<=16384)(ch:Bool):
  ∃ o,em rd (dx data nums) ch=.ok (o,if ch=true then data else [])/\oc (dx data nums) o=nums/\∀ n,n∈dS o↔n∈nums.flatten:=by
 unfold em;rw[qO h hs,auV (by decide)];by_cases h0:data.length=0
 ·have hn:nums=[]:=by
   have:=h.shape;rw[h0]at this;exact List.map_eq_nil_iff.1 this
  have hd:data=[]:=avj.1 h0;subst hn hd;exact⟨[],by simp[dx],by simp[oc,dx,au,bN],by simp[dS]⟩
 ·obtain⟨h1,h2,h3,h4⟩:=pR h (by omega) hs;have hl:nums.length=(au data.length).length:=by rw[<-h.shape];simp
  have eb:dx data nums=⟨iO nums,data.length⟩:=by unfold dx;rw[auV h0]
  rw[eb];simp only[avn];rw[auV (by omega),<-hl];obtain⟨o,e,ho⟩:=UE (ch:=ch) h hs (nums.length-1) (by omega) 0 (iO nums) (by rw[h2];rfl);have hc:=oZ data.length (nums.length-1) hs (by omega);rw[<-fV h,h2]at hc;simp only[List.length_singleton,Nat.mul_one]at hc;have aaY:∀ j,j<nums.length->bJ o j=nums.getD j []:=by
   intro j hj;rw[ho,auT (by omega),Nat.mul_zero,Nat.mul_one];have:(nums.getD j []).length<=60 ^ (nums.length-1-j):=by
    rw[fV h];rcases Nat.lt_or_eq_of_le (show j<=nums.length-1 by omega)with aK|rfl
    ·exact hc.2 j aK
    ·rw[<-fV h,h2];simp
   unfold dN;rw[avC,avx this]
  refine⟨o,?_,?_,fun n=>?_⟩
  ·rw[e]
   congr 2
   split
   ·unfold dN;rw[Nat.mul_zero,Nat.mul_one,avC,avx hc.1]
   ·rfl
  ·unfold oc;simp only[avn];rw[<-hl];apply List.ext_getElem?;intro j;by_cases hj:j<nums.length
   ·simp only[avM,avN hj,avO,aaY j hj,List.getD,auM hj,avm]
   ·rw[avF (by simp;omega),avF (by omega)]
  ·rw[Lt,List.mem_flatten]
   constructor
   ·rintro⟨j,hj⟩;have FH:j<=nums.length-1:=by
     obtain⟨x,hx,rfl⟩:=avh.1 hj;have:=(auH.1 hx)
     have h5:=Ds _ _ _ _ _ _ _ e x this.1;have:x.1=j:=by simpa using this.2
     omega
    rw[aaY j (by omega)]at hj;refine⟨_,?_,hj⟩;rw[List.getD,auM (by omega:j<nums.length)];exact avl _
   ·rintro⟨l,vq,hn⟩;obtain⟨j,hj,rfl⟩:=List.getElem_of_mem vq;refine⟨j,?_⟩;rw[aaY j hj,List.getD,auM hj];exact hn
theorem PV (h:eC rd data nums)(hs:data.length<=16384):∃ o,oK rd (dx data nums)=.ok o/\∀ n,n∈o↔n∈nums.flatten:=by
 obtain⟨o,e,_,ho⟩:=kU h hs false;exact⟨_,by unfold oK;rw[e];rfl,ho⟩
end
end
end Go.Proofs.YtkghpdcloaiflaaGreatDoor
