import Derived.Test.YtkghpdcloaiflaaGreatDoorB02
namespace Go.Proofs.YtkghpdcloaiflaaGreatDoor
open _root_.Go.Proofs.Tryz
section
theorem Ut (n:Int):(WV n).length=4:=rfl
theorem wh (l:List Int):(cM l).length=4*l.length:=by
 induction l with
 |nil=>rfl
 |cons a l ih=>simp only[cM,avH,avi,au0]at *;rw[ih,Ut];omega
theorem sW (l:List Int)(h:∀ n∈l,0<=n/\n<4294967296):cq (cM l)=l:=by
 induction l with
 |nil=>rfl
 |cons a l ih=>
  have h1:=h a (by simp);have h2:=ih fun n hn=>h n (by simp[hn]);have e:cM (a::l)=WV a++cM l:=rfl;rw[e];unfold WV;simp only[avG,avA,cq];rw[h2]
  congr 1
  simp only[UInt8.toNat_ofNat'];omega
theorem Pz {a b:List Int}(ha:∀ n∈a,0<=n/\n<4294967296)(hb:∀ n∈b,0<=n/\n<4294967296)(h:cM a=cM b):a=b:=by
 rw[<-sW a ha,<-sW b hb,h]
theorem aI {n each k:Nat}(he:0<each):bN n each<=k↔n<=k*each:=by
 unfold bN;rw[<-Nat.lt_succ_iff,Nat.div_lt_iff_lt_mul he,Nat.succ_mul];omega
theorem dI {n each:Nat}(he:0<each):bN n each=0↔n=0:=by
 have:=aI (n:=n) (each:=each) (k:=0) he;omega
theorem aM (size:Nat):(size=0/\au size=[])\/(0<size/\size<=240/\au size=[1])\/(240<size/\size<=14400/\au size=[bN size 240,1])\/(14400<size/\au size=[bN size 240,bN (bN size 240) 60,1]):=by
 have h0:=dI (n:=size) (each:=240) (by decide);have h1:=aI (n:=size) (each:=240) (k:=1) (by decide);have h2:=aI (n:=size) (each:=240) (k:=60) (by decide);unfold au;simp only;by_cases e0:bN size 240=0
 ·exact .inl ⟨h0.1 e0,by rw[au8 e0]⟩
 ·rw[ava e0];by_cases e1:bN size 240=1
  ·exact .inr (.inl ⟨by omega,by omega,by rw[au8 e1]⟩)
  ·rw[ava e1];by_cases e2:bN size 240<=60
   ·exact .inr (.inr (.inl ⟨by omega,by omega,by rw[au8 e2]⟩))
   ·exact .inr (.inr (.inr ⟨by omega,by rw[ava e2]⟩))
theorem kq (s:ay)(i:Nat):(aO s i).length=min (s.length-i*240) 240:=by
 simp[aO];omega
theorem ku (l:List Int)(i:Nat):(aU l i).length=min (l.length-i*60) 60:=by
 simp[aU];omega
structure eK (rd:Rd)(data:ay)(nums:List (List Int)):Prop where
 shape:nums.map List.length=au data.length
 chunk:∀ i (n:Int),(nums.getD 0 [])[i]?=some n->rd n=.ok (aO data i)
 ptr:∀ l i (n:Int),(nums.getD (l+1) [])[i]?=some n->rd n=.ok (cM (aU (nums.getD l []) i))
 range:∀ l∈nums,∀ n∈l,1<=n/\n<4096
def dJ {α:Type}(l:List α)(a n:Nat):List α:=(l.drop a).take n
theorem wi {α:Type}(l:List α)(a n m:Nat):dJ l a n++dJ l (a+n) m=dJ l a (n+m):=by
 unfold dJ;rw[<-List.drop_drop,<-List.take_add]
theorem Dm {α:Type}{l:List α}{a:Nat}{x:α}(h:l[a]?=some x)(m:Nat):dJ l a (m+1)=x::dJ l (a+1) m:=by
 obtain⟨hl,e⟩:=avf.1 h;unfold dJ;rw[List.drop_eq_getElem_cons hl,avO,e]
theorem JS {α:Type}{l:List α}{a:Nat}{x:α}(h:l[a]?=some x):dJ l a 1=[x]:=by rw[Dm h];simp[dJ]
theorem A1 {α:Type}{l:List α}{a:Nat}(h:l.length<=a)(m:Nat):dJ l a m=[]:=by
 unfold dJ;rw[List.drop_of_length_le h,List.take_nil]
theorem pN (l:List Int)(i:Nat):aU l i=dJ l (60*i) 60:=by unfold aU dJ;rw[Nat.mul_comm]
theorem Lo (s:ay)(i:Nat):aO s i=dJ s (240*i) 240:=by unfold aO dJ;rw[Nat.mul_comm]
theorem oT (a b:List (Nat×Int))(l:Nat):bL (a++b) l=bL a l++bL b l:=by simp[bL]
section
variable {rd:Rd}{ch:Bool}{data:ay}{nums:List (List Int)}
theorem fP (h:eK rd data nums)(l:Nat):(nums.getD l []).length=(au data.length).getD l 0:=by
 rw[<-h.shape];simp only[List.getD,av1];cases nums[l]?<;>rfl
theorem mu (h:eK rd data nums){l i:Nat}{n:Int}(hn:(nums.getD l [])[i]?=some n):1<=n/\n<4096:=by
 have hm:=au2 hn;by_cases hl:l<nums.length
 ·rw[List.getD,au1 hl]at hm;exact h.range _ (avB hl) _ hm
 ·rw[List.getD,avU (by omega)]at hm;cases hm
theorem oU (size l:Nat)(hs:size<=16384)(hl:l<(au size).length):size<=240*60 ^ l*(au size).getD l 0/\∀ j,j<l->(au size).getD j 0<=60 ^ (l-j)*(au size).getD l 0:=by
 have hu:=(aI (n:=size) (each:=240) (k:=bN size 240) (by decide)).1 (au4 _);have hv:=(aI (n:=bN size 240) (each:=60) (k:=bN (bN size 240) 60) (by decide)).1 (au4 _);rcases aM size with⟨_,e⟩|⟨_,h2,e⟩|⟨_,h2,e⟩|⟨_,e⟩<;>rw[e]at hl ⊢
 ·simp at hl
 ·obtain rfl:l=0:=by simp at hl;omega
  exact⟨by simp;omega,fun j h=>by omega⟩
 ·have hk:=(aI (n:=size) (each:=240) (k:=60) (by decide)).2 (by omega);rcases l with _|_|l
  ·exact⟨by simp;omega,fun j h=>by omega⟩
  ·refine⟨by simp;omega,fun j h=>?_⟩;obtain rfl:j=0:=by omega
   simp;omega
  ·simp at hl;omega
 ·have hk:=(aI (n:=size) (each:=240) (k:=69) (by decide)).2 (by omega);have dd:=(aI (n:=bN size 240) (each:=60) (k:=2) (by decide)).2 (by omega);rcases l with _|_|_|l
  ·exact⟨by simp;omega,fun j h=>by omega⟩
  ·refine⟨by simp;omega,fun j h=>?_⟩;obtain rfl:j=0:=by omega
   simp;omega
  ·refine⟨by simp;omega,fun j h=>?_⟩;rcases j with _|_|j
   ·simp;omega
   ·simp;omega
   ·omega
  ·simp at hl;omega
def GJ (ch:Bool)(data:ay)(nums:List (List Int))(l i m:Nat)(r:Except Int ru):Prop:=
 ∃ o,r=.ok (o,if ch=true then dJ data (240*60 ^ l*i) (240*60 ^ l*m)else [])/\∀ j,bL o j=if j<=l then dJ (nums.getD j []) (60 ^ (l-j)*i) (60 ^ (l-j)*m)else []
theorem Uu (h:eK rd data nums)(hs:data.length<=16384)(l:Nat)(hl:l<nums.length)(hf:∀ i (n:Int),(nums.getD l [])[i]?=some n->GJ ch data nums l i 1 (nV rd ch data.length l i n))(m i:Nat):
  GJ ch data nums l i m (cJ (nV rd ch data.length l) i (dJ (nums.getD l []) i m)):=by
 have hn:=fP h;have iH:l<(au data.length).length:=by rw[<-h.shape];simpa using hl
 obtain⟨hc,hj⟩:=oU data.length l hs iH
 induction m generalizing i with
 |zero=>
  refine⟨[],?_,fun j=>?_⟩
  ·simp[dJ,cJ]
  ·simp[dJ,bL]
 |succ m ih=>
  cases hx:(nums.getD l [])[i]? with
  |none=>
   have hi:(au data.length).getD l 0<=i:=by rw[<-hn];exact List.getElem?_eq_none_iff.1 hx
   rw[A1 (by rw[hn];exact hi)];refine⟨[],?_,fun j=>?_⟩
   ·have:data.length<=240*60 ^ l*i:=auX hc (avt _ hi);rw[A1 this];simp[cJ]
   ·split
    ·rename_i Oa
     have:(nums.getD j []).length<=60 ^ (l-j)*i:=by
      rw[hn];rcases Nat.lt_or_eq_of_le Oa with h1|rfl
      ·exact auX (hj j h1) (avt _ hi)
      ·simpa using hi
     rw[A1 this];rfl
    ·rfl
  |some n=>
   obtain⟨o,e,ho⟩:=hf i n hx;obtain⟨o',e',Ff⟩:=ih (i+1);rw[Dm hx,cJ,e];simp only;rw[e'];refine⟨o++o',?_,fun j=>?_⟩
   ·simp only
    congr 2
    split
    ·rw[show 240*60 ^ l*(i+1)=240*60 ^ l*i+240*60 ^ l*1 by rw[Nat.mul_add],wi,<-Nat.mul_add,Nat.add_comm 1 m]
    ·rfl
   ·rw[oT,ho,Ff];split
    ·rw[show 60 ^ (l-j)*(i+1)=60 ^ (l-j)*i+60 ^ (l-j)*1 by rw[Nat.mul_add],wi,<-Nat.mul_add,Nat.add_comm 1 m]
    ·rfl
theorem Uv (h:eK rd data nums)(hs:data.length<=16384)(l:Nat)(hl:l<nums.length):∀ i (n:Int),(nums.getD l [])[i]?=some n->GJ ch data nums l i 1 (nV rd ch data.length l i n):=by
 induction l with
 |zero=>
  intro i n hx;have hr:=h.chunk i n hx;have hp:=kq data i;refine⟨[(0,n)],?_,fun j=>?_⟩
  ·unfold nV
   cases ch with
   |false=>simp
   |true=>
    simp only[↓reduceIte,hr];rw[ava (by rw[hp];omega),Lo]
  ·cases j with
   |zero=>rw[au8 (au4 0)];simp only[Nat.sub_zero,Nat.pow_zero,Nat.one_mul];rw[JS hx];rfl
   |succ j=>simp[bL]
 |succ l ih=>
  intro i n hx;have hr:=h.ptr l i n hx;have hg:=ku (nums.getD l []) i;have hp:cq (cM (aU (nums.getD l []) i))=aU (nums.getD l []) i:=sW _ fun k hk=>by
   obtain⟨q,hq⟩:=awf (List.mem_of_mem_drop (au6 hk));have:=mu h hq;omega
  obtain⟨o,e,ho⟩:=Uu (ch:=ch) h hs l (by omega) (ih (by omega)) 60 (60*i);rw[nV,hr];simp only[wh];rw[ava (by rw[hg,fP h];omega),hp,pN,e];refine⟨(l+1,n)::o,?_,fun j=>?_⟩
  ·simp only;rw[show 240*60 ^ l*(60*i)=240*60 ^ (l+1)*i by rw[avu];simp[awg],show 240*60 ^ l*60=240*60 ^ (l+1)*1 by rw[avu];simp[awg]]
  ·have e1:bL ((l+1,n)::o) j=(if l+1=j then [n]else [])++bL o j:=by
    unfold bL;rw[awd];by_cases hj:l+1=j<;>simp[hj]
   rw[e1,ho];by_cases h1:j<=l
   ·rw[ava (by omega),au8 h1,au8 (by omega),avA];rw[show l+1-j=(l-j)+1 by omega,avu,awg,awg]
   ·rw[ava h1];by_cases h2:l+1=j
    ·subst h2;rw[au8 rfl,au8 (by omega)];simp only[Nat.sub_self,Nat.pow_zero,Nat.one_mul];rw[JS hx];rfl
    ·rw[ava h2,ava (by omega)];rfl
theorem Dn (ch:Bool)(rd:Rd)(size l i:Nat)(n:Int)(o:ru)(h:nV rd ch size l i n=.ok o):∀ x∈o.1,x.1<=l:=by
 induction l generalizing i n o with
 |zero=>
  unfold nV at h;split at h
  ·cases hr:rd n with
   |error e=>rw[hr]at h;cases h
   |ok s=>
    rw[hr]at h;simp only at h;split at h
    ·cases h
    ·injection h with h;subst h;simp
  ·injection h with h;subst h;simp
 |succ l ih=>
  rw[nV]at h
  cases hr:rd n with
  |error e=>rw[hr]at h;cases h
  |ok s=>
   rw[hr]at h;simp only at h;split at h
   ·cases h
   ·cases hk:cJ (nV rd ch size l) (60*i) (cq s)with
    |error e=>rw[hk]at h;cases h
    |ok p=>
     rw[hk]at h;injection h with h;subst h;have key:∀(L:List Int) c (q:ru),cJ (nV rd ch size l) c L=.ok q->∀ x∈q.1,x.1<=l:=by
      intro L
      induction L with
      |nil=>intro c q hq;rw[cJ]at hq;injection hq with hq;subst hq;simp
      |cons a L ihL=>
       intro c q hq;rw[cJ]at hq
       cases ha:nV rd ch size l c a with
       |error e=>rw[ha]at hq;cases hq
       |ok u=>
        rw[ha]at hq;simp only at hq
        cases hb:cJ (nV rd ch size l) (c+1) L with
        |error e=>rw[hb]at hq;cases hq
        |ok v=>
         rw[hb]at hq;injection hq with hq;subst hq;intro x hx;rcases av4.1 hx with hx|hx
         ·exact ih _ _ _ ha x hx
         ·exact ihL _ _ hb x hx
     intro x hx;rcases avn.1 hx with rfl|hx
     ·exact au4 _
     ·have:=key _ _ _ hk x hx;omega
theorem Lp (o:List (Nat×Int))(n:Int):n∈dM o↔∃ l,n∈bL o l:=by
 unfold dM bL;simp only[avx,auW,avF]
 constructor
 ·rintro⟨x,hx,rfl⟩;exact⟨x.1,x,⟨hx,rfl⟩,rfl⟩
 ·rintro⟨l,x,⟨hx,_⟩,rfl⟩;exact⟨x,hx,rfl⟩
def du (data:ay)(nums:List (List Int)):fU:=if data.length=0 then⟨0,0⟩else⟨iL nums,data.length⟩
theorem JT (size:Nat)(h:0<size)(hs:size<=16384):0<(au size).length/\(au size).getD ((au size).length-1) 0=1:=by
 rcases aM size with⟨_,e⟩|⟨_,h2,e⟩|⟨_,h2,e⟩|⟨_,e⟩<;>rw[e]
 ·omega
 all_goals simp
theorem pO (h:eK rd data nums)(h0:0<data.length)(hs:data.length<=16384):0<nums.length/\nums.getD (nums.length-1) []=[iL nums]/\1<=iL nums/\iL nums<4096:=by
 obtain⟨h1,h2⟩:=JT _ h0 hs;have hl:nums.length=(au data.length).length:=by rw[<-h.shape];simp
 have hn:=fP h (nums.length-1);rw[hl,h2,<-hl]at hn;have e1:nums.getLastD []=nums.getD (nums.length-1) []:=by
  rcases List.eq_nil_or_concat nums with rfl|⟨r,x,rfl⟩
  ·rfl
  ·simp
 obtain⟨a,ha⟩:∃ a,nums.getD (nums.length-1) []=[a]:=List.length_eq_one_iff.1 hn;have e2:iL nums=a:=by unfold iL;rw[e1,ha];rfl
 refine⟨by omega,by rw[ha,e2],?_⟩;rw[e2];exact mu h (l:=nums.length-1) (i:=0) (by rw[ha];rfl)
theorem qM (h:eK rd data nums)(hs:data.length<=16384):(du data nums).may=true:=by
 unfold du fU.may;split
 ·rfl
 ·have:=pO h (by omega) hs;have e1:decide (iL nums=0)=false:=au9 (by omega);have e2:decide ((data.length:Int)=0)=false:=au9 (by omega);simp only[e1,e2,avj,avo];exact⟨⟨by omega,by omega⟩,rfl⟩
theorem kS (h:eK rd data nums)(hs:data.length<=16384)(ch:Bool):
  ∃ o,eg rd (du data nums) ch=.ok (o,if ch=true then data else [])/\nW (du data nums) o=nums/\∀ n,n∈dM o↔n∈nums.flatten:=by
 unfold eg;rw[qM h hs,ava (by decide)];by_cases h0:data.length=0
 ·have hn:nums=[]:=by
   have:=h.shape;rw[h0]at this;exact List.map_eq_nil_iff.1 this
  have hd:data=[]:=avz.1 h0;subst hn hd;exact⟨[],by simp[du],by simp[nW,du,au,bN],by simp[dM]⟩
 ·obtain⟨h1,h2,h3,h4⟩:=pO h (by omega) hs;have hl:nums.length=(au data.length).length:=by rw[<-h.shape];simp
  have eb:du data nums=⟨iL nums,data.length⟩:=by unfold du;rw[ava h0]
  rw[eb];simp only[avD];rw[ava (by omega),<-hl];obtain⟨o,e,ho⟩:=Uv (ch:=ch) h hs (nums.length-1) (by omega) 0 (iL nums) (by rw[h2];rfl);have hc:=oU data.length (nums.length-1) hs (by omega);rw[<-fP h,h2]at hc;simp only[List.length_singleton,Nat.mul_one]at hc;have Z1:∀ j,j<nums.length->bL o j=nums.getD j []:=by
   intro j hj;rw[ho,au8 (by omega),Nat.mul_zero,Nat.mul_one];have:(nums.getD j []).length<=60 ^ (nums.length-1-j):=by
    rw[fP h];rcases Nat.lt_or_eq_of_le (show j<=nums.length-1 by omega)with aL|rfl
    ·exact hc.2 j aL
    ·rw[<-fP h,h2];simp
   unfold dJ;rw[avR,avM this]
  refine⟨o,?_,?_,fun n=>?_⟩
  ·rw[e]
   congr 2
   split
   ·unfold dJ;rw[Nat.mul_zero,Nat.mul_one,avR,avM hc.1]
   ·rfl
  ·unfold nW;simp only[avD];rw[<-hl];apply List.ext_getElem?;intro j;by_cases hj:j<nums.length
   ·simp only[av1,av2 hj,av3,Z1 j hj,List.getD,au1 hj,avC]
   ·rw[avU (by simp;omega),avU (by omega)]
  ·rw[Lp,List.mem_flatten]
   constructor
   ·rintro⟨j,hj⟩;have Cx:j<=nums.length-1:=by
     obtain⟨x,hx,rfl⟩:=avx.1 hj;have:=(auW.1 hx)
     have h5:=Dn _ _ _ _ _ _ _ e x this.1;have:x.1=j:=by simpa using this.2
     omega
    rw[Z1 j (by omega)]at hj;refine⟨_,?_,hj⟩;rw[List.getD,au1 (by omega:j<nums.length)];exact avB _
   ·rintro⟨l,yB,hn⟩;obtain⟨j,hj,rfl⟩:=List.getElem_of_mem yB;refine⟨j,?_⟩;rw[Z1 j hj,List.getD,au1 hj];exact hn
theorem PA (h:eK rd data nums)(hs:data.length<=16384):∃ o,oF rd (du data nums)=.ok o/\∀ n,n∈o↔n∈nums.flatten:=by
 obtain⟨o,e,_,ho⟩:=kS h hs false;exact⟨_,by unfold oF;rw[e];rfl,ho⟩
end
end
end Go.Proofs.YtkghpdcloaiflaaGreatDoor
