import Derived.Test.YtkghpdcloaiflaaGreatDoorE02
namespace Go.Proofs.YtkghpdcloaiflaaGreatDoor
open _root_.Go.Proofs.Tryz
section
theorem Up (n:Int):(WO n).length=4:=rfl
theorem rW (l:List Int):(cM l).length=4*l.length:=by
 induction l with
 |nil=>rfl
 |cons a l ih=>simp only[cM,avg,auS,auA]at *;rw[ih,Up];omega
theorem tv (l:List Int)(h:∀ n∈l,0<=n/\n<4294967296):cr (cM l)=l:=by
 induction l with
 |nil=>rfl
 |cons a l ih=>
  have h1:=h a (by simp);have h2:=ih fun n hn=>h n (by simp[hn]);have e:cM (a::l)=WO a++cM l:=rfl;rw[e];unfold WO;simp only[avf,au9,cr];rw[h2]
  congr 1
  simp only[UInt8.toNat_ofNat'];omega
theorem PA {a b:List Int}(ha:∀ n∈a,0<=n/\n<4294967296)(hb:∀ n∈b,0<=n/\n<4294967296)(h:cM a=cM b):a=b:=by
 rw[<-tv a ha,<-tv b hb,h]
theorem aJ {n each k:Nat}(he:0<each):bN n each<=k↔n<=k*each:=by
 unfold bN;rw[<-Nat.lt_succ_iff,Nat.div_lt_iff_lt_mul he,Nat.succ_mul];omega
theorem dJ {n each:Nat}(he:0<each):bN n each=0↔n=0:=by
 have:=aJ (n:=n) (each:=each) (k:=0) he;omega
theorem aM (size:Nat):(size=0/\au size=[])\/(0<size/\size<=240/\au size=[1])\/(240<size/\size<=14400/\au size=[bN size 240,1])\/(14400<size/\au size=[bN size 240,bN (bN size 240) 60,1]):=by
 have h0:=dJ (n:=size) (each:=240) (by decide);have h1:=aJ (n:=size) (each:=240) (k:=1) (by decide);have h2:=aJ (n:=size) (each:=240) (k:=60) (by decide);unfold au;simp only;by_cases e0:bN size 240=0
 ·exact .inl ⟨h0.1 e0,by rw[auI e0]⟩
 ·rw[auK e0];by_cases e1:bN size 240=1
  ·exact .inr (.inl ⟨by omega,by omega,by rw[auI e1]⟩)
  ·rw[auK e1];by_cases e2:bN size 240<=60
   ·exact .inr (.inr (.inl ⟨by omega,by omega,by rw[auI e2]⟩))
   ·exact .inr (.inr (.inr ⟨by omega,by rw[auK e2]⟩))
theorem jd (s:az)(i:Nat):(aO s i).length=min (s.length-i*240) 240:=by
 simp[aO];omega
theorem je (l:List Int)(i:Nat):(aU l i).length=min (l.length-i*60) 60:=by
 simp[aU];omega
structure ez (rd:Rd)(data:az)(nums:List (List Int)):Prop where
 shape:nums.map List.length=au data.length
 chunk:∀ i (n:Int),(nums.getD 0 [])[i]?=some n->rd n=.ok (aO data i)
 ptr:∀ l i (n:Int),(nums.getD (l+1) [])[i]?=some n->rd n=.ok (cM (aU (nums.getD l []) i))
 range:∀ l∈nums,∀ n∈l,1<=n/\n<4096
def dK {α:Type}(l:List α)(a n:Nat):List α:=(l.drop a).take n
theorem wJ {α:Type}(l:List α)(a n m:Nat):dK l a n++dK l (a+n) m=dK l a (n+m):=by
 unfold dK;rw[<-List.drop_drop,<-List.take_add]
theorem Dr {α:Type}{l:List α}{a:Nat}{x:α}(h:l[a]?=some x)(m:Nat):dK l a (m+1)=x::dK l (a+1) m:=by
 obtain⟨hl,e⟩:=auP.1 h;unfold dK;rw[List.drop_eq_getElem_cons hl,avn,e]
theorem JS {α:Type}{l:List α}{a:Nat}{x:α}(h:l[a]?=some x):dK l a 1=[x]:=by rw[Dr h];simp[dK]
theorem A4 {α:Type}{l:List α}{a:Nat}(h:l.length<=a)(m:Nat):dK l a m=[]:=by
 unfold dK;rw[List.drop_of_length_le h,List.take_nil]
theorem pR (l:List Int)(i:Nat):aU l i=dK l (60*i) 60:=by unfold aU dK;rw[Nat.mul_comm]
theorem Lu (s:az)(i:Nat):aO s i=dK s (240*i) 240:=by unfold aO dK;rw[Nat.mul_comm]
theorem o4 (a b:List (Nat×Int))(l:Nat):bK (a++b) l=bK a l++bK b l:=by simp[bK]
section
variable {rd:Rd}{ch:Bool}{data:az}{nums:List (List Int)}
theorem fU (h:ez rd data nums)(l:Nat):(nums.getD l []).length=(au data.length).getD l 0:=by
 rw[<-h.shape];simp only[List.getD,avB];cases nums[l]?<;>rfl
theorem mE (h:ez rd data nums){l i:Nat}{n:Int}(hn:(nums.getD l [])[i]?=some n):1<=n/\n<4096:=by
 have hm:=auC hn;by_cases hl:l<nums.length
 ·rw[List.getD,auB hl]at hm;exact h.range _ (ava hl) _ hm
 ·rw[List.getD,avu (by omega)]at hm;cases hm
theorem o6 (size l:Nat)(hs:size<=16384)(hl:l<(au size).length):size<=240*60 ^ l*(au size).getD l 0/\∀ j,j<l->(au size).getD j 0<=60 ^ (l-j)*(au size).getD l 0:=by
 have hu:=(aJ (n:=size) (each:=240) (k:=bN size 240) (by decide)).1 (auE _);have hv:=(aJ (n:=bN size 240) (each:=60) (k:=bN (bN size 240) 60) (by decide)).1 (auE _);rcases aM size with⟨_,e⟩|⟨_,h2,e⟩|⟨_,h2,e⟩|⟨_,e⟩<;>rw[e]at hl ⊢
 ·simp at hl
 ·obtain rfl:l=0:=by simp at hl;omega
  exact⟨by simp;omega,fun j h=>by omega⟩
 ·have hk:=(aJ (n:=size) (each:=240) (k:=60) (by decide)).2 (by omega);rcases l with _|_|l
  ·exact⟨by simp;omega,fun j h=>by omega⟩
  ·refine⟨by simp;omega,fun j h=>?_⟩;obtain rfl:j=0:=by omega
   simp;omega
  ·simp at hl;omega
 ·have hk:=(aJ (n:=size) (each:=240) (k:=69) (by decide)).2 (by omega);have de:=(aJ (n:=bN size 240) (each:=60) (k:=2) (by decide)).2 (by omega);rcases l with _|_|_|l
  ·exact⟨by simp;omega,fun j h=>by omega⟩
  ·refine⟨by simp;omega,fun j h=>?_⟩;obtain rfl:j=0:=by omega
   simp;omega
  ·refine⟨by simp;omega,fun j h=>?_⟩;rcases j with _|_|j
   ·simp;omega
   ·simp;omega
   ·omega
  ·simp at hl;omega
def GI (ch:Bool)(data:az)(nums:List (List Int))(l i m:Nat)(r:Except Int ry):Prop:=
 ∃ o,r=.ok (o,if ch=true then dK data (240*60 ^ l*i) (240*60 ^ l*m)else [])/\∀ j,bK o j=if j<=l then dK (nums.getD j []) (60 ^ (l-j)*i) (60 ^ (l-j)*m)else []
theorem Uq (h:ez rd data nums)(hs:data.length<=16384)(l:Nat)(hl:l<nums.length)(hf:∀ i (n:Int),(nums.getD l [])[i]?=some n->GI ch data nums l i 1 (oc rd ch data.length l i n))(m i:Nat):
  GI ch data nums l i m (cL (oc rd ch data.length l) i (dK (nums.getD l []) i m)):=by
 have hn:=fU h;have eU:l<(au data.length).length:=by rw[<-h.shape];simpa using hl
 obtain⟨hc,hj⟩:=o6 data.length l hs eU
 induction m generalizing i with
 |zero=>
  refine⟨[],?_,fun j=>?_⟩
  ·simp[dK,cL]
  ·simp[dK,bK]
 |succ m ih=>
  cases hx:(nums.getD l [])[i]? with
  |none=>
   have hi:(au data.length).getD l 0<=i:=by rw[<-hn];exact List.getElem?_eq_none_iff.1 hx
   rw[A4 (by rw[hn];exact hi)];refine⟨[],?_,fun j=>?_⟩
   ·have:data.length<=240*60 ^ l*i:=aux hc (au2 _ hi);rw[A4 this];simp[cL]
   ·split
    ·rename_i CD
     have:(nums.getD j []).length<=60 ^ (l-j)*i:=by
      rw[hn];rcases Nat.lt_or_eq_of_le CD with h1|rfl
      ·exact aux (hj j h1) (au2 _ hi)
      ·simpa using hi
     rw[A4 this];rfl
    ·rfl
  |some n=>
   obtain⟨o,e,ho⟩:=hf i n hx;obtain⟨o',e',Fe⟩:=ih (i+1);rw[Dr hx,cL,e];simp only;rw[e'];refine⟨o++o',?_,fun j=>?_⟩
   ·simp only
    congr 2
    split
    ·rw[show 240*60 ^ l*(i+1)=240*60 ^ l*i+240*60 ^ l*1 by rw[Nat.mul_add],wJ,<-Nat.mul_add,Nat.add_comm 1 m]
    ·rfl
   ·rw[o4,ho,Fe];split
    ·rw[show 60 ^ (l-j)*(i+1)=60 ^ (l-j)*i+60 ^ (l-j)*1 by rw[Nat.mul_add],wJ,<-Nat.mul_add,Nat.add_comm 1 m]
    ·rfl
theorem Ur (h:ez rd data nums)(hs:data.length<=16384)(l:Nat)(hl:l<nums.length):∀ i (n:Int),(nums.getD l [])[i]?=some n->GI ch data nums l i 1 (oc rd ch data.length l i n):=by
 induction l with
 |zero=>
  intro i n hx;have hr:=h.chunk i n hx;have hp:=jd data i;refine⟨[(0,n)],?_,fun j=>?_⟩
  ·unfold oc
   cases ch with
   |false=>simp
   |true=>
    simp only[↓reduceIte,hr];rw[auK (by rw[hp];omega),Lu]
  ·cases j with
   |zero=>rw[auI (auE 0)];simp only[Nat.sub_zero,Nat.pow_zero,Nat.one_mul];rw[JS hx];rfl
   |succ j=>simp[bK]
 |succ l ih=>
  intro i n hx;have hr:=h.ptr l i n hx;have hg:=je (nums.getD l []) i;have hp:cr (cM (aU (nums.getD l []) i))=aU (nums.getD l []) i:=tv _ fun k hk=>by
   obtain⟨q,hq⟩:=avP (List.mem_of_mem_drop (auG hk));have:=mE h hq;omega
  obtain⟨o,e,ho⟩:=Uq (ch:=ch) h hs l (by omega) (ih (by omega)) 60 (60*i);rw[oc,hr];simp only[rW];rw[auK (by rw[hg,fU h];omega),hp,pR,e];refine⟨(l+1,n)::o,?_,fun j=>?_⟩
  ·simp only;rw[show 240*60 ^ l*(60*i)=240*60 ^ (l+1)*i by rw[au3];simp[avQ],show 240*60 ^ l*60=240*60 ^ (l+1)*1 by rw[au3];simp[avQ]]
  ·have e1:bK ((l+1,n)::o) j=(if l+1=j then [n]else [])++bK o j:=by
    unfold bK;rw[avN];by_cases hj:l+1=j<;>simp[hj]
   rw[e1,ho];by_cases h1:j<=l
   ·rw[auK (by omega),auI h1,auI (by omega),au9];rw[show l+1-j=(l-j)+1 by omega,au3,avQ,avQ]
   ·rw[auK h1];by_cases h2:l+1=j
    ·subst h2;rw[auI rfl,auI (by omega)];simp only[Nat.sub_self,Nat.pow_zero,Nat.one_mul];rw[JS hx];rfl
    ·rw[auK h2,auK (by omega)];rfl
theorem Ds (ch:Bool)(rd:Rd)(size l i:Nat)(n:Int)(o:ry)(h:oc rd ch size l i n=.ok o):∀ x∈o.1,x.1<=l:=by
 induction l generalizing i n o with
 |zero=>
  unfold oc at h;split at h
  ·cases hr:rd n with
   |error e=>rw[hr]at h;cases h
   |ok s=>
    rw[hr]at h;simp only at h;split at h
    ·cases h
    ·injection h with h;subst h;simp
  ·injection h with h;subst h;simp
 |succ l ih=>
  rw[oc]at h
  cases hr:rd n with
  |error e=>rw[hr]at h;cases h
  |ok s=>
   rw[hr]at h;simp only at h;split at h
   ·cases h
   ·cases hk:cL (oc rd ch size l) (60*i) (cr s)with
    |error e=>rw[hk]at h;cases h
    |ok p=>
     rw[hk]at h;injection h with h;subst h;have key:∀(L:List Int) c (q:ry),cL (oc rd ch size l) c L=.ok q->∀ x∈q.1,x.1<=l:=by
      intro L
      induction L with
      |nil=>intro c q hq;rw[cL]at hq;injection hq with hq;subst hq;simp
      |cons a L ihL=>
       intro c q hq;rw[cL]at hq
       cases ha:oc rd ch size l c a with
       |error e=>rw[ha]at hq;cases hq
       |ok u=>
        rw[ha]at hq;simp only at hq
        cases hb:cL (oc rd ch size l) (c+1) L with
        |error e=>rw[hb]at hq;cases hq
        |ok v=>
         rw[hb]at hq;injection hq with hq;subst hq;intro x hx;rcases avE.1 hx with hx|hx
         ·exact ih _ _ _ ha x hx
         ·exact ihL _ _ hb x hx
     intro x hx;rcases auX.1 hx with rfl|hx
     ·exact auE _
     ·have:=key _ _ _ hk x hx;omega
theorem Lw (o:List (Nat×Int))(n:Int):n∈dP o↔∃ l,n∈bK o l:=by
 unfold dP bK;simp only[au6,auw,ave]
 constructor
 ·rintro⟨x,hx,rfl⟩;exact⟨x.1,x,⟨hx,rfl⟩,rfl⟩
 ·rintro⟨l,x,⟨hx,_⟩,rfl⟩;exact⟨x,hx,rfl⟩
def dt (data:az)(nums:List (List Int)):fP:=if data.length=0 then⟨0,0⟩else⟨iP nums,data.length⟩
theorem JT (size:Nat)(h:0<size)(hs:size<=16384):0<(au size).length/\(au size).getD ((au size).length-1) 0=1:=by
 rcases aM size with⟨_,e⟩|⟨_,h2,e⟩|⟨_,h2,e⟩|⟨_,e⟩<;>rw[e]
 ·omega
 all_goals simp
theorem pS (h:ez rd data nums)(h0:0<data.length)(hs:data.length<=16384):0<nums.length/\nums.getD (nums.length-1) []=[iP nums]/\1<=iP nums/\iP nums<4096:=by
 obtain⟨h1,h2⟩:=JT _ h0 hs;have hl:nums.length=(au data.length).length:=by rw[<-h.shape];simp
 have hn:=fU h (nums.length-1);rw[hl,h2,<-hl]at hn;have e1:nums.getLastD []=nums.getD (nums.length-1) []:=by
  rcases List.eq_nil_or_concat nums with rfl|⟨r,x,rfl⟩
  ·rfl
  ·simp
 obtain⟨a,ha⟩:∃ a,nums.getD (nums.length-1) []=[a]:=List.length_eq_one_iff.1 hn;have e2:iP nums=a:=by unfold iP;rw[e1,ha];rfl
 refine⟨by omega,by rw[ha,e2],?_⟩;rw[e2];exact mE h (l:=nums.length-1) (i:=0) (by rw[ha];rfl)
theorem qP (h:ez rd data nums)(hs:data.length<=16384):(dt data nums).may=true:=by
 unfold dt fP.may;split
 ·rfl
 ·have:=pS h (by omega) hs;have e1:decide (iP nums=0)=false:=auJ (by omega);have e2:decide ((data.length:Int)=0)=false:=auJ (by omega);simp only[e1,e2,auT,auY];exact⟨⟨by omega,by omega⟩,rfl⟩
theorem kV (h:ez rd data nums)(hs:data.length<=16384)(ch:Bool):
  ∃ o,ei rd (dt data nums) ch=.ok (o,if ch=true then data else [])/\od (dt data nums) o=nums/\∀ n,n∈dP o↔n∈nums.flatten:=by
 unfold ei;rw[qP h hs,auK (by decide)];by_cases h0:data.length=0
 ·have hn:nums=[]:=by
   have:=h.shape;rw[h0]at this;exact List.map_eq_nil_iff.1 this
  have hd:data=[]:=au8.1 h0;subst hn hd;exact⟨[],by simp[dt],by simp[od,dt,au,bN],by simp[dP]⟩
 ·obtain⟨h1,h2,h3,h4⟩:=pS h (by omega) hs;have hl:nums.length=(au data.length).length:=by rw[<-h.shape];simp
  have eb:dt data nums=⟨iP nums,data.length⟩:=by unfold dt;rw[auK h0]
  rw[eb];simp only[avc];rw[auK (by omega),<-hl];obtain⟨o,e,ho⟩:=Ur (ch:=ch) h hs (nums.length-1) (by omega) 0 (iP nums) (by rw[h2];rfl);have hc:=o6 data.length (nums.length-1) hs (by omega);rw[<-fU h,h2]at hc;simp only[List.length_singleton,Nat.mul_one]at hc;have aa8:∀ j,j<nums.length->bK o j=nums.getD j []:=by
   intro j hj;rw[ho,auI (by omega),Nat.mul_zero,Nat.mul_one];have:(nums.getD j []).length<=60 ^ (nums.length-1-j):=by
    rw[fU h];rcases Nat.lt_or_eq_of_le (show j<=nums.length-1 by omega)with aL|rfl
    ·exact hc.2 j aL
    ·rw[<-fU h,h2];simp
   unfold dK;rw[avr,avl this]
  refine⟨o,?_,?_,fun n=>?_⟩
  ·rw[e]
   congr 2
   split
   ·unfold dK;rw[Nat.mul_zero,Nat.mul_one,avr,avl hc.1]
   ·rfl
  ·unfold od;simp only[avc];rw[<-hl];apply List.ext_getElem?;intro j;by_cases hj:j<nums.length
   ·simp only[avB,avC hj,avD,aa8 j hj,List.getD,auB hj,avb]
   ·rw[avu (by simp;omega),avu (by omega)]
  ·rw[Lw,List.mem_flatten]
   constructor
   ·rintro⟨j,hj⟩;have IY:j<=nums.length-1:=by
     obtain⟨x,hx,rfl⟩:=au6.1 hj;have:=(auw.1 hx)
     have h5:=Ds _ _ _ _ _ _ _ e x this.1;have:x.1=j:=by simpa using this.2
     omega
    rw[aa8 j (by omega)]at hj;refine⟨_,?_,hj⟩;rw[List.getD,auB (by omega:j<nums.length)];exact ava _
   ·rintro⟨l,vw,hn⟩;obtain⟨j,hj,rfl⟩:=List.getElem_of_mem vw;refine⟨j,?_⟩;rw[aa8 j hj,List.getD,auB hj];exact hn
theorem PE (h:ez rd data nums)(hs:data.length<=16384):∃ o,oM rd (dt data nums)=.ok o/\∀ n,n∈o↔n∈nums.flatten:=by
 obtain⟨o,e,_,ho⟩:=kV h hs false;exact⟨_,by unfold oM;rw[e];rfl,ho⟩
end
end
end Go.Proofs.YtkghpdcloaiflaaGreatDoor
