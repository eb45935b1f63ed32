import Derived.Test.YtkghpdcloaiflaaGreatDoorC02
namespace Go.Proofs.YtkghpdcloaiflaaGreatDoor
open _root_.Go.Proofs.Tryz
section
theorem TO (n:Int):(Wd n).length=4:=rfl
theorem vT (l:List Int):(cL l).length=4*l.length:=by
 induction l with
 |nil=>rfl
 |cons a l ih=>simp only[cL,aus,at0,atH]at *;rw[ih,TO];omega
theorem sN (l:List Int)(h:∀ n∈l,0<=n/\n<4294967296):cl (cL l)=l:=by
 induction l with
 |nil=>rfl
 |cons a l ih=>
  have h1:=h a (by simp);have h2:=ih fun n hn=>h n (by simp[hn]);have e:cL (a::l)=Wd a++cL l:=rfl;rw[e];unfold Wd;simp only[aur,aul,cl];rw[h2]
  congr 1
  simp only[UInt8.toNat_ofNat'];omega
theorem Pf {a b:List Int}(ha:∀ n∈a,0<=n/\n<4294967296)(hb:∀ n∈b,0<=n/\n<4294967296)(h:cL a=cL b):a=b:=by
 rw[<-sN a ha,<-sN b hb,h]
theorem aJ {n each k:Nat}(he:0<each):bN n each<=k↔n<=k*each:=by
 unfold bN;rw[<-Nat.lt_succ_iff,Nat.div_lt_iff_lt_mul he,Nat.succ_mul];omega
theorem dG {n each:Nat}(he:0<each):bN n each=0↔n=0:=by
 have:=aJ (n:=n) (each:=each) (k:=0) he;omega
theorem aK (size:Nat):(size=0/\au size=[])\/(0<size/\size<=240/\au size=[1])\/(240<size/\size<=14400/\au size=[bN size 240,1])\/(14400<size/\au size=[bN size 240,bN (bN size 240) 60,1]):=by
 have h0:=dG (n:=size) (each:=240) (by decide);have h1:=aJ (n:=size) (each:=240) (k:=1) (by decide);have h2:=aJ (n:=size) (each:=240) (k:=60) (by decide);unfold au;simp only;by_cases e0:bN size 240=0
 ·exact .inl ⟨h0.1 e0,by rw[atP e0]⟩
 ·rw[atR e0];by_cases e1:bN size 240=1
  ·exact .inr (.inl ⟨by omega,by omega,by rw[atP e1]⟩)
  ·rw[atR e1];by_cases e2:bN size 240<=60
   ·exact .inr (.inr (.inl ⟨by omega,by omega,by rw[atP e2]⟩))
   ·exact .inr (.inr (.inr ⟨by omega,by rw[atR e2]⟩))
theorem ke (s:ay)(i:Nat):(aN s i).length=min (s.length-i*240) 240:=by
 simp[aN];omega
theorem kg (l:List Int)(i:Nat):(aT l i).length=min (l.length-i*60) 60:=by
 simp[aT];omega
structure eG (rd:Rd)(data:ay)(nums:List (List Int)):Prop where
 shape:nums.map List.length=au data.length
 chunk:∀ i (n:Int),(nums.getD 0 [])[i]?=some n->rd n=.ok (aN data i)
 ptr:∀ l i (n:Int),(nums.getD (l+1) [])[i]?=some n->rd n=.ok (cL (aT (nums.getD l []) i))
 range:∀ l∈nums,∀ n∈l,1<=n/\n<4096
def dH {α:Type}(l:List α)(a n:Nat):List α:=(l.drop a).take n
theorem vU {α:Type}(l:List α)(a n m:Nat):dH l a n++dH l (a+n) m=dH l a (n+m):=by
 unfold dH;rw[<-List.drop_drop,<-List.take_add]
theorem CZ {α:Type}{l:List α}{a:Nat}{x:α}(h:l[a]?=some x)(m:Nat):dH l a (m+1)=x::dH l (a+1) m:=by
 obtain⟨hl,e⟩:=atX.1 h;unfold dH;rw[List.drop_eq_getElem_cons hl,auz,e]
theorem Jt {α:Type}{l:List α}{a:Nat}{x:α}(h:l[a]?=some x):dH l a 1=[x]:=by rw[CZ h];simp[dH]
theorem AH {α:Type}{l:List α}{a:Nat}(h:l.length<=a)(m:Nat):dH l a m=[]:=by
 unfold dH;rw[List.drop_of_length_le h,List.take_nil]
theorem pD (l:List Int)(i:Nat):aT l i=dH l (60*i) 60:=by unfold aT dH;rw[Nat.mul_comm]
theorem KV (s:ay)(i:Nat):aN s i=dH s (240*i) 240:=by unfold aN dH;rw[Nat.mul_comm]
theorem oL (a b:List (Nat×Int))(l:Nat):bJ (a++b) l=bJ a l++bJ b l:=by simp[bJ]
section
variable {rd:Rd}{ch:Bool}{data:ay}{nums:List (List Int)}
theorem fO (h:eG rd data nums)(l:Nat):(nums.getD l []).length=(au data.length).getD l 0:=by
 rw[<-h.shape];simp only[List.getD,auM];cases nums[l]?<;>rfl
theorem ms (h:eG rd data nums){l i:Nat}{n:Int}(hn:(nums.getD l [])[i]?=some n):1<=n/\n<4096:=by
 have hm:=atJ hn;by_cases hl:l<nums.length
 ·rw[List.getD,atI hl]at hm;exact h.range _ (aum hl) _ hm
 ·rw[List.getD,auF (by omega)]at hm;cases hm
theorem oM (size l:Nat)(hs:size<=16384)(hl:l<(au size).length):size<=240*60 ^ l*(au size).getD l 0/\∀ j,j<l->(au size).getD j 0<=60 ^ (l-j)*(au size).getD l 0:=by
 have hu:=(aJ (n:=size) (each:=240) (k:=bN size 240) (by decide)).1 (atL _);have hv:=(aJ (n:=bN size 240) (each:=60) (k:=bN (bN size 240) 60) (by decide)).1 (atL _);rcases aK size with⟨_,e⟩|⟨_,h2,e⟩|⟨_,h2,e⟩|⟨_,e⟩<;>rw[e]at hl ⊢
 ·simp at hl
 ·obtain rfl:l=0:=by simp at hl;omega
  exact⟨by simp;omega,fun j h=>by omega⟩
 ·have hk:=(aJ (n:=size) (each:=240) (k:=60) (by decide)).2 (by omega);rcases l with _|_|l
  ·exact⟨by simp;omega,fun j h=>by omega⟩
  ·refine⟨by simp;omega,fun j h=>?_⟩;obtain rfl:j=0:=by omega
   simp;omega
  ·simp at hl;omega
 ·have hk:=(aJ (n:=size) (each:=240) (k:=69) (by decide)).2 (by omega);have dc:=(aJ (n:=bN size 240) (each:=60) (k:=2) (by decide)).2 (by omega);rcases l with _|_|_|l
  ·exact⟨by simp;omega,fun j h=>by omega⟩
  ·refine⟨by simp;omega,fun j h=>?_⟩;obtain rfl:j=0:=by omega
   simp;omega
  ·refine⟨by simp;omega,fun j h=>?_⟩;rcases j with _|_|j
   ·simp;omega
   ·simp;omega
   ·omega
  ·simp at hl;omega
def Gk (ch:Bool)(data:ay)(nums:List (List Int))(l i m:Nat)(r:Except Int ra):Prop:=
 ∃ o,r=.ok (o,if ch=true then dH data (240*60 ^ l*i) (240*60 ^ l*m)else [])/\∀ j,bJ o j=if j<=l then dH (nums.getD j []) (60 ^ (l-j)*i) (60 ^ (l-j)*m)else []
theorem TP (h:eG rd data nums)(hs:data.length<=16384)(l:Nat)(hl:l<nums.length)(hf:∀ i (n:Int),(nums.getD l [])[i]?=some n->Gk ch data nums l i 1 (nO rd ch data.length l i n))(m i:Nat):
  Gk ch data nums l i m (cI (nO rd ch data.length l) i (dH (nums.getD l []) i m)):=by
 have hn:=fO h;have ib:l<(au data.length).length:=by rw[<-h.shape];simpa using hl
 obtain⟨hc,hj⟩:=oM data.length l hs ib
 induction m generalizing i with
 |zero=>
  refine⟨[],?_,fun j=>?_⟩
  ·simp[dH,cI]
  ·simp[dH,bJ]
 |succ m ih=>
  cases hx:(nums.getD l [])[i]? with
  |none=>
   have hi:(au data.length).getD l 0<=i:=by rw[<-hn];exact List.getElem?_eq_none_iff.1 hx
   rw[AH (by rw[hn];exact hi)];refine⟨[],?_,fun j=>?_⟩
   ·have:data.length<=240*60 ^ l*i:=atE hc (aue _ hi);rw[AH this];simp[cI]
   ·split
    ·rename_i Cd
     have:(nums.getD j []).length<=60 ^ (l-j)*i:=by
      rw[hn];rcases Nat.lt_or_eq_of_le Cd with h1|rfl
      ·exact atE (hj j h1) (aue _ hi)
      ·simpa using hi
     rw[AH this];rfl
    ·rfl
  |some n=>
   obtain⟨o,e,ho⟩:=hf i n hx;obtain⟨o',e',E6⟩:=ih (i+1);rw[CZ hx,cI,e];simp only;rw[e'];refine⟨o++o',?_,fun j=>?_⟩
   ·simp only
    congr 2
    split
    ·rw[show 240*60 ^ l*(i+1)=240*60 ^ l*i+240*60 ^ l*1 by rw[Nat.mul_add],vU,<-Nat.mul_add,Nat.add_comm 1 m]
    ·rfl
   ·rw[oL,ho,E6];split
    ·rw[show 60 ^ (l-j)*(i+1)=60 ^ (l-j)*i+60 ^ (l-j)*1 by rw[Nat.mul_add],vU,<-Nat.mul_add,Nat.add_comm 1 m]
    ·rfl
theorem TQ (h:eG rd data nums)(hs:data.length<=16384)(l:Nat)(hl:l<nums.length):∀ i (n:Int),(nums.getD l [])[i]?=some n->Gk ch data nums l i 1 (nO rd ch data.length l i n):=by
 induction l with
 |zero=>
  intro i n hx;have hr:=h.chunk i n hx;have hp:=ke data i;refine⟨[(0,n)],?_,fun j=>?_⟩
  ·unfold nO
   cases ch with
   |false=>simp
   |true=>
    simp only[↓reduceIte,hr];rw[atR (by rw[hp];omega),KV]
  ·cases j with
   |zero=>rw[atP (atL 0)];simp only[Nat.sub_zero,Nat.pow_zero,Nat.one_mul];rw[Jt hx];rfl
   |succ j=>simp[bJ]
 |succ l ih=>
  intro i n hx;have hr:=h.ptr l i n hx;have hg:=kg (nums.getD l []) i;have hp:cl (cL (aT (nums.getD l []) i))=aT (nums.getD l []) i:=sN _ fun k hk=>by
   obtain⟨q,hq⟩:=au0 (List.mem_of_mem_drop (atN hk));have:=ms h hq;omega
  obtain⟨o,e,ho⟩:=TP (ch:=ch) h hs l (by omega) (ih (by omega)) 60 (60*i);rw[nO,hr];simp only[vT];rw[atR (by rw[hg,fO h];omega),hp,pD,e];refine⟨(l+1,n)::o,?_,fun j=>?_⟩
  ·simp only;rw[show 240*60 ^ l*(60*i)=240*60 ^ (l+1)*i by rw[auf];simp[au1],show 240*60 ^ l*60=240*60 ^ (l+1)*1 by rw[auf];simp[au1]]
  ·have e1:bJ ((l+1,n)::o) j=(if l+1=j then [n]else [])++bJ o j:=by
    unfold bJ;rw[auY];by_cases hj:l+1=j<;>simp[hj]
   rw[e1,ho];by_cases h1:j<=l
   ·rw[atR (by omega),atP h1,atP (by omega),aul];rw[show l+1-j=(l-j)+1 by omega,auf,au1,au1]
   ·rw[atR h1];by_cases h2:l+1=j
    ·subst h2;rw[atP rfl,atP (by omega)];simp only[Nat.sub_self,Nat.pow_zero,Nat.one_mul];rw[Jt hx];rfl
    ·rw[atR h2,atR (by omega)];rfl
theorem C0 (ch:Bool)(rd:Rd)(size l i:Nat)(n:Int)(o:ra)(h:nO rd ch size l i n=.ok o):∀ x∈o.1,x.1<=l:=by
 induction l generalizing i n o with
 |zero=>
  unfold nO at h;split at h
  ·cases hr:rd n with
   |error e=>rw[hr]at h;cases h
   |ok s=>
    rw[hr]at h;simp only at h;split at h
    ·cases h
    ·injection h with h;subst h;simp
  ·injection h with h;subst h;simp
 |succ l ih=>
  rw[nO]at h
  cases hr:rd n with
  |error e=>rw[hr]at h;cases h
  |ok s=>
   rw[hr]at h;simp only at h;split at h
   ·cases h
   ·cases hk:cI (nO rd ch size l) (60*i) (cl s)with
    |error e=>rw[hk]at h;cases h
    |ok p=>
     rw[hk]at h;injection h with h;subst h;have key:∀(L:List Int) c (q:ra),cI (nO rd ch size l) c L=.ok q->∀ x∈q.1,x.1<=l:=by
      intro L
      induction L with
      |nil=>intro c q hq;rw[cI]at hq;injection hq with hq;subst hq;simp
      |cons a L ihL=>
       intro c q hq;rw[cI]at hq
       cases ha:nO rd ch size l c a with
       |error e=>rw[ha]at hq;cases hq
       |ok u=>
        rw[ha]at hq;simp only at hq
        cases hb:cI (nO rd ch size l) (c+1) L with
        |error e=>rw[hb]at hq;cases hq
        |ok v=>
         rw[hb]at hq;injection hq with hq;subst hq;intro x hx;rcases auP.1 hx with hx|hx
         ·exact ih _ _ _ ha x hx
         ·exact ihL _ _ hb x hx
     intro x hx;rcases at9.1 hx with rfl|hx
     ·exact atL _
     ·have:=key _ _ _ hk x hx;omega
theorem KW (o:List (Nat×Int))(n:Int):n∈dK o↔∃ l,n∈bJ o l:=by
 unfold dK bJ;simp only[aui,atD,auq]
 constructor
 ·rintro⟨x,hx,rfl⟩;exact⟨x.1,x,⟨hx,rfl⟩,rfl⟩
 ·rintro⟨l,x,⟨hx,_⟩,rfl⟩;exact⟨x,hx,rfl⟩
def dp (data:ay)(nums:List (List Int)):fR:=if data.length=0 then⟨0,0⟩else⟨iF nums,data.length⟩
theorem Ju (size:Nat)(h:0<size)(hs:size<=16384):0<(au size).length/\(au size).getD ((au size).length-1) 0=1:=by
 rcases aK size with⟨_,e⟩|⟨_,h2,e⟩|⟨_,h2,e⟩|⟨_,e⟩<;>rw[e]
 ·omega
 all_goals simp
theorem pE (h:eG rd data nums)(h0:0<data.length)(hs:data.length<=16384):0<nums.length/\nums.getD (nums.length-1) []=[iF nums]/\1<=iF nums/\iF nums<4096:=by
 obtain⟨h1,h2⟩:=Ju _ h0 hs;have hl:nums.length=(au data.length).length:=by rw[<-h.shape];simp
 have hn:=fO h (nums.length-1);rw[hl,h2,<-hl]at hn;have e1:nums.getLastD []=nums.getD (nums.length-1) []:=by
  rcases List.eq_nil_or_concat nums with rfl|⟨r,x,rfl⟩
  ·rfl
  ·simp
 obtain⟨a,ha⟩:∃ a,nums.getD (nums.length-1) []=[a]:=List.length_eq_one_iff.1 hn;have e2:iF nums=a:=by unfold iF;rw[e1,ha];rfl
 refine⟨by omega,by rw[ha,e2],?_⟩;rw[e2];exact ms h (l:=nums.length-1) (i:=0) (by rw[ha];rfl)
theorem qA (h:eG rd data nums)(hs:data.length<=16384):(dp data nums).may=true:=by
 unfold dp fR.may;split
 ·rfl
 ·have:=pE h (by omega) hs;have e1:decide (iF nums=0)=false:=atQ (by omega);have e2:decide ((data.length:Int)=0)=false:=atQ (by omega);simp only[e1,e2,at2,aua];exact⟨⟨by omega,by omega⟩,rfl⟩
theorem kJ (h:eG rd data nums)(hs:data.length<=16384)(ch:Bool):
  ∃ o,d7 rd (dp data nums) ch=.ok (o,if ch=true then data else [])/\nP (dp data nums) o=nums/\∀ n,n∈dK o↔n∈nums.flatten:=by
 unfold d7;rw[qA h hs,atR (by decide)];by_cases h0:data.length=0
 ·have hn:nums=[]:=by
   have:=h.shape;rw[h0]at this;exact List.map_eq_nil_iff.1 this
  have hd:data=[]:=auk.1 h0;subst hn hd;exact⟨[],by simp[dp],by simp[nP,dp,au,bN],by simp[dK]⟩
 ·obtain⟨h1,h2,h3,h4⟩:=pE h (by omega) hs;have hl:nums.length=(au data.length).length:=by rw[<-h.shape];simp
  have eb:dp data nums=⟨iF nums,data.length⟩:=by unfold dp;rw[atR h0]
  rw[eb];simp only[auo];rw[atR (by omega),<-hl];obtain⟨o,e,ho⟩:=TQ (ch:=ch) h hs (nums.length-1) (by omega) 0 (iF nums) (by rw[h2];rfl);have hc:=oM data.length (nums.length-1) hs (by omega);rw[<-fO h,h2]at hc;simp only[List.length_singleton,Nat.mul_one]at hc;have aaa:∀ j,j<nums.length->bJ o j=nums.getD j []:=by
   intro j hj;rw[ho,atP (by omega),Nat.mul_zero,Nat.mul_one];have:(nums.getD j []).length<=60 ^ (nums.length-1-j):=by
    rw[fO h];rcases Nat.lt_or_eq_of_le (show j<=nums.length-1 by omega)with aM|rfl
    ·exact hc.2 j aM
    ·rw[<-fO h,h2];simp
   unfold dH;rw[auC,aux this]
  refine⟨o,?_,?_,fun n=>?_⟩
  ·rw[e]
   congr 2
   split
   ·unfold dH;rw[Nat.mul_zero,Nat.mul_one,auC,aux hc.1]
   ·rfl
  ·unfold nP;simp only[auo];rw[<-hl];apply List.ext_getElem?;intro j;by_cases hj:j<nums.length
   ·simp only[auM,auN hj,auO,aaa j hj,List.getD,atI hj,aun]
   ·rw[auF (by simp;omega),auF (by omega)]
  ·rw[KW,List.mem_flatten]
   constructor
   ·rintro⟨j,hj⟩;have I2:j<=nums.length-1:=by
     obtain⟨x,hx,rfl⟩:=aui.1 hj;have:=(atD.1 hx)
     have h5:=C0 _ _ _ _ _ _ _ e x this.1;have:x.1=j:=by simpa using this.2
     omega
    rw[aaa j (by omega)]at hj;refine⟨_,?_,hj⟩;rw[List.getD,atI (by omega:j<nums.length)];exact aum _
   ·rintro⟨l,uV,hn⟩;obtain⟨j,hj,rfl⟩:=List.getElem_of_mem uV;refine⟨j,?_⟩;rw[aaa j hj,List.getD,atI hj];exact hn
theorem Pg (h:eG rd data nums)(hs:data.length<=16384):∃ o,ox rd (dp data nums)=.ok o/\∀ n,n∈o↔n∈nums.flatten:=by
 obtain⟨o,e,_,ho⟩:=kJ h hs false;exact⟨_,by unfold ox;rw[e];rfl,ho⟩
end
end
end Go.Proofs.YtkghpdcloaiflaaGreatDoor
