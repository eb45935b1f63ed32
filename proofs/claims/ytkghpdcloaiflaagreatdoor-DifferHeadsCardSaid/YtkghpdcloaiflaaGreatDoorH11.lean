import Derived.Test.YtkghpdcloaiflaaGreatDoorH02
namespace Go.Proofs.YtkghpdcloaiflaaGreatDoor
open _root_.Go.Proofs.Tryz
variable {a each n:Nat}
section
theorem Ve (n:Int):(XJ n).length=4:=rfl
theorem ws (l:List Int):(cM l).length=4*l.length:=by
 induction l with
 |nil=>rfl
 |cons a l ih=>simp only[cM,awL,awn,av5]at *;rw[ih,Ve];omega
theorem sW (l:List Int)(h:∀ n∈l,0<=n/\n<4294967296):co (cM l)=l:=by
 induction l with
 |nil=>rfl
 |cons a l ih=>
  have h1:=h a sp7;have h2:=ih λn hn=>h n (by simp[hn]);have e:cM (a::l)=XJ a++cM l:=rfl;rw[e];unfold XJ;simp only[awK,awE,co];rw[h2]
  congr 1
  simp only[UInt8.toNat_ofNat'];omega
theorem P3 {a b:List Int}(ha:∀ n∈a,0<=n/\n<4294967296)(hb:∀ n∈b,0<=n/\n<4294967296)(h:cM a=cM b):a=b:=by
 rw[<-sW a ha,<-sW b hb,h]
theorem aL {k:Nat}(he:0<each):bQ n each<=k↔n<=k*each:=by
 unfold bQ;rw[<-Nat.lt_succ_iff,Nat.div_lt_iff_lt_mul he,Nat.succ_mul];omega
theorem dB (he:0<each):bQ n each=0↔n=0:=by
 have:=aL (n:=n) (each:=each) (k:=0) he;omega
theorem aN (size:Nat):(size=0/\ax size=[])\/(0<size/\size<=240/\ax size=[1])\/(240<size/\size<=14400/\ax size=[bQ size 240,1])\/(14400<size/\ax size=[bQ size 240,bQ (bQ size 240) 60,1]):=by
 have h0:=dB (n:=size) (each:=240) dc7;have h1:=aL (n:=size) (each:=240) (k:=1) dc7;have h2:=aL (n:=size) (each:=240) (k:=60) dc7;unfold ax;simp only;by_cases e0:bQ size 240=0
 ·exact .inl ⟨h0.1 e0,by rw[awd e0]⟩
 ·rw[awf e0];by_cases e1:bQ size 240=1
  ·exact .inr (.inl ⟨by omega,J,by rw[awd e1]⟩)
  ·rw[awf e1];by_cases e2:bQ size 240<=60
   ·exact .inr (.inr (.inl ⟨by omega,J,by rw[awd e2]⟩))
   ·exact .inr (.inr (.inr ⟨by omega,by rw[awf e2]⟩))
theorem j9 (s:ay)(i:Nat):(aQ s i).length=min (s.length-i*240) 240:=by
 simp[aQ];omega
theorem kc (l:List Int)(i:Nat):(aY l i).length=min (l.length-i*60) 60:=by
 simp[aY];omega
structure eK (rd:Rd)(data:ay)(nums:List (List Int)):Prop where
 shape:nums.map List.length=ax data.length
 chunk:∀ i (n:Int),(nums.getD 0 [])[i]?=some n->rd n=.ok (aQ data i)
 ptr:∀ l i (n:Int),(nums.getD (l+1) [])[i]?=some n->rd n=.ok (cM (aY (nums.getD l []) i))
 range:∀ l∈nums,∀ n∈l,1<=n/\n<4096
def dC {α:Type}(l:List α)(a n:Nat):List α:=(l.drop a).take n
theorem wt {α:Type}(l:List α)(a n m:Nat):dC l a n++dC l (a+n) m=dC l a (n+m):=by
 unfold dC;rw[<-List.drop_drop,<-List.take_add]
theorem Dz {α:Type}{l:List α}{x:α}(h:l[a]?=some x)(m:Nat):dC l a (m+1)=x::dC l (a+1) m:=by
 obtain⟨hl,e⟩:=awk.1 h;unfold dC;rw[List.drop_eq_getElem_cons hl,awS,e]
theorem J7 {α:Type}{l:List α}{x:α}(h:l[a]?=some x):dC l a 1=[x]:=by rw[Dz h];simp[dC]
theorem A5 {α:Type}{l:List α}(h:l.length<=a)(m:Nat):dC l a m=[]:=by
 unfold dC;rw[List.drop_of_length_le h,List.take_nil]
theorem pC (l:List Int)(i:Nat):aY l i=dC l (60*i) 60:=by unfold aY dC;rw[Nat.mul_comm]
theorem LC (s:ay)(i:Nat):aQ s i=dC s (240*i) 240:=by unfold aQ dC;rw[Nat.mul_comm]
theorem oF (a b:List (Nat×Int))(l:Nat):bL (a++b) l=bL a l++bL b l:=by simp[bL]
section
variable {rd:Rd}{ch:Bool}{data:ay}{nums:List (List Int)}
theorem fN (h:eK rd data nums)(l:Nat):(nums.getD l []).length=(ax data.length).getD l 0:=by
 rw[<-h.shape];simp only[List.getD,aw5];cases nums[l]?<;>rfl
theorem mi (h:eK rd data nums){l i:Nat}{n:Int}(hn:(nums.getD l [])[i]?=some n):1<=n/\n<4096:=by
 have hm:=av7 hn;by_cases hl:l<nums.length
 ·rw[List.getD,av6 hl]at hm;exact h.range _ (awF hl) _ hm
 ·rw[List.getD,awY J]at hm;cases hm
theorem oG (size l:Nat)(hs:size<=16384)(hl:l<(ax size).length):size<=240*60 ^ l*(ax size).getD l 0/\∀ j,j<l->(ax size).getD j 0<=60 ^ (l-j)*(ax size).getD l 0:=by
 have hu:=(aL (n:=size) (each:=240) (k:=bQ size 240) dc7).1 (av9 _);have hv:=(aL (n:=bQ size 240) (each:=60) (k:=bQ (bQ size 240) 60) dc7).1 (av9 _);rcases aN size with⟨_,e⟩|⟨_,h2,e⟩|⟨_,h2,e⟩|⟨_,e⟩<;>rw[e]at hl ⊢
 ·simp at hl
 ·obtain rfl:l=0:=by simp at hl;omega
  exact⟨by simp;omega,λj h=>J⟩
 ·have hk:=(aL (n:=size) (each:=240) (k:=60) dc7).2 J;rcases l with _|_|l
  ·exact⟨by simp;omega,λj h=>J⟩
  ·refine⟨by simp;omega,λj h=>?_⟩;obtain rfl:j=0:=J
   simp;omega
  ·simp at hl;omega
 ·have hk:=(aL (n:=size) (each:=240) (k:=69) dc7).2 J;have dK:=(aL (n:=bQ size 240) (each:=60) (k:=2) dc7).2 J;rcases l with _|_|_|l
  ·exact⟨by simp;omega,λj h=>J⟩
  ·refine⟨by simp;omega,λj h=>?_⟩;obtain rfl:j=0:=J
   simp;omega
  ·refine⟨by simp;omega,λj h=>?_⟩;rcases j with _|_|j
   ·simp;omega
   ·simp;omega
   ·omega
  ·simp at hl;omega
def GV (ch:Bool)(data:ay)(nums:List (List Int))(l i m:Nat)(r:Except Int rt):Prop:=
 ∃ o,r=.ok (o,if ch=true then dC data (240*60 ^ l*i) (240*60 ^ l*m)else [])/\∀ j,bL o j=if j<=l then dC (nums.getD j []) (60 ^ (l-j)*i) (60 ^ (l-j)*m)else []
theorem Vf (h:eK rd data nums)(hs:data.length<=16384)(l:Nat)(hl:l<nums.length)(hf:∀ i (n:Int),(nums.getD l [])[i]?=some n->GV ch data nums l i 1 (nK rd ch data.length l i n))(m i:Nat):
  GV ch data nums l i m (cH (nK rd ch data.length l) i (dC (nums.getD l []) i m)):=by
 have hn:=fN h;have iA:l<(ax data.length).length:=by rw[<-h.shape];simpa using hl
 obtain⟨hc,hj⟩:=oG data.length l hs iA
 induction m generalizing i with
 |zero=>
  refine⟨[],?_,λj=>?_⟩
  ·simp[dC,cH]
  ·simp[dC,bL]
 |succ m ih=>
  cases hx:(nums.getD l [])[i]? with
  |none=>
   have hi:(ax data.length).getD l 0<=i:=by rw[<-hn];exact List.getElem?_eq_none_iff.1 hx
   rw[A5 (by rw[hn];exact hi)];refine⟨[],?_,λj=>?_⟩
   ·have:data.length<=240*60 ^ l*i:=av2 hc (awx _ hi);rw[A5 this];simp[cH]
   ·split
    ·rename_i Ox
     have:(nums.getD j []).length<=60 ^ (l-j)*i:=by
      rw[hn];rcases Nat.lt_or_eq_of_le Ox with h1|rfl
      ·exact av2 (hj j h1) (awx _ hi)
      ·simpa using hi
     rw[A5 this];rfl
    ·rfl
  |some n=>
   obtain⟨o,e,ho⟩:=hf i n hx;obtain⟨o',e',FG⟩:=ih (i+1);rw[Dz hx,cH,e];simp only;rw[e'];refine⟨o++o',?_,λj=>?_⟩
   ·simp only
    congr 2
    split
    ·rw[show 240*60 ^ l*(i+1)=240*60 ^ l*i+240*60 ^ l*1 by rw[Nat.mul_add],wt,<-Nat.mul_add,Nat.add_comm 1 m]
    ·rfl
   ·rw[oF,ho,FG];split
    ·rw[show 60 ^ (l-j)*(i+1)=60 ^ (l-j)*i+60 ^ (l-j)*1 by rw[Nat.mul_add],wt,<-Nat.mul_add,Nat.add_comm 1 m]
    ·rfl
theorem Vg (h:eK rd data nums)(hs:data.length<=16384)(l:Nat)(hl:l<nums.length):∀ i (n:Int),(nums.getD l [])[i]?=some n->GV ch data nums l i 1 (nK rd ch data.length l i n):=by
 induction l with
 |zero=>
  intro i n hx;have hr:=h.chunk i n hx;have hp:=j9 data i;refine⟨[(0,n)],?_,λj=>?_⟩
  ·unfold nK
   cases ch with
   |false=>simp
   |true=>
    simp only[↓reduceIte,hr];rw[awf (by rw[hp];omega),LC]
  ·cases j with
   |zero=>rw[awd (av9 0)];simp only[Nat.sub_zero,Nat.pow_zero,Nat.one_mul];rw[J7 hx];rfl
   |succ j=>simp[bL]
 |succ l ih=>
  intro i n hx;have hr:=h.ptr l i n hx;have hg:=kc (nums.getD l []) i;have hp:co (cM (aY (nums.getD l []) i))=aY (nums.getD l []) i:=sW _ λk hk=>by
   obtain⟨q,hq⟩:=axj (List.mem_of_mem_drop (awb hk));have:=mi h hq;omega
  obtain⟨o,e,ho⟩:=Vf (ch:=ch) h hs l J (ih J) 60 (60*i);rw[nK,hr];simp only[ws];rw[awf (by rw[hg,fN h];omega),hp,pC,e];refine⟨(l+1,n)::o,?_,λj=>?_⟩
  ·simp only;rw[show 240*60 ^ l*(60*i)=240*60 ^ (l+1)*i by rw[awy];simp[axk],show 240*60 ^ l*60=240*60 ^ (l+1)*1 by rw[awy];simp[axk]]
  ·have e1:bL ((l+1,n)::o) j=(if l+1=j then [n]else [])++bL o j:=by
    unfold bL;rw[axh];by_cases hj:l+1=j<;>simp[hj]
   rw[e1,ho];by_cases h1:j<=l
   ·rw[awf J,awd h1,awd J,awE];rw[show l+1-j=(l-j)+1 by omega,awy,axk,axk]
   ·rw[awf h1];by_cases h2:l+1=j
    ·subst h2;rw[awd rfl,awd J];simp only[Nat.sub_self,Nat.pow_zero,Nat.one_mul];rw[J7 hx];rfl
    ·rw[awf h2,awf J];rfl
theorem DA (ch:Bool)(rd:Rd)(size l i:Nat)(n:Int)(o:rt)(h:nK rd ch size l i n=.ok o):∀ x∈o.1,x.1<=l:=by
 induction l generalizing i n o with
 |zero=>
  unfold nK at h;split at h
  ·cases hr:rd n with
   |error e=>rw[hr]at h;cases h
   |ok s=>
    rw[hr]at h;simp only at h;split at h
    ·cases h
    ·injection h with h;subst h;simp
  ·injection h with h;subst h;simp
 |succ l ih=>
  rw[nK]at h
  cases hr:rd n with
  |error e=>rw[hr]at h;cases h
  |ok s=>
   rw[hr]at h;simp only at h;split at h
   ·cases h
   ·cases hk:cH (nK rd ch size l) (60*i) (co s)with
    |error e=>rw[hk]at h;cases h
    |ok p=>
     rw[hk]at h;injection h with h;subst h;have key:∀(L:List Int) c (q:rt),cH (nK rd ch size l) c L=.ok q->∀ x∈q.1,x.1<=l:=by
      intro L
      induction L with
      |nil=>intro c q hq;rw[cH]at hq;injection hq with hq;subst hq;simp
      |cons a L ihL=>
       intro c q hq;rw[cH]at hq
       cases ha:nK rd ch size l c a with
       |error e=>rw[ha]at hq;cases hq
       |ok u=>
        rw[ha]at hq;simp only at hq
        cases hb:cH (nK rd ch size l) (c+1) L with
        |error e=>rw[hb]at hq;cases hq
        |ok v=>
         rw[hb]at hq;injection hq with hq;subst hq;intro x hx;rcases aw8.1 hx with hx|hx
         ·exact ih _ _ _ ha x hx
         ·exact ihL _ _ hb x hx
     intro x hx;rcases aws.1 hx with rfl|hx
     ·exact av9 _
     ·have:=key _ _ _ hk x hx;omega
theorem LF (o:List (Nat×Int))(n:Int):n∈dG o↔∃ l,n∈bL o l:=by
 unfold dG bL;simp only[awB,av1,awJ]
 constructor
 ·rintro⟨x,hx,rfl⟩;exact⟨x.1,x,⟨hx,rfl⟩,rfl⟩
 ·rintro⟨l,x,⟨hx,_⟩,rfl⟩;exact⟨x,hx,rfl⟩
def dj (data:ay)(nums:List (List Int)):fI:=if data.length=0 then⟨0,0⟩else⟨iF nums,data.length⟩
theorem J8 (size:Nat)(h:0<size)(hs:size<=16384):0<(ax size).length/\(ax size).getD ((ax size).length-1) 0=1:=by
 rcases aN size with⟨_,e⟩|⟨_,h2,e⟩|⟨_,h2,e⟩|⟨_,e⟩<;>rw[e]
 ·omega
 all_goals simp
theorem pD (h:eK rd data nums)(h0:0<data.length)(hs:data.length<=16384):0<nums.length/\nums.getD (nums.length-1) []=[iF nums]/\1<=iF nums/\iF nums<4096:=by
 obtain⟨h1,h2⟩:=J8 _ h0 hs;have hl:nums.length=(ax data.length).length:=by rw[<-h.shape];simp
 have hn:=fN h (nums.length-1);rw[hl,h2,<-hl]at hn;have e1:nums.getLastD []=nums.getD (nums.length-1) []:=by
  rcases List.eq_nil_or_concat nums with rfl|⟨r,x,rfl⟩
  ·rfl
  ·simp
 obtain⟨a,ha⟩:∃ a,nums.getD (nums.length-1) []=[a]:=List.length_eq_one_iff.1 hn;have e2:iF nums=a:=by unfold iF;rw[e1,ha];rfl
 refine⟨by omega,by rw[ha,e2],?_⟩;rw[e2];exact mi h (l:=nums.length-1) (i:=0) (by rw[ha];rfl)
theorem qI (h:eK rd data nums)(hs:data.length<=16384):(dj data nums).may=true:=by
 unfold dj fI.may;split
 ·rfl
 ·have:=pD h J hs;have e1:decide (iF nums=0)=false:=awe J;have e2:decide ((data.length:Int)=0)=false:=awe J;simp only[e1,e2,awo,awt];exact⟨⟨by omega,J⟩,rfl⟩
theorem kD (h:eK rd data nums)(hs:data.length<=16384)(ch:Bool):
  ∃ o,d7 rd (dj data nums) ch=.ok (o,if ch=true then data else [])/\nL (dj data nums) o=nums/\∀ n,n∈dG o↔n∈nums.flatten:=by
 unfold d7;rw[qI h hs,awf dc7];by_cases h0:data.length=0
 ·have hn:nums=[]:=by
   have:=h.shape;rw[h0]at this;exact List.map_eq_nil_iff.1 this
  have hd:data=[]:=awD.1 h0;subst hn hd;exact⟨[],by simp[dj],by simp[nL,dj,ax,bQ],by simp[dG]⟩
 ·obtain⟨h1,h2,h3,h4⟩:=pD h J hs;have hl:nums.length=(ax data.length).length:=by rw[<-h.shape];simp
  have eb:dj data nums=⟨iF nums,data.length⟩:=by unfold dj;rw[awf h0]
  rw[eb];simp only[awH];rw[awf J,<-hl];obtain⟨o,e,ho⟩:=Vg (ch:=ch) h hs (nums.length-1) J 0 (iF nums) (by rw[h2];rfl);have hc:=oG data.length (nums.length-1) hs J;rw[<-fN h,h2]at hc;simp only[List.length_singleton,Nat.mul_one]at hc;have aaO:∀ j,j<nums.length->bL o j=nums.getD j []:=by
   intro j hj;rw[ho,awd J,Nat.mul_zero,Nat.mul_one];have:(nums.getD j []).length<=60 ^ (nums.length-1-j):=by
    rw[fN h];rcases Nat.lt_or_eq_of_le (show j<=nums.length-1 by omega)with aP|rfl
    ·exact hc.2 j aP
    ·rw[<-fN h,h2];simp
   unfold dC;rw[awV,awQ this]
  refine⟨o,?_,?_,λn=>?_⟩
  ·rw[e]
   congr 2
   split
   ·unfold dC;rw[Nat.mul_zero,Nat.mul_one,awV,awQ hc.1]
   ·rfl
  ·unfold nL;simp only[awH];rw[<-hl];apply List.ext_getElem?;intro j;by_cases hj:j<nums.length
   ·simp only[aw5,aw6 hj,aw7,aaO j hj,List.getD,av6 hj,awG]
   ·rw[awY (by simp;omega),awY J]
  ·rw[LF,List.mem_flatten]
   constructor
   ·rintro⟨j,hj⟩;have KL:j<=nums.length-1:=by
     obtain⟨x,hx,rfl⟩:=awB.1 hj;have:=(av1.1 hx)
     have h5:=DA _ _ _ _ _ _ _ e x this.1;have:x.1=j:=by simpa using this.2
     omega
    rw[aaO j J]at hj;refine⟨_,?_,hj⟩;rw[List.getD,av6 (by omega:j<nums.length)];exact awF _
   ·rintro⟨l,KF,hn⟩;obtain⟨j,hj,rfl⟩:=List.getElem_of_mem KF;refine⟨j,?_⟩;rw[aaO j hj,List.getD,av6 hj];exact hn
theorem P4 (h:eK rd data nums)(hs:data.length<=16384):∃ o,oo rd (dj data nums)=.ok o/\∀ n,n∈o↔n∈nums.flatten:=by
 obtain⟨o,e,_,ho⟩:=kD h hs false;exact⟨_,by unfold oo;rw[e];rfl,ho⟩
end
end
end Go.Proofs.YtkghpdcloaiflaaGreatDoor
