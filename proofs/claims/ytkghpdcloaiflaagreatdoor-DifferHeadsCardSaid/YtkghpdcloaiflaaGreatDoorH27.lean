import Derived.Test.YtkghpdcloaiflaaGreatDoorH26
set_option maxHeartbeats 2000000
set_option maxRecDepth 100000
namespace Go.Proofs.YtkghpdcloaiflaaGreatDoor
open _root_.Go.Proofs.Tryz
variable {S S':Nat->Prop}{blocks id k n:Nat}{p:Nat->Bool}
section
open Go.RowKit
def uj (x:Sn):List Value:=[.string ⟨x.name.toArray⟩,.int .i64 x.id,.int .i64 x.plane,.int .i64 x.table.root,.int .i64 x.table.size]
abbrev Bu (x:Sn):Value:=.agg #[.string ⟨x.name.toArray⟩,.int .i64 x.id,.int .i64 x.plane,.int .i64 x.table.root,.int .i64 x.table.size]
theorem jk:∀ x,(uj x).length=5:=λ_=>rfl
theorem Kj:∀ x,∀ u∈uj x,u.oneCell'=true:=by
 intro x u hu;simp only[uj,aws,List.not_mem_nil,or_false]at hu;rcases hu with rfl|rfl|rfl|rfl|rfl<;>rfl
abbrev Bw:Value:=.agg #[.func (.func 260) #[] #[],.func (.func 262) #[] #[],.func (.func 263) #[] #[]]
def Iz (was:Int)(x:Sn):Prop:=was<x.id/\aJ x.name=true/\x.id<=1099511627776/\1<=x.plane/\x.plane<=7/\x.table.ok=true
def ZU:Sn:=⟨[],0,0,⟨0,0⟩⟩
def dg (l:List Sn)(k:Nat):Sn:=(l.take k).getLastD ZU
def cd (x:Sn):List ay:=[(aD x.name.length++x.name),aD x.id.toNat,aD x.plane.toNat,aD x.table.root.toNat,aD x.table.size.toNat]
theorem rS {l:List Sn}{x:Sn}(h:l[k]?=some x):dg l (k+1)=x:=by
 unfold dg;rw[av8,h];simp
theorem uk (x:Sn):(cd x).flatten=oI x:=by simp[cd,oI,yM]
theorem Kk:∀ {l:List Sn} {was:Int},Uk was l=true->∀ k x,l[k]?=some x->Iz (match k with|0=>was|j+1=>((l[j]?).map (λy:Sn=>y.id)).getD 0) x
 |[],_,_,k,x,hk=>by simp at hk
 |y::r,was,h,k,x,hk=>by
  have h':=h;simp only[Uk,awo,awt]at h'
  cases k with
  |zero=>
   simp at hk;subst hk;simp only[Iz]
   simp_all
  |succ j=>
   have ih:=Kk (l:=r) (was:=y.id) h'.2 j x (by simpa using hk)
   cases j with
   |zero=>simpa using ih
   |succ i=>simpa using ih
theorem xn {l:List Sn}(h:Uk 0 l=true){x:Sn}(hk:l[k]?=some x):Iz (dg l k).id x:=by
 have h1:=Kk h k x hk
 cases k with
 |zero=>exact h1
 |succ j=>
  have hj:j<l.length:=by have:=(awk.1 hk).1;omega
  have e:dg l (j+1)=l[j]:=rS (av6 hj);rw[e];simpa[av6 hj]using h1
theorem Mx (was x:Sn)(first:Bool)(h:Iz was.id x)(w:World):
  Calls prog 260 #[Bu was,Bu x,.bool first] w λe w'=>e=.returned (.bool true)/\af w w':=by
 have HB:=Z (λW=>Ad x.table (by unfold Iz at h;simp_all) W);obtain⟨h1,h2,h3,h4,h5,h6⟩:=h;obtain⟨s0,i0,p0,r0,z0⟩:=was;obtain⟨s,i,pl,r,z⟩:=x;simp only at h1 h3 h4 h5;have bt:s.length<=16:=by have h7:=h2;simp only[aJ,awo,awt]at h7;omega
 have HN:=Z (λW=>oO s W J);have H2:Hid (aJ s=true):=Z h2;clear h2 h6 bt;have hbv:cR ⟨r,z⟩=.agg #[.int .i64 r,.int .i64 z]:=rfl;simp only[hbv]at HB;go_enter func260,ntmps260;go_wp2_with fail;refine(HN.o _).mono ?_;rintro e w3 ⟨rfl,hk⟩;rw[H2.o];have ic:World.blk w3 w.heap.size #[.string ⟨s0.toArray⟩,.int .i64 i0,.int .i64 p0,.int .i64 r0,.int .i64 z0] 85:=ab hk (aE (av _ _ _) _) id;have hb1:World.blk w3 (w.heap.size+1) #[.string ⟨s.toArray⟩,.int .i64 i,.int .i64 pl,.int .i64 r,.int .i64 z] 85:=ab hk (aV sp7 _ _) id;have c0:w3.cell? ⟨w.heap.size,1,none⟩=some (.int .i64 i0):=aa ic 1;have c1:w3.cell? ⟨w.heap.size+1,1,none⟩=some (.int .i64 i):=aa hb1 1;have c2:w3.cell? ⟨w.heap.size+1,2,none⟩=some (.int .i64 pl):=aa hb1 2;have c3:w3.cell? ⟨w.heap.size+1,3,none⟩=some (.int .i64 r):=aa hb1 3;have c4:w3.cell? ⟨w.heap.size+1,4,none⟩=some (.int .i64 z):=aa hb1 4;have HK:=Z (cZ (cZ hk));clear hk ic hb1;go_wp2_with fail;refine(HB.o _).mono ?_;rintro e w4 ⟨rfl,jE⟩;have pO:=Z (HK.keep jE);clear jE;go_wp2;go_ret;exact⟨rfl,pO.o⟩
theorem My (x:Sn)(w:World):
  Calls prog 262 #[Bu x] w λe w'=>∃ b,e=.returned (.slice (some ⟨b,0,none⟩) 5 5)/\w.heap.size<=b/\af w w'/\World.blk w' b #[.iface 9 (.string ⟨x.name.toArray⟩),.iface 3 (.int .i64 x.id),.iface 3 (.int .i64 x.plane),.iface 3 (.int .i64 x.table.root),.iface 3 (.int .i64 x.table.size)] 20:=by
 obtain⟨s,i,pl,r,z⟩:=x;go_enter func262,ntmps262;go_wp2;go_ret;exact⟨_,rfl,J,((ai.refl _ _).alloc _).alloc _,aV sp7 _ _⟩
theorem IA (w:World):
  Calls prog 211 #[] w λe w'=>e=.returned Bw/\af w w':=by
 go_enter func211,ntmps211;go_wp2_with fail;exact awC (v:=Bw) (by simp[results,Tryz.results211,go_sem]) rfl ⟨rfl,(ai.refl _ _).alloc _⟩
def jA (x:fD):List Value:=[.int .i64 x.num,.bool x.dir,.int .i64 x.links,.int .i64 x.blob.root,.int .i64 x.blob.size]
abbrev ZV (x:fD):Value:=.agg #[.int .i64 x.num,.bool x.dir,.int .i64 x.links,.int .i64 x.blob.root,.int .i64 x.blob.size]
theorem xo:∀ x,(jA x).length=5:=λ_=>rfl
theorem QY:∀ x,∀ u∈jA x,u.oneCell'=true:=by
 intro x u hu;simp only[jA,aws,List.not_mem_nil,or_false]at hu;rcases hu with rfl|rfl|rfl|rfl|rfl<;>rfl
abbrev uY:Value:=.agg #[.func (.func 277) #[] #[],.func (.func 278) #[] #[],.func (.func 280) #[] #[]]
def xp (was:Int)(x:fD):Prop:=was<x.num/\x.num<=65535/\1<=x.links/\x.links<=65535/\x.blob.ok=true
def VV:fD:=⟨0,false,0,⟨0,0⟩⟩
def cy (l:List fD)(k:Nat):fD:=(l.take k).getLastD VV
def cA (x:fD):List ay:=[aD x.num.toNat,aD (if x.dir=true then 1 else 0),aD x.links.toNat,aD x.blob.root.toNat,aD x.blob.size.toNat]
theorem qi {l:List fD}{x:fD}(h:l[k]?=some x):cy l (k+1)=x:=by
 unfold cy;rw[av8,h];simp
theorem rT (x:fD):(cA x).flatten=nQ x:=by simp[cA,nQ,yM]
theorem Ew:∀ {l:List fD} {was:Int},yN was l=true->∀ k x,l[k]?=some x->xp (match k with|0=>was|j+1=>((l[j]?).map (λy:fD=>y.num)).getD 0) x
 |[],_,_,k,x,hk=>by simp at hk
 |y::r,was,h,k,x,hk=>by
  have h':=h;simp only[yN,awo,awt]at h'
  cases k with
  |zero=>
   simp at hk;subst hk;simp only[xp]
   simp_all
  |succ j=>
   have ih:=Ew (l:=r) (was:=y.num) h'.2 j x (by simpa using hk)
   cases j with
   |zero=>simpa using ih
   |succ i=>simpa using ih
theorem ul {l:List fD}(h:yN 0 l=true){x:fD}(hk:l[k]?=some x):xp (cy l k).num x:=by
 have h1:=Ew h k x hk
 cases k with
 |zero=>exact h1
 |succ j=>
  have hj:j<l.length:=by have:=(awk.1 hk).1;omega
  have e:cy l (j+1)=l[j]:=qi (av6 hj);rw[e];simpa[av6 hj]using h1
theorem IB (was x:fD)(first:Bool)(h:xp was.num x)(w:World):
  Calls prog 277 #[ZV was,ZV x,.bool first] w λe w'=>e=.returned (.bool true)/\af w w':=by
 have HB:=Z (λW=>Ad x.blob (by unfold xp at h;simp_all) W);obtain⟨h1,h2,h3,h4,h5⟩:=h;obtain⟨n0,d0,l0,r0,z0⟩:=was;obtain⟨n,di,li,r,z⟩:=x;simp only at h1 h2 h3 h4;clear h5;have hbv:cR ⟨r,z⟩=.agg #[.int .i64 r,.int .i64 z]:=rfl;simp only[hbv]at HB;have hk:af w ((w.alloc (.cells #[.int .i64 n0,.bool d0,.int .i64 l0,.int .i64 r0,.int .i64 z0] 128)).alloc (.cells #[.int .i64 n,.bool di,.int .i64 li,.int .i64 r,.int .i64 z] 128)):=((ai.refl _ w).alloc _).alloc _;have HK:=Z hk;clear hk;go_enter func277,ntmps277;go_wp2_with fail;refine(HB.o _).mono ?_;rintro e w4 ⟨rfl,jE⟩;have pO:=Z (HK.keep jE);clear jE;go_wp2;go_ret;exact⟨rfl,pO.o⟩
theorem VW (b:Bool)(w:World):Calls prog 279 #[.bool b] w λe w'=>e=.returned (.int .i64 (if b=true then 1 else 0))/\af w w':=by
 cases b with
 |true=>
  go_enter func279,ntmps279;go_wp2;go_ret;exact⟨rfl,ai.refl _ _⟩
 |false=>
  go_enter func279,ntmps279;go_wp2;go_ret;exact⟨rfl,ai.refl _ _⟩
theorem IC (x:fD)(w:World):
  Calls prog 278 #[ZV x] w λe w'=>∃ b,e=.returned (.slice (some ⟨b,0,none⟩) 5 5)/\w.heap.size<=b/\af w w'/\World.blk w' b #[.iface 3 (.int .i64 x.num),.iface 3 (.int .i64 (if x.dir=true then 1 else 0)),.iface 3 (.int .i64 x.links),.iface 3 (.int .i64 x.blob.root),.iface 3 (.int .i64 x.blob.size)] 20:=by
 obtain⟨n,di,li,r,z⟩:=x;have BI:=VW di;obtain⟨bv,hbv⟩:∃ bv:Int,(if di=true then(1:Int)else 0)=bv:=⟨_,rfl⟩
 simp only[hbv]at BI ⊢;clear hbv;have BI:=Z BI;obtain⟨W,hW⟩:∃ W,w.alloc (.cells #[.int .i64 n,.bool di,.int .i64 li,.int .i64 r,.int .i64 z] 128)=W:=⟨_,rfl⟩
 have k0:af w W:=by rw[<-hW];exact(ai.refl _ w).alloc _
 have b0:World.blk W w.heap.size #[.int .i64 n,.bool di,.int .i64 li,.int .i64 r,.int .i64 z] 128:=by rw[<-hW];exact av w _ _
 have cx:∀(x:zu) (o:Nat),(W.ext x).cell? ⟨w.heap.size,o,none⟩=(#[.int .i64 n,.bool di,.int .i64 li,.int .i64 r,.int .i64 z]:Array Value)[o]?:=λx o=>aa (ab (aC W x) b0 id) o;have c0:∀ x,(W.ext x).cell? ⟨w.heap.size,0,none⟩=some (.int .i64 n):=λx=>cx x 0;have c1:∀ x,(W.ext x).cell? ⟨w.heap.size,1,none⟩=some (.bool di):=λx=>cx x 1;have c2:∀ x,(W.ext x).cell? ⟨w.heap.size,2,none⟩=some (.int .i64 li):=λx=>cx x 2;have c3:∀ x,(W.ext x).cell? ⟨w.heap.size,3,none⟩=some (.int .i64 r):=λx=>cx x 3;have c4:∀ x,(W.ext x).cell? ⟨w.heap.size,4,none⟩=some (.int .i64 z):=λx=>cx x 4;have HK:=Z k0;clear k0 b0 cx;go_enter func278,ntmps278;go_wp2_with fail;refine rG 18 kr7 kr7 ?_;simp only[awS,awT,awU,awV]
 repeat (quiet_step (with_reducible exact ar (BI.o _)))
 refine awX ?_;intro _ bD;obtain⟨xq,rfl⟩:=bD;have bJ:=Z (HK.keep (aC W xq));have cJ:=bJ.size;go_wp2;go_ret;have he:(W.ext xq).heap.size=W.heap.size+xq.objs.size:=by simp[World.ext]
 exact⟨_,rfl,by rw[<-he];exact cJ,bJ.alloc _,aV he.symm _ _⟩
theorem Ex (w:World):
  Calls prog 226 #[] w λe w'=>e=.returned uY/\af w w':=by
 go_enter func226,ntmps226;go_wp2_with fail;exact awC (v:=uY) (by simp[results,Tryz.results226,go_sem]) rfl ⟨rfl,(ai.refl _ _).alloc _⟩
end
theorem mn.turn {rd KR:Rd}:∀ {ys:List fD} {xs:List Nt} {S:Nat->Prop},mn rd ys xs S->(∀ n:Nat,S n->KR n=rd n)->mn KR ys xs S
 |[],[],_,h,_=>h
 |_y::_ys,_x::_xs,_S,⟨h1,A,B,h2,h3,h4⟩,hr=>⟨h1,A,B,h2.turn λn hn=>hr n ((h4 n).2 (.inl hn)),h3.turn λn hn=>hr n ((h4 n).2 (.inr hn)),h4⟩
 |[],_::_,_,h,_=>h.elim
 |_::_,[],_,h,_=>h.elim
theorem lz.turn {rd KR:Rd}{ys:List fD}{xs:List Nt}{t:fI}(h:lz rd ys xs t S)(hr:∀ n:Nat,S n->KR n=rd n):lz KR ys xs t S:=by
 obtain⟨A,B,h1,h2,h3⟩:=h;exact⟨A,B,h1.turn λn hn=>hr n ((h3 n).2 (.inl hn)),h2.turn λn hn=>hr n ((h3 n).2 (.inr hn)),h3⟩
theorem mn.len {rd:Rd}:∀ {ys:List fD} {xs:List Nt} {S:Nat->Prop},mn rd ys xs S->ys.length=xs.length
 |[],[],_,_=>rfl
 |y::ys,x::xs,S,⟨_,A,B,_,h3,_⟩=>by simp[h3.len]
 |[],_::_,_,h=>h.elim
 |_::_,[],_,h=>h.elim
theorem mn.nums {rd:Rd}:∀ {ys:List fD} {xs:List Nt} {S:Nat->Prop},mn rd ys xs S->ys.map (·.num)=xs.map (·.num)
 |[],[],_,_=>rfl
 |y::ys,x::xs,S,⟨h1,A,B,_,h3,_⟩=>by simp[h3.nums,h1.1]
 |[],_::_,_,h=>h.elim
 |_::_,[],_,h=>h.elim
theorem mn.lt {rd:Rd}:∀ {ys:List fD} {xs:List Nt} {S:Nat->Prop},mn rd ys xs S->∀ n,S n->1<=n/\n<4096
 |[],[],_,h,n,hn=>absurd hn (h n)
 |y::ys,x::xs,S,⟨_,A,B,h2,h3,h4⟩,n,hn=>by
  rcases(h4 n).1 hn with h|h
  ·exact h2.lt h
  ·exact h3.lt n h
 |[],_::_,_,h,_,_=>h.elim
 |_::_,[],_,h,_,_=>h.elim
theorem mn.find {rd:Rd}:∀ {ys:List fD} {xs:List Nt} {S:Nat->Prop},mn rd ys xs S->∀ k:Int,
  ∃ br A,aW rd br (dR ys k) A/\(∀ n,A n->S n)/\br=cF xs k
 |[],[],_,_,k=>⟨[],λ_=>False,iY rd,λ_=>False.elim,rfl⟩
 |y::ys,x::xs,S,⟨h1,A,B,h2,h3,h4⟩,k=>by
  obtain⟨br,C,c1,c2,c3⟩:=h3.find k;have hn:=h3.nums;have key:(ys.filter λz=>z.num==k)=[]↔(xs.filter λz=>z.num==k)=[]:=by
   rw[List.filter_eq_nil_iff,List.filter_eq_nil_iff];have e:(∀ a∈ys,¬(a.num==k)=true)↔∀ m∈ys.map (·.num),¬(m==k)=true:=by simp
   have e2:(∀ a∈xs,¬(a.num==k)=true)↔∀ m∈xs.map (·.num),¬(m==k)=true:=by simp
   rw[e,e2,hn]
  by_cases hk:(ys.filter λz=>z.num==k)=[]
  ·by_cases hy:(y.num==k)=true
   ·refine⟨x.data,A,?_,λn hn=>(h4 n).2 (.inl hn),?_⟩
    ·unfold dR;rw[axh,awd hy,hk];exact h2
    ·have hx:(x.num==k)=true:=by rw[<-h1.1];exact hy
     unfold cF;rw[axh,awd hx,key.1 hk];rfl
   ·refine⟨br,C,?_,λn hn=>(h4 n).2 (.inr (c2 n hn)),?_⟩
    ·unfold dR at c1 ⊢;rw[axh,awf hy];exact c1
    ·have hx:¬(x.num==k)=true:=by rw[<-h1.1];exact hy
     unfold cF at c3 ⊢;rw[axh,awf hx];exact c3
  ·refine⟨br,C,?_,λn hn=>(h4 n).2 (.inr (c2 n hn)),?_⟩
   ·have:dR (y::ys) k=dR ys k:=by
     unfold dR;rw[axh];by_cases hy:(y.num==k)=true
     ·rw[awd hy,List.getLast?_cons]
      cases hg:(ys.filter λz=>z.num==k).getLast? with
      |none=>exact absurd (List.getLast?_eq_none_iff.1 hg) hk
      |some z=>rfl
     ·rw[awf hy]
    rw[this];exact c1
   ·have dK:¬(xs.filter λz=>z.num==k)=[]:=λh=>hk (key.2 h);have:cF (x::xs) k=cF xs k:=by
     unfold cF;rw[axh];by_cases hy:(x.num==k)=true
     ·rw[awd hy,List.getLast?_cons]
      cases hg:(xs.filter λz=>z.num==k).getLast? with
      |none=>exact absurd (List.getLast?_eq_none_iff.1 hg) dK
      |some z=>rfl
     ·rw[awf hy]
    rw[this];exact c3
 |[],_::_,_,h,_=>h.elim
 |_::_,[],_,h,_=>h.elim
def i6 (p:Pl)(S:Nat->Prop):Prop:=∀ n,S n->aq p.used n=true/\n<p.blocks
theorem i6.grow {t t':gy}(h:i6 t.pool S)(g:dd t t' k):i6 t'.pool S:=λn hn=>⟨g.used n (h n hn).1,by rw[g.blocks];exact(h n hn).2⟩
theorem dd.same {t t':gy}(g:dd t t' k)(h:i6 t.pool S)(n:Nat)(hn:S n):t'.rd n=t.rd n:=g.keepRd (h n hn).1
theorem eF {t:gy}{br data:ay}{b:fI}(ht:cE t.pool)(h:aW t.rd br b S)(hS:i6 t.pool S)(hs:data.length<=16384)(hc:cY br data<=t.pool.left):
  ∃ b' t' S',dz t b data=.ok (b',t')/\aW t'.rd data b' S'/\dd t t' (cY br data)/\i6 t'.pool S'/\(∀ n,S' n->S n\/aq t.pool.used n=false)/\(br=data->b'=b/\t'=t/\∀ n,S' n↔S n):=by
 by_cases he:br=data
 ·subst he;have hh:br.length<=16384:=h.1;exact⟨b,t,S,DE h,h,by rw[kH br hh];exact dd.refl ht,hS,λn hn=>.inl hn,λ_=>⟨rfl,rfl,λ_=>Iff.rfl⟩⟩
 ·have h':=h;obtain⟨hh,was,rfl,hw,hSw⟩:=h;have hu:∀ l∈was,∀ n∈l,fC t.pool n:=by
   intro l hl n hn;have hf:n∈was.flatten:=List.mem_flatten.2 ⟨l,hl,hn⟩;have hr:=mV hw hf;obtain⟨k,rfl⟩:∃ k:Nat,n=k:=⟨n.toNat,J⟩
   obtain⟨h1,h2⟩:=hS k ((hSw k).2 hf);exact⟨k,rfl,h1,J,h2⟩
  obtain⟨nums,t',e,h1,h2,h3,h4⟩:=LH ht hw hu hs hh hc;refine⟨_,t',λn=>(n:Int)∈nums.flatten,e,⟨hs,nums,rfl,h1,λ_=>Iff.rfl⟩,h2,λn hn=>?_,λn hn=>?_,λh=>absurd h he⟩
  ·obtain⟨l,hl,hm⟩:=List.mem_flatten.1 hn;obtain⟨k,e,a,b,c⟩:=h3 l hl _ hm;have:n=k:=J
   subst this;exact⟨a,c⟩
  ·rcases h4 n hn with h|h
   ·exact .inl ((hSw n).2 h)
   ·exact .inr h
theorem xr (was:List fD)(br:Int->ay)(U:Pl)(mG:Nat->Prop)(hSu:∀ n,mG n->aq U.used n=true/\n<U.blocks):∀(r:List Nt) (set:ay) (t:gy),cE t.pool->t.pool.blocks=U.blocks->(∀ n,aq U.used n=true->aq t.pool.used n=true)->
  (∀ x∈r,x.data.length<=16384/\∃ A,aW t.rd (br x.num) (dR was x.num) A/\∀ n,A n->mG n)->((r.map λx=>cY (br x.num) x.data).sum<=t.pool.left)->eP set->
  ∃ inos Sv t' S,mj was r set t=.ok (inos,Sv,t')/\mn t'.rd inos r S/\dd t t' (r.map λx=>cY (br x.num) x.data).sum/\i6 t'.pool S/\(∀ n,S n->mG n\/aq U.used n=false)/\eP Sv/\(∀ n,aq Sv n=true↔aq set n=true\/S n)/\
   ((∀ x∈r,br x.num=x.data)->inos=r.map (λx=>⟨x.num,x.dir,x.links,dR was x.num⟩)/\t'=t)
 |[],set,t,ht,JF,hut,hr,hc,hls=>⟨[],set,t,λ_=>False,rfl,λ_ h=>h,dd.refl ht,λ_ h=>h.elim,λ_ h=>h.elim,hls,λn=>by simp,λ_=>⟨rfl,rfl⟩⟩
 |x::r,set,t,ht,JF,hut,hr,hc,hls=>by
  rw[av3,av4]at hc;obtain⟨hx,A,hA,hAs⟩:=hr x sp7;have hAp:i6 t.pool A:=λn hn=>⟨hut n (hSu n (hAs n hn)).1,by rw[JF];exact(hSu n (hAs n hn)).2⟩
  obtain⟨b,t1,S1,e1,h1,g1,p1,q1,k1⟩:=eF ht hA hAp hx J;obtain⟨s,e2,kX,h2⟩:=h1.reached set;obtain⟨inos,Sv,t',S,e3,h3,g3,p3,q3,Ut,h4,k3⟩:=xr was br U mG hSu r s t1 g1.ok (g1.blocks.trans JF) (λn hn=>g1.used n (hut n hn)) (λy hy=>by
   obtain⟨hy1,B,hB,hBs⟩:=hr y (by simp[hy]);refine⟨hy1,B,hB.turn λn hn=>?_,hBs⟩;exact g1.keepRd (hut n (hSu n (hBs n hn)).1)) (by have:=g1.left;omega) kX
  refine⟨⟨x.num,x.dir,x.links,b⟩::inos,Sv,t',λn=>S1 n\/S n,?_,⟨⟨rfl,rfl,rfl⟩,S1,S,h1.turn λn hn=>g3.same p1 n hn,h3,λn=>Iff.rfl⟩,?_,?_,?_,Ut,?_,?_⟩
  ·rw[mj,e1];simp only;rw[e2];simp only;rw[e3];rfl
  ·rw[av3,av4];exact g1.trans g3
  ·intro n hn;rcases hn with hn|hn
   ·exact p1.grow g3 n hn
   ·exact p3 n hn
  ·intro n hn;rcases hn with hn|hn
   ·rcases q1 n hn with h|h
    ·exact .inl (hAs n h)
    ·right
     cases hu:aq U.used n with
     |false=>rfl
     |true=>rw[hut n hu]at h;cases h
   ·exact q3 n hn
  ·intro n;rw[h4,h2,or_assoc]
  ·intro nC;obtain⟨kb,kt,_⟩:=k1 (nC x sp7);obtain⟨ki,kt'⟩:=k3 (λy hy=>nC y (by simp[hy]));exact⟨by rw[av3,ki,kb],by rw[kt',kt]⟩
def jM (p:Nat->Bool)(blocks:Nat):Nat:=((List.range' 1 (blocks-1)).filter p).length
theorem QZ {a b c d:Nat->Bool}(h:∀ n,1<=n->n<blocks->(if a n=true then 1 else 0)+(if b n=true then 1 else 0)+(if c n=true then 1 else 0)<=(if d n=true then 1 else 0)):jM a blocks+jM b blocks+jM c blocks<=jM d blocks:=by
 unfold jM;have key:∀ l:List Nat,(∀ n∈l,1<=n/\n<blocks)->(l.filter a).length+(l.filter b).length+(l.filter c).length<=(l.filter d).length:=by
  intro l
  induction l with
  |nil=>intro _;simp
  |cons n l ih=>
   intro hl;have h1:=ih λm hm=>hl m (by simp[hm]);have h2:=h n (hl n sp7).1 (hl n sp7).2;simp only[axh]
   cases ha:a n<;>cases hb:b n<;>cases hc:c n<;>cases hd:d n<;>simp only[ha,hb,hc,hd,if_true,Bool.false_eq_true,if_false,av5]at h2 ⊢<;>omega
 exact key _ λn hn=>by rw[aw3]at hn;omega
theorem Q0 (h1:1<=n)(h2:n<blocks)(h:p n=true):1<=jM p blocks:=by
 unfold jM;exact List.length_pos_of_mem (a:=n) (by rw[av1,aw3];exact⟨by omega,h⟩)
theorem IE (p q:Nat->Bool)(blocks:Nat):jM p blocks=jM (λn=>p n&&q n) blocks+jM (λn=>p n&&!q n) blocks:=by
 unfold jM
 induction List.range' 1 (blocks-1)with
 |nil=>rfl
 |cons n l ih=>
  simp only[axh]
  cases p n<;>cases q n<;>simp<;>omega
theorem i7 {q:Nat->Bool}(h:∀ n,1<=n->n<blocks->p n=q n):jM p blocks=jM q blocks:=by
 unfold jM;rw[List.filter_congr];intro n hn;rw[aw3]at hn;exact h n J J
theorem mt (used:ay)(blocks:Nat):kF used blocks=jM (λn=>!aq used n) blocks:=rfl
theorem Ey {t t':gy}(g:dd t t' k)(ht:cE t.pool):jM (λn=>aq t'.pool.used n&&!aq t.pool.used n) t.pool.blocks=k:=by
 have h1:=ht.left;have h2:=g.ok.left;have h3:=g.left;rw[mt]at h1 h2;rw[g.blocks]at h2;have h4:=IE (λn=>!aq t.pool.used n) (λn=>aq t'.pool.used n) t.pool.blocks;have e1:jM (λn=>!aq t.pool.used n&&aq t'.pool.used n) t.pool.blocks=jM (λn=>aq t'.pool.used n&&!aq t.pool.used n) t.pool.blocks:=i7 λn _ _=>Bool.and_comm _ _;have e2:jM (λn=>!aq t.pool.used n&&!aq t'.pool.used n) t.pool.blocks=jM (λn=>!aq t'.pool.used n) t.pool.blocks:=i7 λn _ _=>by
  have:=g.used n
  cases ha:aq t.pool.used n<;>cases hb:aq t'.pool.used n<;>simp_all
 omega
theorem xt (rd:Rd):∀(k:Nat) (p:Pl),cE p->k<=p.left->∃ q,oJ k p=.ok q/\dd ⟨rd,p⟩ ⟨rd,q⟩ k
 |0,p,h,_=>⟨p,rfl,dd.refl h⟩
 |k+1,p,h,hl=>by
  obtain⟨n,p',e,h1,h2,h3,h4,h5,h6,h7,h8⟩:=uV h J;obtain⟨q,e2,g⟩:=xt rd k p' h4 J;refine⟨q,by rw[oJ,e];exact e2,?_⟩;have g1:dd ⟨rd,p⟩ ⟨rd,p'⟩ 1:=by
   refine⟨h4,λk hk=>by show aq p'.used k=true;rw[h7];simp[show aq p.used k=true from hk],λk=>?_,h6,h5,λ_ _=>rfl,λk hk dK=>?_⟩
   ·show aq p'.taken k=(aq p.taken k||(aq p'.used k&&!aq p.used k));rw[h8,h7];by_cases hk:k=n
    ·subst hk;simp[h3]
    ·have:(k==n)=false:=by simp[hk]
     rw[this];cases aq p.used k<;>simp
   ·have FU:aq p'.used k=true:=hk;rw[h7]at FU;have dr:aq p.used k=false:=dK;rw[dr]at FU;have:k=n:=by simpa using FU
    subst this;exact⟨h1,h2⟩
  have:=g1.trans g
  rwa [Nat.add_comm]at this
theorem rU {used:ay}{next:Nat}(h1:1<=next)(h2:next<=blocks)(h3:blocks<=4096):cE (gp used blocks next):=⟨h1,h2,h3,rfl⟩
theorem Q5 (planes:List ay)(n:Nat):aq (cT planes) n=planes.any λs=>aq s n:=by
 unfold cT;have:∀(l:List ay) (a:ay),aq (l.foldl dZ a) n=(aq a n||l.any λs=>aq s n):=by
  intro l
  induction l with
  |nil=>intro a;simp
  |cons s l ih=>intro a;rw[List.foldl_cons,ih,iN,List.any_cons,Bool.or_assoc]
 rw[this];rfl
theorem oR (planes:List ay)(blocks:Nat):(gV planes blocks).length=blocks:=by simp[gV]
def lD (was:Int):List Nt->Bool
 |[]=>true
 |x::r=>decide (was<x.num)&&decide (x.num<=65535)&&lD x.num r
structure NodesOk (l:List Nt):Prop where
 many:l.length<=60
 nums:lD 0 l=true
 links:∀ x∈l,1<=x.links/\x.links<=3600
 data:∀ x∈l,x.data.length<=16384
structure iw (l:List Nt):Prop extends NodesOk l where
 made:∃ T d,WF T d/\aw T=l
structure jl (l:List Sn)(id:Nat):Prop where
 many:l.length<=7
 name:∀ x∈l,aJ x.name=true/\x.name.length<=16
 names:(l.map (·.name)).Nodup
 plane:∀ x∈l,1<=x.plane/\x.plane<=7
 planes:(l.map (·.plane)).Nodup
 ids:l.Pairwise λa b=>a.id<b.id
 idlo:∀ x∈l,1<=x.id/\x.id<id
 top:1<=id/\id<=1099511627777
theorem ja {l:List Nt}:∀ {was:Int},lD was l=true->∀ x∈l,was<x.num/\x.num<=65535:=by
 induction l with
 |nil=>intro _ _ x hx;simp at hx
 |cons y l ih=>
  intro was h x hx;simp only[lD,awo,awt]at h;rcases aws.1 hx with rfl|hx
  ·exact h.1
  ·have:=ih h.2 x hx;omega
theorem oS {l:List Nt}:∀ {was:Int},lD was l=true->∀ x∈l,cF l x.num=x.data:=by
 induction l with
 |nil=>intro _ _ x hx;simp at hx
 |cons y l ih=>
  intro was h x hx;simp only[lD,awo,awt]at h;rcases aws.1 hx with rfl|hx
  ·have:l.filter (λz=>z.num==x.num)=[]:=by
    rw[List.filter_eq_nil_iff];intro z hz;have:=ja h.2 z hz;simp;omega
   unfold cF;rw[axh,awd sp7,this];rfl
  ·have h1:=ih h.2 x hx;have:=ja h.2 x hx;unfold cF at h1 ⊢;rw[axh,awf (by simp;omega)];exact h1
theorem XR {α:Type _}{l:List α}{f:α->Nat}(h:∀ x∈l,f x<=k):(l.map f).sum<=k*l.length:=by
 induction l with
 |nil=>simp
 |cons a l ih=>
  have h1:=ih λx hx=>h x (by simp[hx]);have h2:=h a sp7;simp only[av3,av4,av5,Nat.mul_succ];omega
theorem oT {b:fI}(h:0<=b.root/\b.root<4096/\0<=b.size/\b.size<=16384):(yM b).length<=5:=by
 have h1:=ei 1 b.root.toNat J;have h2:=ei 2 b.size.toNat J;unfold yM;simp;omega
theorem xu {rd:Rd}:∀ {inos:List fD} {nodes:List Nt} {S:Nat->Prop} {was:Int},mn rd inos nodes S->lD was nodes=true->(∀ x∈nodes,1<=x.links/\x.links<=3600)->(inos.flatMap nQ).length<=11*nodes.length
 |[],[],_,_,_,_,_=>by simp
 |y::ys,x::xs,S,was,⟨h1,A,B,h2,h3,h4⟩,hn,hl=>by
  simp only[lD,awo,awt]at hn;have ih:=xu h3 hn.2 λz hz=>hl z (by simp[hz]);have hx:=hl x sp7;have e1:=ei 2 y.num.toNat (by rw[h1.1];omega);have e2:=ei 0 (if y.dir=true then 1 else 0) (by split<;>omega);have e3:=ei 1 y.links.toNat (by rw[h1.2.2];omega);have e4:=oT h2.small;rw[awL,awn,av5];have:(nQ y).length<=11:=by unfold nQ;simp only[awn];omega
  omega
 |[],_::_,_,_,h,_,_=>h.elim
 |_::_,[],_,_,h,_,_=>h.elim
theorem Ez {rd:Rd}{inos:List fD}{nodes:List Nt}(h:mn rd inos nodes S)(hn:NodesOk nodes):(jV inos).length<=2+12*nodes.length/\(jV inos).length<=722:=by
 have h1:=xu h hn.nums hn.links;have h2:=h.len;have h3:=hn.many;have h4:=ei 0 inos.length J;unfold jV;rw[awn];omega
theorem xw {l:List Sn}(h:jl l id)(ht:∀ x∈l,x.table.ok=true):(jW l).length<=240/\0<(jW l).length:=by
 have h1:=ei 0 l.length (by have:=h.many;omega);have h2:(l.flatMap oI).length<=29*l.length:=by
  rw[List.length_flatMap];apply XR;intro x hx;have a1:=ei 0 x.name.length (by have:=(h.name x hx).2;omega);have a2:=(h.name x hx).2;have a3:=ei 5 x.id.toNat (by have:=h.idlo x hx;have:=h.top;omega);have a4:=ei 0 x.plane.toNat (by have:=h.plane x hx;omega);have hb:=ht x hx;unfold fI.ok fI.may at hb;simp only[awo,awt]at hb;have a5:=oT (b:=x.table) ⟨hb.1.2,hb.2,hb.1.1.1.1,hb.1.1.1.2⟩;unfold oI;simp only[awn];omega
 have h3:0<(aD l.length).length:=by
  rw[aD];split<;>simp
 have:=h.many;unfold jW;rw[awn];omega
structure mu (v:Vs):Prop where
 many:32<=v.blocks/\v.blocks<=4096
 next:1<=v.b.next/\v.b.next<=v.blocks
 eight:v.b.planes.length=8
 planes:∀ p,p<8->eP (v.b.planes.getD p [])/\∀ n,aq (v.b.planes.getD p []) n=true->1<=n/\n<v.blocks
 list:jl v.b.list v.b.id
 clear:∀ p:Nat,1<=p->p<8->(∀ x∈v.b.list,x.plane≠(p:Int))->v.b.planes.getD p []=[]
 snaps:∀ x∈v.b.list,∃ inos nodes,iw nodes/\lz v.rd inos nodes x.table (λn=>aq (v.b.planes.getD x.plane.toNat []) n=true)
 here:∃(S Ss Sm:Nat->Prop) (own:ay),lz v.rd v.b.inodes v.b.nodes v.b.table S/\aW v.rd (jW v.b.list) v.b.snaps Ss/\aW v.rd (gV v.b.planes v.blocks) v.b.mapped Sm/\(∀ n,Sm n->aq own n=true)/\
  (∀ n,aq (v.b.planes.getD 0 []) n=true↔S n\/Ss n\/aq own n=true)/\jM (aq own) v.blocks=aU v.blocks/\
  (∀ n,Ss n\/aq own n=true->¬ S n/\∀ p,1<=p->p<8->aq (v.b.planes.getD p []) n=false)/\(∀ n,Ss n->aq own n=false)
 nodes:NodesOk v.b.nodes
 told:iw (aw v.T)
 room:bI v (aw v.T)<=de v
def qQ (v:Vs)(x:Sn)(nodes:List Nt):Prop:=iw nodes/\∃ inos,lz v.rd inos nodes x.table (λn=>aq (v.b.planes.getD x.plane.toNat []) n=true)
theorem dS {l:List Sn}(h:l.length<7):1<=bf l/\bf l<=7/\∀ x∈l,x.plane≠(bf l:Int):=by
 have key:∃ p,p∈List.range' 1 7/\∀ x∈l,x.plane≠((p:Nat):Int):=by
  apply awZ;intro lh;have:∀ p∈(List.range' 1 7).map (λp:Nat=>(p:Int)),p∈l.map (·.plane):=by
   intro p hp;obtain⟨q,hq,rfl⟩:=awB.1 hp;apply awZ;intro hn;exact lh ⟨q,hq,λx hx e=>hn (awB.2 ⟨x,hx,e⟩)⟩
  have:=px dc7 this;simp at this;omega
 obtain⟨p,hp,hx⟩:=key;unfold bf
 cases hf:(List.range' 1 8).find? λ(p:Nat)=>!l.any λx=>x.plane==(p:Int)with
 |none=>
  rw[aw4]at hf;have:=hf p (by rw[aw3]at hp ⊢;omega);simp only[Bool.not_eq_true,Bool.not_eq_false',List.any_eq_true,awJ]at this;obtain⟨x,TZ,e⟩:=this;exact absurd e (hx x TZ)
 |some q=>
  have h1:=aw1 hf;have h2:=aw2 hf;rw[aw3]at h2;have h3:∀ x∈l,x.plane≠(q:Int):=by
   intro x TZ e;simp only[Bool.not_eq_true',List.any_eq_false,awJ]at h1;exact h1 x TZ e
  refine⟨by simp;omega,?_,by simpa using h3⟩;have hq:q<=p:=by
   rw[List.find?_range'_eq_some]at hf;by_cases KL:q<=p
   ·exact KL
   ·rw[aw3]at hp;have:=hf.2.2 p J J;simp only[Bool.not_not,List.any_eq_true,awJ]at this;obtain⟨x,TZ,e⟩:=this;exact absurd e (hx x TZ)
  rw[aw3]at hp;simp;omega
theorem ni (planes:List ay)(l:List Sn)(p:Nat)(h:p<8):(kG planes l).getD p []=if p=0\/l.any (λx=>x.plane==(p:Int))=true then planes.getD p []else []:=by
 unfold kG;rw[List.getD,aw5,aw6 h];rfl
theorem Q6 {α:Type}{l:List α}{i:Nat}{d:α}(h:i<l.length):l.getD i d∈l:=by
 rw[List.getD,av6 h];exact awF _
theorem oU {planes:List ay}(h8:planes.length=8)(n:Nat):aq (cT planes) n=true↔∃ p,p<8/\aq (planes.getD p []) n=true:=by
 rw[Q5,List.any_eq_true]
 constructor
 ·rintro⟨s,hs,hn⟩;obtain⟨p,hp⟩:=axj hs;have:=(awk.1 hp).1;exact⟨p,J,by rw[List.getD,hp];exact hn⟩
 ·rintro⟨p,hp,hn⟩;exact⟨_,Q6 J,hn⟩
theorem um {l r:List Sn}(h:jl l id)(hs:r.Sublist l):jl r id where
 many:=av2 hs.length_le h.many
 name x hx:=h.name x (hs.subset hx)
 names:=h.names.sublist (hs.map _)
 plane x hx:=h.plane x (hs.subset hx)
 planes:=h.planes.sublist (hs.map _)
 ids:=h.ids.sublist hs
 idlo x hx:=h.idlo x (hs.subset hx)
 top:=h.top
theorem un {l:List Sn}{more:ay}{t:fI}(h:jl l id)(h7:l.length<7)(hn:aJ more=true)(Fy:more.length<=16)(lh:∀ x∈l,x.name≠more)(hid:id<=1099511627776):jl (l++[⟨more,id,bf l,t⟩]) (id+1) where
 many:=by simp;omega
 name x hx:=by
  rcases aw8.1 hx with hx|hx
  ·exact h.name x hx
  ·simp at hx;subst hx;exact⟨hn,Fy⟩
 names:=by
  rw[List.map_append,List.nodup_append];refine⟨h.names,by simp,?_⟩;intro a ha b hb;obtain⟨x,hx,rfl⟩:=awB.1 ha;simp at hb;subst hb;exact lh x hx
 plane x hx:=by
  rcases aw8.1 hx with hx|hx
  ·exact h.plane x hx
  ·simp at hx;subst hx;have:=dS h7;simp;omega
 planes:=by
  rw[List.map_append,List.nodup_append];refine⟨h.planes,by simp,?_⟩;intro a ha b hb;obtain⟨x,hx,rfl⟩:=awB.1 ha;simp at hb;subst hb;exact(dS h7).2.2 x hx
 ids:=by
  rw[List.pairwise_append];refine⟨h.ids,by simp,?_⟩;intro a ha b hb;simp at hb;subst hb;have:=(h.idlo a ha).2;exact this
 idlo x hx:=by
  rcases aw8.1 hx with hx|hx
  ·have:=h.idlo x hx;exact⟨this.1,by have:=this.2;omega⟩
  ·simp at hx;subst hx;have:=h.top;simp;omega
 top:=by have:=h.top;omega
structure mw (v:Vs):Prop where
 many:32<=v.blocks/\v.blocks<=4096
 next:1<=v.b.next/\v.b.next<=v.blocks
 eight:v.b.planes.length=8
 planes:∀ p,p<8->eP (v.b.planes.getD p [])/\∀ n,aq (v.b.planes.getD p []) n=true->1<=n/\n<v.blocks
 list:jl v.b.list v.b.id
 snaps:∀ x∈v.b.list,∃ inos nodes,iw nodes/\lz v.rd inos nodes x.table (λn=>aq (v.b.planes.getD x.plane.toNat []) n=true)
 here:∃(A B Ss:Nat->Prop) (own yn j3:ay),mn v.rd v.b.inodes v.b.nodes A/\aW v.rd yn v.b.table B/\(aw v.T=v.b.nodes->yn=jV v.b.inodes)/\aW v.rd j3 v.b.snaps Ss/\j3.length<=240/\
  (∀ n,aq (v.b.planes.getD 0 []) n=true↔(A n\/B n)\/Ss n\/aq own n=true)/\
  (∀ n,Ss n\/aq own n=true->¬(A n\/B n)/\∀ p,1<=p->p<8->aq (v.b.planes.getD p []) n=false)/\(∀ n,Ss n->aq own n=false)/\
  (jM (aq own) v.blocks=aU v.blocks/\0<j3.length\/bI v (aw v.T)+bP v+1<=de v)
 nodes:NodesOk v.b.nodes
 told:iw (aw v.T)
 room:bI v (aw v.T)<=de v
theorem mu.ready {v:Vs}(h:mu v):mw v:=by
 refine⟨h.many,h.next,h.eight,h.planes,h.list,h.snaps,?_,h.nodes,h.told,h.room⟩;obtain⟨S,Ss,Sm,own,⟨A,B,hA,hB,OQ⟩,h2,h3,h4,h5,h6,h7,h8⟩:=h.here;have Js:∀ y∈v.b.list,y.table.ok=true:=by
  intro y hy;obtain⟨_,_,_,C,D,_,hD,_⟩:=h.snaps y hy;exact hD.may
 have hl:=xw h.list Js;exact⟨A,B,Ss,own,jV v.b.inodes,jW v.b.list,hA,hB,λ_=>rfl,h2,hl.1,λn=>by rw[h5,OQ],λn hn=>by have:=h7 n hn;rw[OQ]at this;exact this,h8,.inl ⟨h6,hl.2⟩⟩
structure fE (v:Vs)(list:List Sn)(more:ay):Prop where
 sub:list.Sublist v.b.list
 more:more=[]\/(aJ more=true/\more.length<=16/\(∀ x∈list,x.name≠more)/\list.length<7/\v.b.id<=1099511627776)
def ZW (v u:Vs)(x:Sn):Prop:=u.b.planes.getD x.plane.toNat []=v.b.planes.getD x.plane.toNat []/\∀ n:Nat,aq (v.b.planes.getD x.plane.toNat []) n=true->u.rd n=v.rd n
structure Kl (v:Vs)(list:List Sn)(more:ay)(u:Vs):Prop where
 run:bF v list more=.ok u
 good:mu u
 blocks:u.blocks=v.blocks
 num:u.num=v.num+1
 T:u.T=v.T
 half:u.half=v.half
 recs:u.recs=[]
 nodes:u.b.nodes=aw v.T
 id:u.b.id=if more=[]then v.b.id else v.b.id+1
 sns:∃ x:Sn,x.name=more/\x.id=v.b.id/\x.table=u.b.table/\(u.b.list=if more=[]then list else list++[x])/\(more≠[]->qQ u x (aw v.T))
 trees:∀ x∈list,∀ nodes,qQ v x nodes->qQ u x nodes
 room:bI u (aw u.T)=bP u+1
 kept:∀ x∈list,ZW v u x
theorem Ae {v:Vs}{l:List Nt}(h:l=v.b.nodes)(hn:NodesOk l):bI v l=bP v+1:=by
 unfold bI;have:(l.map λx=>cY (cF v.b.nodes x.num) x.data).sum=0:=by
  have key:∀ r:List Nt,(∀ x∈r,x∈l)->(r.map λx=>cY (cF v.b.nodes x.num) x.data).sum=0:=by
   intro r
   induction r with
   |nil=>intro _;rfl
   |cons x r ih=>
    intro hr;have hx:=hr x sp7;rw[av3,av4,ih λy hy=>hr y (by simp[hy]),<-h,oS hn.nums x hx,kH _ (hn.data x hx)]
  exact key l λ_ h=>h
 rw[this,awd h]
theorem tl {rd:Rd}:∀ {ys:List fD} {xs:List Nt} {S:Nat->Prop} {was:Int},mn rd ys xs S->lD was xs=true->xs.map (λx=>(⟨x.num,x.dir,x.links,dR ys x.num⟩:fD))=ys
 |[],[],_,_,_,_=>rfl
 |y::ys,x::xs,S,was,⟨h1,A,B,h2,h3,h4⟩,hn=>by
  simp only[lD,awo,awt]at hn;have ih:=tl h3 hn.2;have abn:ys.filter (λz=>z.num==x.num)=[]:=by
   rw[List.filter_eq_nil_iff];intro z hz;have:z.num∈xs.map (·.num):=by rw[<-h3.nums];exact awB.2 ⟨z,hz,rfl⟩
   obtain⟨w,hw,e⟩:=awB.1 this;have:=ja hn.2 w hw;simp;omega
  rw[av3]
  congr 1
  ·have:dR (y::ys) x.num=y.blob:=by
    unfold dR;rw[axh,awd (by simp[h1.1]),abn];rfl
   rw[this];obtain⟨e1,e2,e3⟩:=h1
   cases y
   simp only at e1 e2 e3;subst e1 e2 e3;rfl
  ·refine Eq.trans ?_ ih;apply aww;intro z hz;have mJ:=ja hn.2 z hz;have:dR (y::ys) z.num=dR ys z.num:=by
    unfold dR;have hy:=h1.1;rw[axh,awf (by simp;omega)]
   rw[this]
 |[],_::_,_,_,h,_=>h.elim
 |_::_,[],_,_,h,_=>h.elim
theorem my (h:n<=240):aU n<=1:=by
 unfold aU;rcases aN n with⟨_,e⟩|⟨_,_,e⟩|⟨_,_,e⟩|⟨_,e⟩<;>rw[e]<;>simp<;>omega
theorem Af {s:ay}(h:s.length<=240):aQ s 0=s:=by
 unfold aQ;rw[Nat.zero_mul,awV,awQ h]
theorem Mz {t:gy}{br data:ay}{b b':fI}{t':gy}(ht:cE t.pool)(h:aW t.rd br b S)(hd:data.length<=240)(h0:0<data.length)(hh:br.length<=240)(eG:br≠data)(hl:0<t.pool.left)
  (e:dz t b data=.ok (b',t')) (h':aW t'.rd data b' S') (n:Nat) (hn:S' n):aq t.pool.used n=false:=by
 obtain⟨hs,was,rfl,hw,_⟩:=h;obtain⟨o,e1,e2,_⟩:=kD hw hs true;have iA:ax data.length=[1]:=by
  rcases aN data.length with⟨_,e⟩|⟨_,_,e⟩|⟨_,_,e⟩|⟨_,e⟩
  ·omega
  ·exact e
  all_goals omega
 obtain⟨m,p',et,m1,m2,m3,_⟩:=uV ht hl;have est:fR br data was 0=none:=by
  unfold fR;rw[Af hd,Af hh,awf (Ne.symm eG)]
 have eN:kp br data was t=.ok ([[(m:Int)]],⟨lM t.rd m (aQ data 0),p'⟩):=by
  unfold kp;rw[iA];simp only[ik,est,et];rfl
 unfold dz at e;rw[awf J,e1]at e;simp only[↓reduceIte]at e;rw[e2,eN]at e;have e3:b'=dj data [[(m:Int)]]:=by
  injection e with e;injection e with e _;exact e.symm
 obtain⟨_,nums,eb,bD,hS'⟩:=h';have r1:=pD bD h0 J;have rk:nums.length=1:=by
  have:=bD.shape;rw[iA]at this;have:=axi List.length this;simpa using this
 have hr:iF nums=m:=by
  rw[e3]at eb;unfold dj at eb;rw[awf J,awf J]at eb;injection eb with eb _;have:iF [[(m:Int)]]=m:=rfl;omega
 have:nums=[[(m:Int)]]:=by
  obtain⟨L,rfl⟩:=List.length_eq_one_iff.1 rk;have:=r1.2.1;simp at this;rw[this,hr]
 have Fy:=(hS' n).1 hn;rw[this]at Fy;have:n=m:=by simp at Fy;omega
 subst this;exact m3
theorem lz.iff {rd:Rd}{inos:List fD}{nodes:List Nt}{t:fI}(h:lz rd inos nodes t S)(hS:∀ n,S' n↔S n):lz rd inos nodes t S':=by
 obtain⟨A,B,h1,h2,h3⟩:=h;exact⟨A,B,h1,h2,λn=>(hS n).trans (h3 n)⟩
end Go.Proofs.YtkghpdcloaiflaaGreatDoor
