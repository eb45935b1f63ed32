import Derived.Test.YtkghpdcloaiflaaGreatDoorB18
set_option maxHeartbeats 8000000
set_option maxRecDepth 100000
namespace Go.Proofs.YtkghpdcloaiflaaGreatDoor
open _root_.Go.Proofs.Tryz
section
open Go.RowKit Go.Shelf
theorem zW {f:Nat->Int->Except Int ru}:∀ {P:List Int} {i:Nat} {o:ru},cJ f i P=.ok o->∀ k,k<=P.length->∃ a,cJ f i (P.take k)=.ok a/\a.1.length<=o.1.length/\a.2.length<=o.2.length
 |[],i,o,h,k,hk=>⟨o,by simpa using h,au4 _,au4 _⟩
 |n::r,i,o,h,k,hk=>by
  unfold cJ at h
  cases hf:f i n with
  |error e=>rw[hf]at h;cases h
  |ok a=>
   rw[hf]at h;simp only at h
   cases hr:cJ f (i+1) r with
   |error e=>rw[hr]at h;cases h
   |ok b=>
    rw[hr]at h;simp only at h;injection h with h;subst h
    cases k with
    |zero=>exact⟨([],[]),rfl,by simp,by simp⟩
    |succ k=>
     obtain⟨c,hc,h1,h2⟩:=zW hr k (by simpa using hk);refine⟨(a.1++c.1,a.2++c.2),?_,by simp;omega,by simp;omega⟩;rw[avO];unfold cJ;rw[hf];simp only;rw[hc]
theorem zX {f:Nat->Int->Except Int ru}:∀ {P:List Int} {i:Nat} {o:ru},cJ f i P=.ok o->∀ k n,P[k]?=some n->∀ a,cJ f i (P.take k)=.ok a->∃ c,f (i+k) n=.ok c/\cJ f i (P.take (k+1))=.ok (a.1++c.1,a.2++c.2)
 |[],i,o,h,k,n,hk,a,ha=>by simp at hk
 |m::r,i,o,h,k,n,hk,a,ha=>by
  unfold cJ at h
  cases hf:f i m with
  |error e=>rw[hf]at h;cases h
  |ok x=>
   rw[hf]at h;simp only at h
   cases hr:cJ f (i+1) r with
   |error e=>rw[hr]at h;cases h
   |ok b=>
    cases k with
    |zero=>
     simp at hk;subst hk;simp[cJ]at ha;subst ha;refine⟨x,hf,?_⟩;rw[avO,avP];unfold cJ;rw[hf];simp[cJ]
    |succ k=>
     rw[avO]at ha;unfold cJ at ha;rw[hf]at ha;simp only at ha
     cases hq:cJ f (i+1) (r.take k)with
     |error e=>rw[hq]at ha;cases ha
     |ok y=>
      rw[hq]at ha;simp only at ha;injection ha with ha;subst ha;obtain⟨c,h1,h2⟩:=zX hr k n (by simpa using hk) y hq;refine⟨c,by rw[show i+(k+1)=i+1+k by omega];exact h1,?_⟩;rw[avO];unfold cJ;rw[hf];simp only;rw[h2];simp
structure bU (w w':World)(b:Nat)(iv:Value)(ch:Bool)(I:World->(Nat->Prop)->Prop)(F:Nat->Prop)(s:Oj)(o:ru)(left:Nat)(B:Nat->Nat)(s':Oj)(F':Nat->Prop):Prop where
 src:I w' F'
 wk:ua w' b iv ch s'
 n:s'.n=s.n
 N:∀ l,s'.N l=s.N l++bL o.1 l
 O:s'.O=s.O++dM o.1
 D:s'.D=s.D++o.2
 left:s'.left=left
 B:∀ j,s'.B j=B j
 grow:iM s.role s'.role w.heap.size
 foot:∀ g,F' g->F g\/w.heap.size<=g
 apart:∀ g,s'.role g≠.none->¬ F' g
 mod:ah (fun g=>s.role g≠.none\/F g) w w'
theorem wW {rd:Rd}{ch:Bool}{size:Nat}:∀(l i:Nat) (n:Int) (o:ru),nV rd ch size l i n=.ok o->o.1.length+1<=2*60 ^ l/\o.2.length<=240*60 ^ l
 |0,i,n,o,h=>by
  unfold nV at h;split at h
  ·cases hr:rd n with
   |error e=>rw[hr]at h;cases h
   |ok s=>
    rw[hr]at h;simp only at h;split at h
    ·cases h
    ·injection h with h;subst h;simp;omega
  ·injection h with h;subst h;simp
 |l+1,i,n,o,h=>by
  unfold nV at h
  cases hr:rd n with
  |error e=>rw[hr]at h;cases h
  |ok s=>
   rw[hr]at h;simp only at h;split at h
   ·cases h
   ·rename_i hl
    cases hk:cJ (nV rd ch size l) (60*i) (cq s)with
    |error e=>rw[hk]at h;cases h
    |ok k=>
     rw[hk]at h;simp only at h;injection h with h;subst h;have bA:s.length=4*min ((au size).getD l 0-60*i) 60:=by omega
     have hp:=wB bA;have p0:1<=60 ^ l:=Nat.pow_pos (by decide);obtain⟨B,hB⟩:∃ B,2*60 ^ l=B+1:=⟨2*60 ^ l-1,by omega⟩
     have key:∀(P:List Int) (i:Nat) (k:ru),cJ (nV rd ch size l) i P=.ok k->k.1.length<=B*P.length/\k.2.length<=240*60 ^ l*P.length:=by
      intro P
      induction P with
      |nil=>intro i k h;simp[cJ]at h;subst h;simp
      |cons m r ih=>
       intro i k h;unfold cJ at h
       cases hf:nV rd ch size l i m with
       |error e=>rw[hf]at h;cases h
       |ok a=>
        rw[hf]at h;simp only at h
        cases hr:cJ (nV rd ch size l) (i+1) r with
        |error e=>rw[hr]at h;cases h
        |ok b=>
         rw[hr]at h;simp only at h;injection h with h;subst h;have h1:=wW l i m a hf;rw[hB]at h1;have h2:=ih _ _ hr;simp only[avi,au0,Nat.mul_add,Nat.mul_one];omega
     obtain⟨k1,k2⟩:=key _ _ _ hk;have sK:(cq s).length<=60:=by omega
     have a1:=avt B sK;have a2:=avt (240*60 ^ l) sK
     constructor
     ·simp only[au0];rw[avu,<-awg,hB];omega
     ·simp only;rw[avu,<-awg];omega
section
variable {ty:TypeId}{rv:Value}{f:FuncId}{I:World->(Nat->Prop)->Prop}{rd:Rd}{w w1 w2:World}{b:Nat}{iv:Value}{ch:Bool}{F F1 F2:Nat->Prop}{s s1 s2:Oj}
theorem bU.trans {o o2:ru}{l1 l2:Nat}{B1 B2:Nat->Nat}(h:bU w w1 b iv ch I F s o l1 B1 s1 F1)(k:bU w1 w2 b iv ch I F1 s1 o2 l2 B2 s2 F2)(hs:w.heap.size<=w1.heap.size):bU w w2 b iv ch I F s (o.1++o2.1,o.2++o2.2) l2 B2 s2 F2 where
 src:=k.src
 wk:=k.wk
 n:=k.n.trans h.n
 N l:=by rw[k.N,h.N,oT,avJ]
 O:=by rw[k.O,h.O];simp[dM]
 D:=by rw[k.D,h.D,avJ]
 left:=k.left
 B:=k.B
 grow:=h.grow.trans k.grow hs
 foot g hg:=(k.foot g hg).elim (h.foot g) (fun h2=>.inr (by omega))
 apart:=k.apart
 mod:=h.mod.trans k.mod (fun g hg hh=>hh.elim (fun hr=>(h.grow.new g hr).elim .inl (fun h2=>by omega)) (fun hf=>(h.foot g hf).elim .inr (fun h2=>by omega)))
theorem bU.src' (_S:qk ty rv f I rd)(_hI:I w F)(hX:ua w b iv ch s)(nP:∀ g,s.role g≠.none->¬ F g)(k:dX F F1 w w1)(NV:I w1 F1):bU w w1 b iv ch I F s ([],[]) s.left s.B s F1 where
 src:=NV
 wk:=hX.same (k.mod.on nP) k.mod.size
 n:=rfl
 N l:=by simp[bL]
 O:=by simp[dM]
 D:=by simp
 left:=rfl
 B _:=rfl
 grow:=iM.refl _ _
 foot:=k.foot
 apart g hr hf:=(k.foot g hf).elim (nP g hr) (fun h=>by have:=hX.lt g hr;omega)
 mod:=k.mod.mono fun _ _ h=>.inr h
theorem bU.wk' (S:qk ty rv f I rd)(hI:I w F)(nP:∀ g,s.role g≠.none->¬ F g)(X:ua w1 b iv ch s1)(G:iM s.role s1.role w.heap.size)(m:ah (fun g=>s.role g≠.none) w w1)(o:ru)(hn:s1.n=s.n)(hN:∀ l,s1.N l=s.N l++bL o.1 l)(hO:s1.O=s.O++dM o.1)(hD:s1.D=s.D++o.2):bU w w1 b iv ch I F s o s1.left s1.B s1 F where
 src:=S.same hI (m.on fun g hg hr=>nP g hr hg) m.size
 wk:=X
 n:=hn
 N:=hN
 O:=hO
 D:=hD
 left:=rfl
 B _:=rfl
 grow:=G
 foot _ h:=.inl h
 apart g hr hf:=(G.new g hr).elim (fun h=>nP g h hf) (fun h=>by have:=S.lt hI g hf;omega)
 mod:=m.mono fun _ _ h=>.inl h
theorem bU.keep (S:qk ty rv f I rd)(hI:I w F)(hX:ua w b iv ch s)(nP:∀ g,s.role g≠.none->¬ F g)(k:af w w1):bU w w1 b iv ch I F s ([],[]) s.left s.B s F:=
 bU.src' S hI hX nP ⟨k.mono (fun _ _ h=>h.elim),fun _ h=>.inl h⟩ (S.same hI (k.on fun _ _=>id) k.size)
end
end
section
open Go.RowKit Go.Shelf
attribute [local go_sem] auV
section
variable {I:World->(Nat->Prop)->Prop}{w w':World}{b:Nat}{iv:Value}{ch:Bool}{F F':Nat->Prop}{s s':Oj}
theorem bU.conv {o o':ru}{l l':Nat}{B B':Nat->Nat}(h:bU w w' b iv ch I F s o l B s' F')(ho:o=o')(hl:l=l')(hB:∀ j,B j=B' j):bU w w' b iv ch I F s o' l' B' s' F':=by
 subst ho hl;exact { h with B:=fun j=>(h.B j).trans (hB j) }
end
theorem UO {rd:Rd}{size i:Nat}{num:Int}{o:ru}(h:nV rd true size 0 i num=.ok o):∃ p,rd num=.ok p/\p.length=min (size-240*i) 240/\o=([(0,num)],p):=by
 unfold nV at h;simp only[if_true]at h
 cases hr:rd num with
 |error e=>rw[hr]at h;cases h
 |ok p=>
  rw[hr]at h;simp only at h;split at h
  ·cases h
  ·injection h with h;exact⟨p,rfl,by omega,h.symm⟩
theorem P8 {rd:Rd}{size i:Nat}{num:Int}{o:ru}(h:nV rd false size 0 i num=.ok o):o=([(0,num)],[]):=by
 unfold nV at h;simp at h;exact h.symm
theorem UP {rd:Rd}{ch:Bool}{size l i:Nat}{num:Int}{o:ru}(h:nV rd ch size (l+1) i num=.ok o):∃ p k,rd num=.ok p/\p.length=4*min ((au size).getD l 0-60*i) 60/\cJ (nV rd ch size l) (60*i) (cq p)=.ok k/\o=((l+1,num)::k.1,k.2):=by
 unfold nV at h
 cases hr:rd num with
 |error e=>rw[hr]at h;cases h
 |ok p=>
  rw[hr]at h;simp only at h;split at h
  ·cases h
  ·rename_i hl
   cases hk:cJ (nV rd ch size l) (60*i) (cq p)with
   |error e=>rw[hk]at h;cases h
   |ok k=>
    rw[hk]at h;simp only at h;injection h with h;exact⟨p,k,rfl,by omega,hk,h.symm⟩
theorem P9 {size l i m:Nat}(hs:size<=16384)(hl:l<(au size).length)(hm:m=min ((au size).getD l 0-60*i) 60)(hi:60*i<(au size).getD l 0):size-240*(60 ^ l*(60*i+m))=size-240*(60 ^ (l+1)*(i+1))/\∀ j,j<l->(au size).getD j 0-60 ^ (l-j)*(60*i+m)=(au size).getD j 0-60 ^ (l+1-j)*(i+1):=by
 obtain⟨c1,c2⟩:=oU size l hs hl;generalize (au size).getD l 0=n at*;have e:60 ^ (l+1)*(i+1)=60 ^ l*(60*(i+1)):=by rw[avu,awg]
 rcases(by omega:m=60\/(60*i+m=n/\n<=60*(i+1)))with h|⟨h,h2⟩
 ·subst h;have e2:60*i+60=60*(i+1):=by omega
  refine⟨by rw[e,e2],fun j hj=>?_⟩;rw[e2,show l+1-j=(l-j)+1 by omega,avu,awg]
 ·rw[h];refine⟨?_,fun j hj=>?_⟩
  ·have a1:size<=240*(60 ^ l*n):=by rw[<-awg];exact c1
   have a2:60 ^ l*n<=60 ^ l*(60*(i+1)):=avt _ h2;rw[e];omega
  ·have a1:=c2 j hj;have a2:60 ^ (l-j)*n<=60 ^ (l-j)*(60*(i+1)):=avt _ h2;rw[show l+1-j=(l-j)+1 by omega,avu,awg];omega
def pR (w:World)(b:Nat)(iv:Value)(ch:Bool)(I:World->(Nat->Prop)->Prop)(F:Nat->Prop)(s:Oj)(o:ru)(size l i:Nat)(e:Ending)(w':World):Prop:=
 e=.returned (.int .i64 0)/\∃ s' F',bU w w' b iv ch I F s o (size-240*(60 ^ l*(i+1))) (fun j=>if j<l then(au size).getD j 0-60 ^ (l-j)*(i+1)else s.B j) s' F'
def Bg (ty:TypeId)(rv:Value)(_f:FuncId)(I:World->(Nat->Prop)->Prop)(rd:Rd)(size b:Nat)(ch:Bool)(l:Nat):Prop:=
 ∀(i:Nat) (num:Int) (o:ru) (w:World) (F:Nat->Prop) (s:Oj),I w F->ua w b (.iface ty rv) ch s->(∀ g,s.role g≠.none->¬ F g)->s.n=(au size).length->s.left=size-240*(60 ^ l*i)->(∀ j,j<l->s.B j=(au size).getD j 0-60 ^ (l-j)*i)->
  l<(au size).length->i<(au size).getD l 0->s.O.length+o.1.length<=100000->(∀ k,(s.N k).length+o.1.length<=100000)->s.D.length+o.2.length<=900000->nV rd ch size l i num=.ok o->
  Calls prog 276 #[.pointer (some ⟨b,0,none⟩),.int .i64 num,.int .i64 (l:Int)] w (pR w b (.iface ty rv) ch I F s o size l i)
theorem yL (N:Nat->List Int)(l:Nat)(x:Int)(k:Nat):(if k=l then N l++[x]else N k)=N k++bL [(l,x)] k:=by
 by_cases h:k=l
 ·subst h;simp[bL]
 ·have:¬ l=k:=fun e=>h e.symm;simp[bL,h,this]
theorem wX {ty:TypeId}{rv:Value}{f:FuncId}{I:World->(Nat->Prop)->Prop}{rd:Rd}(S:qk ty rv f I rd)(size:Nat)(cV:size<=16384)(b:Nat)(ch:Bool)(l:Nat)(IH:∀ l',l=l'+1->Bg ty rv f I rd size b ch l'):Bg ty rv f I rd size b ch l:=by
 intro i num o w F s hI hX nP hn lU hB hl hi hO hN hD lD;have HS:=hd0 S;have HIH:=hd0 IH;have XD:=S.meth;have cK:=S.call;obtain⟨v,hv⟩:∃ v,s.rows[l]?=some v:=⟨_,au1 (by rw[hX.rlen,hn];exact hl)⟩
 have R8:1<=o.1.length:=by
  cases l with
  |zero=>
   unfold nV at lD;split at lD
   ·cases hr:rd num with
    |error e=>rw[hr]at lD;cases lD
    |ok s=>rw[hr]at lD;simp only at lD;split at lD;· cases lD
           ·injection lD with h;subst h;simp
   ·injection lD with h;subst h;simp
  |succ l=>
   unfold nV at lD
   cases hr:rd num with
   |error e=>rw[hr]at lD;cases lD
   |ok s=>rw[hr]at lD;simp only at lD;split at lD;· cases lD
          ·cases hk:cJ (nV rd ch size l) (60*i) (cq s)with
           |error e=>rw[hk]at lD;cases lD
           |ok k=>rw[hk]at lD;simp only at lD;injection lD with h;subst h;simp
 obtain⟨v1,w1,r1,yq,m1,at1,g1,xZ,rfl⟩:=gU (P:=prog) underlying46 iS rfl (by decide) 0 s.ov _ _ w hX.order [.int .i64 num] rfl (by simp[Value.oneCell']) (by unfold maxLen;show s.O.length+1<=_;omega) (by show(s.O.length+1)*8<=_;omega) (avL _);obtain⟨X2,G2,M2⟩:=hX.ordered num _ (kn yq) m1 at1;have hb1:=ab m1 hX.own (fun e=>by have:=hX.rorder b e;rw[hX.rb]at this;cases this);have c3:w.cell? ⟨b,3,none⟩=some s.ov:=aa hX.own 3;have c31:w1.cell? ⟨b,3,none⟩=some s.ov:=aa hb1 3;have f31:w1.frozen? ⟨b,3,none⟩=false:=ae hb1 _ rfl;have SK:b<w.heap.size:=ak hX.own;obtain⟨W2,hW2⟩:∃ W2,w1.setCell ⟨b,3,none⟩ (.slice (some ⟨g1,0,none⟩) (s.O.length+1) xZ)=W2:=⟨_,rfl⟩
 rw[hW2]at X2 M2;have d2:W2.cell? ⟨b,2,none⟩=some (.slice (some ⟨s.nb,0,none⟩) s.n s.n):=aa X2.own 2;have dn:W2.cell? ⟨s.nb,l,none⟩=some v:=by rw[aa X2.nums l];simpa using hv
 have FF:(l:Int)<(s.n:Int):=by omega
 have Kq:(l:Int)<=3:=by have:=rP size;omega
 have lC:=hd0 X2;have N6:=hd0 G2;have ft:=hd0 M2;have SJ:=hd0 r1;have HX:=hd0 hX;have HI:=hd0 hI;have Hap:=hd0 nP;have HW2:=hd0 hW2;have Hv:=hd0 hv;have HO:=hd0 hO;have HN:=hd0 hN;have HD:=hd0 hD;have HB:=hd0 hB;have Hl:=hd0 hl;have Hi:=hd0 hi;have Hn:=hd0 hn;have sC:=hd0 lU;have Hno:=hd0 lD;clear X2 G2 M2 r1 hX hI nP yq m1 at1 hb1 hv hO hN hD hB hl hi hn lU lD;go_enter func276,ntmps276;go_wp2_with (at_builtin;refine aA SJ.out rfl rfl rfl rfl ?_);clear c3 c31 f31 SJ HW2 hW2;refine kO 12 12 14 (fun w'=>∃ m,w'=W2.drewN m) (fun w'=>w'.cell? ⟨b,2,none⟩=some (.slice (some ⟨s.nb,0,none⟩) s.n s.n)) (fun w'=>w'.cell? ⟨s.nb,l,none⟩=some v) (by kernel_rfl) (by kernel_rfl) (by decide) (fun _ o _ _ _ h=>by cases o<;>exact h) ⟨1,rfl⟩ (by rintro _ ⟨m,rfl⟩;exact⟨d2,dn⟩) ?_;simp only[avO,avP,avQ,avR]
 iterate 11 (refine oM (fun L hL=>?_);go_simp;(first|refine hL _ ?_|refine⟨_,fun _ _=>rfl,hL _ ?_⟩|refine⟨_,fun W hW=>by simp only[hW];rfl,hL _ ?_⟩);clear hL L)
 refine AW (by kernel_rfl) (fun L hL=>?_)
 go_simp
 refine⟨_,fun W _ hW=>by simp only[hW];rfl,hL _ ?_⟩;clear hL L;refine qI (avT ?_);intro _ bf;obtain⟨nq,rfl⟩:=bf;have mq:af W2 (W2.drewN nq):=(ah.refl _ W2).drewN nq;have X3:=lC.out.same (mq.on fun _ _=>id) mq.size;obtain⟨W3,Yd⟩:∃ W3,W2.drewN nq=W3:=⟨_,rfl⟩
 rw[Yd]at X3 mq;have Oy:s.rows[l]?=some v:=Hv.out;obtain⟨v4,w4,r4,adE,m4,at4,g4,ahW,rfl⟩:=gU (P:=prog) underlying46 iS rfl (by decide) 0 v _ _ W3 (X3.row l v Oy) [.int .i64 num] rfl (by simp[Value.oneCell']) (by have:=HN.out l;unfold maxLen;show(s.N l).length+1<=_;omega) (by have:=HN.out l;show((s.N l).length+1)*8<=_;omega) (avL _);obtain⟨X5,G5,M5⟩:=X3.rowed l v Oy num _ (kn adE) m4 at4;have abc:=ab m4 X3.nums (fun e=>by have:=X3.rrow l v _ Oy e;rw[X3.rnb]at this;cases this);have c4:w4.cell? ⟨s.nb,l,none⟩=some v:=by have:=aa abc l;rw[this];simpa using Hv.out
 have f4:w4.frozen? ⟨s.nb,l,none⟩=false:=ae abc _ rfl;have HR4:=hd0 r4;have V5:=bU.wk' HS.out HI.out Hap.out X5 (N6.out.trans G5 (auX ft.out.size mq.size)) ((ft.out.trans (mq.mono (T:=fun g=>s.role g≠.none) (fun _ _ h=>h.elim)) (fun _ _ h=>h)).trans M5 (fun g hg hr=>(N6.out.new g hr).elim id (fun h=>by omega))) ([(l,num)],[]) rfl (yL s.N l num) rfl (by simp);have V:=hd0 V5;obtain⟨W5,BV⟩:∃ W5,w4.setCell ⟨s.nb,l,none⟩ (.slice (some ⟨g4,0,none⟩) ((s.N l).length+1) ahW)=W5:=⟨_,rfl⟩
 rw[BV]at V;have ng:=hd0 BV;have t2:W3.cell? ⟨b,2,none⟩=some (.slice (some ⟨s.nb,0,none⟩) s.n s.n):=by rw[<-Yd];exact d2
 have tn:W3.cell? ⟨s.nb,l,none⟩=some v:=by rw[<-Yd];exact dn
 have t2b:w4.cell? ⟨b,2,none⟩=some (.slice (some ⟨s.nb,0,none⟩) s.n s.n):=by
  have:=aa (ab m4 X3.own (fun e=>by have:=X3.rrow l v _ Oy e;rw[X3.rb]at this;cases this)) 2;exact this
 have t2c:W5.cell? ⟨b,2,none⟩=some (.slice (some ⟨s.nb,0,none⟩) s.n s.n):=by rw[<-BV];exact aa V5.wk.own 2
 rw[Yd];have ta:∀ o,(W3.alloc o).cell? ⟨b,2,none⟩=some (.slice (some ⟨s.nb,0,none⟩) s.n s.n):=fun o=>(((ah.refl (fun _=>False) W3).alloc o).cell (p:=⟨b,2,none⟩) (ai t2) id).trans t2;have tb:∀ o,(W3.alloc o).cell? ⟨s.nb,l,none⟩=some v:=fun o=>(((ah.refl (fun _=>False) W3).alloc o).cell (p:=⟨s.nb,l,none⟩) (ai tn) id).trans tn;refine⟨⟨t2,.inr tn⟩,?_⟩;go_wp2_with fail;refine⟨⟨t2,.inr tn⟩,?_⟩;go_wp2_with fail;refine⟨⟨ta _,.inr (tb _)⟩,?_⟩;go_wp2_with (at_builtin;refine aA HR4.out rfl rfl rfl rfl ?_);refine⟨⟨t2b,.inl (by decide)⟩,?_⟩;go_wp2_with fail;refine⟨⟨t2b,.inl (by decide)⟩,?_⟩;go_wp2_with fail;refine⟨⟨t2c,.inl (by decide)⟩,?_⟩;clear ta tb t2 tn t2b t2c;clear V5 X5 G5 M5 adE m4 at4 abc r4 Oy X3 mq Yd d2 dn lC N6 ft ng BV c4 f4;obtain⟨s5,V⟩:∃ s5,Hid (bU w W5 b (.iface ty rv) ch I F s ([(l,num)],[]) s.left s.B s5 F):=⟨_,V⟩
 have X5:=hd0 V.out.wk;have FT:=V.out.mod.size;rcases l with _|l
 ·obtain⟨L0,TG⟩:∃ L0,s5.left=L0:=⟨_,rfl⟩
  have HL0:Hid (L0=size-240*i):=hd0 (by rw[<-TG,V.out.left,sC.out];simp);have apM:240*i<size:=by
   have h:=Hi.out;rw[nC]at h;apply avV;intro hc;have:=(aI (n:=size) (each:=240) (k:=i) (by decide)).2 (by omega);omega
  have arW:(L0:Int)<=16384:=by have:=HL0.out;omega
  obtain⟨m,hm⟩:∃ m,min L0 240=m:=⟨_,rfl⟩
  have hmi:min (L0:Int) 240=(m:Int):=by omega
  have yR:(m:Int)<=240:=by omega
  have c6:W5.cell? ⟨b,6,none⟩=some (.int .i64 (L0:Int)):=by rw[<-TG];exact aa X5.out.own 6
  have f6:=ae X5.out.own ⟨b,6,none⟩ rfl;obtain⟨X6,M6⟩:=X5.out.lefted (L0-m);have e6:((L0-m:Nat):Int)=(L0:Int)-(m:Int):=by omega
  rw[e6]at X6 M6;obtain⟨W6,TQ⟩:∃ W6,W5.setCell ⟨b,6,none⟩ (.int .i64 ((L0:Int)-(m:Int)))=W6:=⟨_,rfl⟩
  rw[TQ]at X6 M6;have V6:=V.out.trans (bU.wk' HS.out V.out.src V.out.apart X6 (iM.refl _ _) M6 ([],[]) rfl (fun l=>by simp[bL]) (by simp[dM]) (by simp)) FT;have c0:W6.cell? ⟨b,0,none⟩=some (.iface ty rv):=aa X6.own 0;have c1:W6.cell? ⟨b,1,none⟩=some (.bool ch):=aa X6.own 1;have hB5:∀ j,s5.B j=s.B j:=V.out.B;have gQ:Hid (L0-m=size-240*(60 ^ 0*(i+1))):=hd0 (by have:=HL0.out;omega);have F0:=hd0 hB5;have XK:=hd0 V6;have Hm:=hd0 hm;have HX6:=hd0 X6;clear V V6 X6 M6 TG hm hB5 X5
  cases ch with
  |false=>
   have Ho:=hd0 (P8 Hno.out);go_wp2;go_ret;unfold pR;exact⟨rfl,_,_,XK.out.conv (by rw[Ho.out];simp) gQ.out (fun j=>by rw[ava (by omega)];exact F0.out j)⟩
  |true=>
   obtain⟨p,Cn,Co,hp3⟩:=UO Hno.out;have R:=hd0 (HS.out.read XK.out.src Cn);have hpm:(p.length:Int)=(m:Int):=by have:=HL0.out;have:=Hm.out;omega
   have Hp3:=hd0 hp3;have Hp2:=hd0 Co;clear Cn Co hp3;go_wp2_with fail;refine R.out.mono ?_;rintro e w7 ⟨rfl,F7,Kn,rx⟩;have V7:=XK.out.trans (bU.src' HS.out XK.out.src HX6.out XK.out.apart rx Kn) XK.out.mod.size;obtain⟨s7,V7⟩:∃ s7,bU w w7 b (.iface ty rv) true I F s (([(0,num)]++[]++[],[]++[]++[]):ru) (L0-m) s5.B s7 F7:=⟨_,V7⟩
   have yj:=hd0 V7;have X7:=hd0 V7.wk;have hs7:=V7.mod.size;have hD7:s7.D=s.D:=by rw[V7.D];simp
   have Xo:s7.pv=.pointer none\/s7.pv=.pointer (some ⟨b,4,none⟩):=X7.out.data.imp (·.1) (·.1);have vg:bR w7 0 s7.dv s7.D:=by
    rcases X7.out.data with⟨_,h2,h3⟩|⟨_,_,h3⟩
    ·rw[h2,h3];exact⟨rfl,.inl ⟨rfl,rfl⟩⟩
    ·exact h3
   have hdn:s7.dv.ownBlock≠some b:=fun e=>by have:=X7.out.rdata b e;rw[X7.out.rb]at this;cases this
   have C:=hd0 (PZ b w7 s7.D p X7.out.own Xo vg hdn (by rw[hD7];have:=HD.out;rw[Hp3.out]at this;simp only at this;omega));have Ks:p≠[]:=fun e=>by
    have h1:=Hp2.out;rw[e]at h1;simp at h1;omega
   clear R Kn rx V7 c6 f6 TQ c0 c1 Xo vg hdn hD7;go_wp2_with fail;refine C.out.mono ?_;rintro e w8 ⟨rfl,FU,Wc,ho8,m8,at8⟩;obtain⟨X8,G8,M8⟩:=X7.out.dated p Ks FU Wc ho8 m8 at8;have V8:=yj.out.trans (bU.wk' HS.out yj.out.src yj.out.apart X8 G8 M8 ([],p) rfl (fun l=>by simp[bL]) (by simp[dM]) rfl) hs7;have WK:=hd0 V8;clear X8 G8 M8 V8 Wc ho8 m8 at8 C;go_wp2;go_ret;unfold pR;exact⟨rfl,_,_,WK.out.conv (by rw[Hp3.out];simp) (by rw[<-gQ.out];exact yj.out.left) (fun j=>by rw[ava (by omega)];exact(yj.out.B j).trans (F0.out j))⟩
 ·obtain⟨p,kk,Cn,Co,hp3,OC⟩:=UP Hno.out;have Wy:l<(au size).length:=by have:=Hl.out;omega
  obtain⟨L1,za⟩:∃ L1,(au size).getD l 0=L1:=⟨_,rfl⟩
  have akh:60*i<L1:=by
   have h:=Hi.out;have hu:=mB size cV l (by have:=Hl.out;omega);rw[hu,za]at h;apply avV;intro hc;have:=(aI (n:=L1) (each:=60) (k:=i) (by decide)).2 (by omega);omega
  have asL:L1<=69:=by
   have:=o4 cV L1 (by rw[<-za,awi,au1 Wy];exact avB _);exact this.2
  rw[za]at Co;obtain⟨m,hm⟩:∃ m,min (L1-60*i) 60=m:=⟨_,rfl⟩
  rw[hm]at Co;have c0:W5.cell? ⟨b,0,none⟩=some (.iface ty rv):=aa X5.out.own 0;have R:=hd0 (HS.out.read V.out.src Cn);have Hp4:=hd0 OC;have Hp3:=hd0 hp3;have Hp2:=hd0 Co;have Hm:=hd0 hm;have HL1:=hd0 za;have yo:((l+1:Nat):Int)=(l:Int)+1:=by omega
  rw[yo];have ls:(l:Int)<=2:=by omega
  have hlz:(((l:Int)+1)==0)=false:=by simp;omega
  clear Cn Co hp3 OC hm za;go_wp2_with fail;refine R.out.mono ?_;rintro e w6 ⟨rfl,F6,hI6,rz⟩;have V6:=V.out.trans (bU.src' HS.out V.out.src X5.out V.out.apart rz hI6) FT;obtain⟨s6,V6⟩:∃ s6,bU w w6 b (.iface ty rv) ch I F s (([(l+1,num)]++[],[]++[]):ru) s5.left s5.B s6 F6:=⟨_,V6⟩
  have XK:=hd0 V6;have X6:=hd0 V6.wk;have Ji:=V6.mod.size;have hn6:s6.n=(au size).length:=V6.n.trans Hn.out;have hB6:∀ j,s6.B j=s.B j:=fun j=>(V6.B j).trans (V.out.B j);obtain⟨a6,rr,e6,hx6⟩:=ba X6.out.below;have XY:(bi (gm ((List.range s6.n).map s6.B))).length=s6.n:=by simp[bi,gm]
  rw[XY]at e6;have Yv:s6.B l=L1-60*i:=by
   have h:=HB.out l (by omega);rw[hB6,h,HL1.out,show l+1-l=1 by omega]
  obtain⟨gb,ob,ea6,cb⟩:=hx6 l (.int .i64 ((L1-60*i:Nat):Int)) (by
   unfold bi gm;rw[av1,av1,av1,av2 (by omega)];simp[Yv])
  have hgb:ob=0/\s6.bv.ownBlock=some gb/\w6.frozen? ⟨gb,l,none⟩=false:=by
   rcases X6.out.below.2 with⟨e,_⟩|⟨g',cap,d7,e,_,RO,_⟩
   ·rw[e6,ea6]at e;injection e with e;cases e
   ·rw[e6,ea6]at e;injection e with e1 e2 e3;injection e1 with e1;injection e1 with e1 e4;subst e1;exact⟨e4,by rw[e6,ea6];rfl,ae RO _ rfl⟩
  obtain⟨rfl,Jf,fb⟩:=hgb;rw[avN]at cb;rw[ea6]at e6;have c7:w6.cell? ⟨b,7,none⟩=some (.slice (some ⟨gb,0,none⟩) s6.n rr):=by rw[<-e6];exact aa X6.out.own 7
  obtain⟨q,hq⟩:∃ q,L1-60*i=q:=⟨_,rfl⟩
  rw[hq]at cb Yv;have hmq:min (q:Int) 60=(m:Int):=by have:=Hm.out;omega
  have OJ:(q:Int)<=69:=by omega
  have yR:(m:Int)<=(q:Int):=by omega
  have nQ:(p.length:Int)=4*(m:Int):=by have:=Hp2.out;omega
  have hln:(l:Int)<(s6.n:Int):=by rw[hn6];omega
  obtain⟨X7,M7⟩:=X6.out.belowed l (q-m) gb (by rw[hn6];exact Wy) Jf;have eqm:((q-m:Nat):Int)=(q:Int)-(m:Int):=by omega
  rw[eqm]at X7 M7;obtain⟨W7,Wb⟩:∃ W7,w6.setCell ⟨gb,l,none⟩ (.int .i64 ((q:Int)-(m:Int)))=W7:=⟨_,rfl⟩
  rw[Wb]at X7 M7;have V7:=V6.trans (bU.wk' HS.out V6.src V6.apart X7 (iM.refl _ _) M7 ([],[]) rfl (fun l=>by simp[bL]) (by simp[dM]) (by simp)) Ji;have PT:=hd0 (Bc p m W7 Hp2.out (by omega));have HX7:=hd0 X7;have yj:=hd0 V7;have hs7:=V7.mod.size;have Hq:=hd0 hq;have HBl:=hd0 Yv;have HB6:=hd0 hB6;have Hn6:=hd0 hn6;have hw6:w6.heap.size=W7.heap.size:=by rw[<-Wb];simp[World.setCell]
  have Hw6:=hd0 hw6;clear R hI6 rz V6 X7 M7 V7 hx6 XY e6 ea6 c0 hq Yv hB6 hn6 hw6;go_wp2_with fail;refine PT.out.mono ?_;rintro e w8 ⟨v8,rfl,ho8,kB⟩;have V8:=yj.out.trans (bU.keep HS.out yj.out.src HX7.out yj.out.apart kB) hs7;obtain⟨s8,VE⟩:∃ s8:Oj,s8={ s6 with B:=fun i=>if i=l then q-m else s6.B i }:=⟨_,rfl⟩
  rw[<-VE]at V8;have hB8:∀ j,s8.B j=if j=l then q-m else s6.B j:=fun j=>by rw[VE]
  have hL8:s8.left=s6.left:=by rw[VE]
  have WK:=hd0 V8;have X8:=hd0 V8.wk;have akk:=V8.mod.size;have hPl:(cq p).length=m:=wB Hp2.out;have aey:∀ g,v8.ownBlock=some g->s8.role g=.none/\¬ F6 g:=fun g hg=>by
   have hge:W7.heap.size<=g:=by
    rcases ho8.2 with⟨e,_⟩|⟨g',cap,d7,e,hb,_⟩
    ·rw[e]at hg;cases hg
    ·rw[e]at hg;have:g'=g:=by simpa[Value.ownBlock]using hg
     omega
   refine⟨?_,fun hf=>by have:=HS.out.lt yj.out.src g hf;omega⟩;apply avV;intro hr;have:=HX7.out.lt g (by rw[VE]at hr;exact hr);omega
  have HP0:Hid (aN w8 0 v8 (cq p)):=hd0 (eQ ho8 (avL _));have afB:=hd0 aey;have HPl:=hd0 hPl;obtain⟨a8,rp,e8,_⟩:=ba ho8;have e8':v8=.slice a8 m rp:=by rw[e8];simp[hPl]
  have He8:=hd0 e8';clear V8 ho8 kB aey hPl PT cb fb c7 Wb e8 VE;subst e8';go_wp2_with fail
  go_loopw [123] (fun x wr=>∃(k:Nat) (s':Oj) (F':Nat->Prop) (a:ru),k<=m/\x=.int .i64 (k:Int)/\Hid (cJ (nV rd ch size l) (60*i) ((cq p).take k)=.ok a)/\Hid (bU w8 wr b (.iface ty rv) ch I F6 s8 a (size-240*(60 ^ l*(60*i+k))) (fun j=>if j<l then(au size).getD j 0-60 ^ (l-j)*(60*i+k)else s8.B j) s' F')/\Hid (aN wr 0 (.slice a8 m rp) (cq p))/\Hid (∀ g,(Value.slice a8 m rp).ownBlock=some g->s'.role g=.none/\¬ F' g)) (fun x _=>m-(intOf x).toNat)
  case atStart=>
   refine⟨0,s8,F6,([],[]),by omega,rfl,hd0 rfl,hd0 ((bU.keep HS.out WK.out.src X8.out WK.out.apart (ah.refl _ w8)).conv rfl ?_ (fun j=>?_)),HP0,afB⟩
   ·rw[hL8,XK.out.left,V.out.left,sC.out,avu,awg,Nat.add_zero]
   ·split
    ·rename_i hj
     rw[hB8,ava (by omega),HB6.out,HB.out j (by omega),show l+1-j=(l-j)+1 by omega,avu,awg,Nat.add_zero]
    ·rfl
  case round=>
   clear HP0 afB;obtain⟨k,s',F',a,hk,rfl,Ha,HV,HPk,V0⟩:=hrel;have yV:=HV.out.mod.size;by_cases aL:k<m
   ·have dU:(k:Int)<(m:Int):=by omega
    obtain⟨x,hx⟩:∃ x,(cq p)[k]?=some x:=⟨_,au1 (by rw[HPl.out];exact aL)⟩
    obtain⟨a9,ajN,e9,hc9⟩:=ba HPk.out;obtain⟨b9,o9,ea9,c9⟩:=hc9 k (.int .i64 x) (by simp[bi,hx]);injection e9 with e91 e92 e93;rw[ea9]at e91;subst e91;obtain⟨c,AF,BJ⟩:=zX Hp3.out k x hx a Ha.out;obtain⟨a',FJ,aeF,afP⟩:=zW Hp3.out (k+1) (by rw[HPl.out];omega);rw[BJ]at FJ;injection FJ with FJ;subst FJ;simp only[avi]at aeF afP;have ai4:o.1.length=kk.1.length+1:=by rw[Hp4.out];simp
    have akr:o.2.length=kk.2.length:=by rw[Hp4.out]
    have hO':s'.O.length=s.O.length+1+a.1.length:=by rw[HV.out.O,WK.out.O];simp[dM];omega
    have hN':∀ j,(s'.N j).length+c.1.length<=100000:=fun j=>by
     have e1:(bL a.1 j).length<=a.1.length:=by unfold bL;rw[avv];exact avc _ _
     have e2:(s8.N j).length<=(s.N j).length+1:=by
      rw[WK.out.N,avi];refine Nat.add_le_add_left (auX (?_:_<=([(l+1,num)]++[]++[]++[]:List (Nat×Int)).length) (by simp)) _;unfold bL;rw[avv];exact avc _ _
     have:=HN.out j;rw[HV.out.N,avi];omega
    have hD':s'.D.length=s.D.length+a.2.length:=by rw[HV.out.D,WK.out.D];simp
    have K:=hd0 (HIH.out l rfl (60*i+k) x c wr F' s' HV.out.src HV.out.wk HV.out.apart (by rw[HV.out.n,WK.out.n];exact Hn.out) HV.out.left (fun j hj=>by rw[HV.out.B,au8 hj]) Wy (by rw[HL1.out];have:=Hm.out;omega) (by have:=HO.out;omega) hN' (by have:=HD.out;omega) AF);have Hc2:=hd0 BJ;clear e92 e93 hc9 hx AF BJ aeF afP ai4 akr hO' hN' hD' ea9;go_wp2_with fail;refine K.out.mono ?_;rintro e w9 ⟨rfl,s9,F9,V9⟩;have HV9:=hd0 V9;clear V9 K c9;go_wp2_with fail
    go_roundw
    case rel=>
     refine⟨k+1,s9,F9,_,by omega,by go_num,Hc2,hd0 ((HV.out.trans HV9.out yV).conv rfl (by rw[avg]) (fun j=>?_)),hd0 (az HPk.out fun g hg=>HV9.out.mod.block g (aT HPk.out hg) (fun h=>h.elim (fun h=>h (V0.out g hg).1) (V0.out g hg).2)),hd0 (fun g hg=>⟨?_,fun hf=>?_⟩)⟩
     ·by_cases hj:j<l
      ·rw[au8 hj,au8 hj,avg]
      ·rw[ava hj,ava hj,HV.out.B,ava hj]
     ·apply avV;intro hr;rcases HV9.out.grow.new g hr with h|h
      ·exact h (V0.out g hg).1
      ·have:=aT HPk.out hg;omega
     ·rcases HV9.out.foot g hf with h|h
      ·exact(V0.out g hg).2 h
      ·have:=aT HPk.out hg;omega
    case measure=>simp[intOf];omega
   ·obtain rfl:k=m:=by omega
    have gQ:=P9 cV Wy (by rw[HL1.out,Hm.out]) (by rw[HL1.out];exact akh);have Jl:=hd0 gQ;have Hat:Hid (kk=a):=hd0 (by
     have h1:=Ha.out;rw[avM (Nat.le_of_eq HPl.out),Hp3.out]at h1;injection h1)
    clear gQ;go_wp2;go_ret;unfold pR;refine⟨rfl,s',F',(WK.out.trans HV.out akk).conv (by rw[Hp4.out,Hat.out];simp) Jl.out.1 (fun j=>?_)⟩;by_cases hj:j<l
    ·rw[au8 hj,au8 (by omega)];exact Jl.out.2 j hj
    ·rw[ava hj,hB8];by_cases Oa:j=l
     ·subst Oa;rw[au8 rfl,au8 (by omega),show j+1-j=1 by omega,HL1.out];have:=Hm.out;have:=Hq.out;omega
     ·rw[ava Oa,ava (by omega),HB6.out]
theorem zY {ty:TypeId}{rv:Value}{f:FuncId}{I:World->(Nat->Prop)->Prop}{rd:Rd}(S:qk ty rv f I rd)(size:Nat)(cV:size<=16384)(b:Nat)(ch:Bool):∀ l,Bg ty rv f I rd size b ch l
 |0=>wX S size cV b ch 0 (fun _ h=>by omega)
 |l+1=>wX S size cV b ch (l+1) (fun l' h=>by
   have:l'=l:=by omega
   subst this;exact zY S size cV b ch l')
end
end Go.Proofs.YtkghpdcloaiflaaGreatDoor
