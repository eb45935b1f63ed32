import Derived.Test.YtkghpdcloaiflaaGreatDoorD18
set_option maxHeartbeats 8000000
set_option maxRecDepth 100000
namespace Go.Proofs.YtkghpdcloaiflaaGreatDoor
open _root_.Go.Proofs.Tryz
section
open Go.RowKit Go.Shelf
theorem zX {f:Nat->Int->Except Int rx}:∀ {P:List Int} {i:Nat} {o:rx},cK f i P=.ok o->∀ k,k<=P.length->∃ a,cK f i (P.take k)=.ok a/\a.1.length<=o.1.length/\a.2.length<=o.2.length
 |[],i,o,h,k,hk=>⟨o,by simpa using h,auP _,auP _⟩
 |n::r,i,o,h,k,hk=>by
  unfold cK at h
  cases hf:f i n with
  |error e=>rw[hf]at h;cases h
  |ok a=>
   rw[hf]at h;simp only at h
   cases hr:cK f (i+1) r with
   |error e=>rw[hr]at h;cases h
   |ok b=>
    rw[hr]at h;simp only at h;injection h with h;subst h
    cases k with
    |zero=>exact⟨([],[]),rfl,by simp,by simp⟩
    |succ k=>
     obtain⟨c,hc,h1,h2⟩:=zX hr k (by simpa using hk);refine⟨(a.1++c.1,a.2++c.2),?_,by simp;omega,by simp;omega⟩;rw[avz];unfold cK;rw[hf];simp only;rw[hc]
theorem zY {f:Nat->Int->Except Int rx}:∀ {P:List Int} {i:Nat} {o:rx},cK f i P=.ok o->∀ k n,P[k]?=some n->∀ a,cK f i (P.take k)=.ok a->∃ c,f (i+k) n=.ok c/\cK f i (P.take (k+1))=.ok (a.1++c.1,a.2++c.2)
 |[],i,o,h,k,n,hk,a,ha=>by simp at hk
 |m::r,i,o,h,k,n,hk,a,ha=>by
  unfold cK at h
  cases hf:f i m with
  |error e=>rw[hf]at h;cases h
  |ok x=>
   rw[hf]at h;simp only at h
   cases hr:cK f (i+1) r with
   |error e=>rw[hr]at h;cases h
   |ok b=>
    cases k with
    |zero=>
     simp at hk;subst hk;simp[cK]at ha;subst ha;refine⟨x,hf,?_⟩;rw[avz,avA];unfold cK;rw[hf];simp[cK]
    |succ k=>
     rw[avz]at ha;unfold cK at ha;rw[hf]at ha;simp only at ha
     cases hq:cK f (i+1) (r.take k)with
     |error e=>rw[hq]at ha;cases ha
     |ok y=>
      rw[hq]at ha;simp only at ha;injection ha with ha;subst ha;obtain⟨c,h1,h2⟩:=zY hr k n (by simpa using hk) y hq;refine⟨c,by rw[show i+(k+1)=i+1+k by omega];exact h1,?_⟩;rw[avz];unfold cK;rw[hf];simp only;rw[h2];simp
structure bT (w w':World)(b:Nat)(iv:Value)(ch:Bool)(I:World->(Nat->Prop)->Prop)(F:Nat->Prop)(s:Ov)(o:rx)(left:Nat)(B:Nat->Nat)(s':Ov)(F':Nat->Prop):Prop where
 src:I w' F'
 wk:ui w' b iv ch s'
 n:s'.n=s.n
 N:∀ l,s'.N l=s.N l++bJ o.1 l
 O:s'.O=s.O++dS o.1
 D:s'.D=s.D++o.2
 left:s'.left=left
 B:∀ j,s'.B j=B j
 grow:iP s.role s'.role w.heap.size
 foot:∀ g,F' g->F g\/w.heap.size<=g
 apart:∀ g,s'.role g≠.none->¬ F' g
 mod:ah (fun g=>s.role g≠.none\/F g) w w'
theorem xe {rd:Rd}{ch:Bool}{size:Nat}:∀(l i:Nat) (n:Int) (o:rx),oa rd ch size l i n=.ok o->o.1.length+1<=2*60 ^ l/\o.2.length<=240*60 ^ l
 |0,i,n,o,h=>by
  unfold oa at h;split at h
  ·cases hr:rd n with
   |error e=>rw[hr]at h;cases h
   |ok s=>
    rw[hr]at h;simp only at h;split at h
    ·cases h
    ·injection h with h;subst h;simp;omega
  ·injection h with h;subst h;simp
 |l+1,i,n,o,h=>by
  unfold oa at h
  cases hr:rd n with
  |error e=>rw[hr]at h;cases h
  |ok s=>
   rw[hr]at h;simp only at h;split at h
   ·cases h
   ·rename_i hl
    cases hk:cK (oa rd ch size l) (60*i) (cr s)with
    |error e=>rw[hk]at h;cases h
    |ok k=>
     rw[hk]at h;simp only at h;injection h with h;subst h;have aW:s.length=4*min ((au size).getD l 0-60*i) 60:=by omega
     have hp:=wO aW;have p0:1<=60 ^ l:=Nat.pow_pos (by decide);obtain⟨B,hB⟩:∃ B,2*60 ^ l=B+1:=⟨2*60 ^ l-1,by omega⟩
     have key:∀(P:List Int) (i:Nat) (k:rx),cK (oa rd ch size l) i P=.ok k->k.1.length<=B*P.length/\k.2.length<=240*60 ^ l*P.length:=by
      intro P
      induction P with
      |nil=>intro i k h;simp[cK]at h;subst h;simp
      |cons m r ih=>
       intro i k h;unfold cK at h
       cases hf:oa rd ch size l i m with
       |error e=>rw[hf]at h;cases h
       |ok a=>
        rw[hf]at h;simp only at h
        cases hr:cK (oa rd ch size l) (i+1) r with
        |error e=>rw[hr]at h;cases h
        |ok b=>
         rw[hr]at h;simp only at h;injection h with h;subst h;have h1:=xe l i m a hf;rw[hB]at h1;have h2:=ih _ _ hr;simp only[au3,auL,Nat.mul_add,Nat.mul_one];omega
     obtain⟨k1,k2⟩:=key _ _ _ hk;have sQ:(cr s).length<=60:=by omega
     have a1:=avd B sQ;have a2:=avd (240*60 ^ l) sQ
     constructor
     ·simp only[auL];rw[ave,<-av2,hB];omega
     ·simp only;rw[ave,<-av2];omega
section
variable {ty:TypeId}{rv:Value}{f:FuncId}{I:World->(Nat->Prop)->Prop}{rd:Rd}{w w1 w2:World}{b:Nat}{iv:Value}{ch:Bool}{F F1 F2:Nat->Prop}{s s1 s2:Ov}
theorem bT.trans {o o2:rx}{l1 l2:Nat}{B1 B2:Nat->Nat}(h:bT w w1 b iv ch I F s o l1 B1 s1 F1)(k:bT w1 w2 b iv ch I F1 s1 o2 l2 B2 s2 F2)(hs:w.heap.size<=w1.heap.size):bT w w2 b iv ch I F s (o.1++o2.1,o.2++o2.2) l2 B2 s2 F2 where
 src:=k.src
 wk:=k.wk
 n:=k.n.trans h.n
 N l:=by rw[k.N,h.N,oY,avu]
 O:=by rw[k.O,h.O];simp[dS]
 D:=by rw[k.D,h.D,avu]
 left:=k.left
 B:=k.B
 grow:=h.grow.trans k.grow hs
 foot g hg:=(k.foot g hg).elim (h.foot g) (fun h2=>.inr (by omega))
 apart:=k.apart
 mod:=h.mod.trans k.mod (fun g hg hh=>hh.elim (fun hr=>(h.grow.new g hr).elim .inl (fun h2=>by omega)) (fun hf=>(h.foot g hf).elim .inr (fun h2=>by omega)))
theorem bT.src' (_S:qq ty rv f I rd)(_hI:I w F)(hX:ui w b iv ch s)(nW:∀ g,s.role g≠.none->¬ F g)(k:ec F F1 w w1)(NL:I w1 F1):bT w w1 b iv ch I F s ([],[]) s.left s.B s F1 where
 src:=NL
 wk:=hX.same (k.mod.on nW) k.mod.size
 n:=rfl
 N l:=by simp[bJ]
 O:=by simp[dS]
 D:=by simp
 left:=rfl
 B _:=rfl
 grow:=iP.refl _ _
 foot:=k.foot
 apart g hr hf:=(k.foot g hf).elim (nW g hr) (fun h=>by have:=hX.lt g hr;omega)
 mod:=k.mod.mono fun _ _ h=>.inr h
theorem bT.wk' (S:qq ty rv f I rd)(hI:I w F)(nW:∀ g,s.role g≠.none->¬ F g)(X:ui w1 b iv ch s1)(G:iP s.role s1.role w.heap.size)(m:ah (fun g=>s.role g≠.none) w w1)(o:rx)(hn:s1.n=s.n)(hN:∀ l,s1.N l=s.N l++bJ o.1 l)(hO:s1.O=s.O++dS o.1)(hD:s1.D=s.D++o.2):bT w w1 b iv ch I F s o s1.left s1.B s1 F where
 src:=S.same hI (m.on fun g hg hr=>nW g hr hg) m.size
 wk:=X
 n:=hn
 N:=hN
 O:=hO
 D:=hD
 left:=rfl
 B _:=rfl
 grow:=G
 foot _ h:=.inl h
 apart g hr hf:=(G.new g hr).elim (fun h=>nW g h hf) (fun h=>by have:=S.lt hI g hf;omega)
 mod:=m.mono fun _ _ h=>.inl h
theorem bT.keep (S:qq ty rv f I rd)(hI:I w F)(hX:ui w b iv ch s)(nW:∀ g,s.role g≠.none->¬ F g)(k:af w w1):bT w w1 b iv ch I F s ([],[]) s.left s.B s F:=
 bT.src' S hI hX nW ⟨k.mono (fun _ _ h=>h.elim),fun _ h=>.inl h⟩ (S.same hI (k.on fun _ _=>id) k.size)
end
end
section
open Go.RowKit Go.Shelf
attribute [local go_sem] auG
section
variable {I:World->(Nat->Prop)->Prop}{w w':World}{b:Nat}{iv:Value}{ch:Bool}{F F':Nat->Prop}{s s':Ov}
theorem bT.conv {o o':rx}{l l':Nat}{B B':Nat->Nat}(h:bT w w' b iv ch I F s o l B s' F')(ho:o=o')(hl:l=l')(hB:∀ j,B j=B' j):bT w w' b iv ch I F s o' l' B' s' F':=by
 subst ho hl;exact { h with B:=fun j=>(h.B j).trans (hB j) }
end
theorem UZ {rd:Rd}{size i:Nat}{num:Int}{o:rx}(h:oa rd true size 0 i num=.ok o):∃ p,rd num=.ok p/\p.length=min (size-240*i) 240/\o=([(0,num)],p):=by
 unfold oa at h;simp only[if_true]at h
 cases hr:rd num with
 |error e=>rw[hr]at h;cases h
 |ok p=>
  rw[hr]at h;simp only at h;split at h
  ·cases h
  ·injection h with h;exact⟨p,rfl,by omega,h.symm⟩
theorem Qh {rd:Rd}{size i:Nat}{num:Int}{o:rx}(h:oa rd false size 0 i num=.ok o):o=([(0,num)],[]):=by
 unfold oa at h;simp at h;exact h.symm
theorem U0 {rd:Rd}{ch:Bool}{size l i:Nat}{num:Int}{o:rx}(h:oa rd ch size (l+1) i num=.ok o):∃ p k,rd num=.ok p/\p.length=4*min ((au size).getD l 0-60*i) 60/\cK (oa rd ch size l) (60*i) (cr p)=.ok k/\o=((l+1,num)::k.1,k.2):=by
 unfold oa at h
 cases hr:rd num with
 |error e=>rw[hr]at h;cases h
 |ok p=>
  rw[hr]at h;simp only at h;split at h
  ·cases h
  ·rename_i hl
   cases hk:cK (oa rd ch size l) (60*i) (cr p)with
   |error e=>rw[hk]at h;cases h
   |ok k=>
    rw[hk]at h;simp only at h;injection h with h;exact⟨p,k,rfl,by omega,hk,h.symm⟩
theorem Qi {size l i m:Nat}(hs:size<=16384)(hl:l<(au size).length)(hm:m=min ((au size).getD l 0-60*i) 60)(hi:60*i<(au size).getD l 0):size-240*(60 ^ l*(60*i+m))=size-240*(60 ^ (l+1)*(i+1))/\∀ j,j<l->(au size).getD j 0-60 ^ (l-j)*(60*i+m)=(au size).getD j 0-60 ^ (l+1-j)*(i+1):=by
 obtain⟨c1,c2⟩:=oZ size l hs hl;generalize (au size).getD l 0=n at*;have e:60 ^ (l+1)*(i+1)=60 ^ l*(60*(i+1)):=by rw[ave,av2]
 rcases(by omega:m=60\/(60*i+m=n/\n<=60*(i+1)))with h|⟨h,h2⟩
 ·subst h;have e2:60*i+60=60*(i+1):=by omega
  refine⟨by rw[e,e2],fun j hj=>?_⟩;rw[e2,show l+1-j=(l-j)+1 by omega,ave,av2]
 ·rw[h];refine⟨?_,fun j hj=>?_⟩
  ·have a1:size<=240*(60 ^ l*n):=by rw[<-av2];exact c1
   have a2:60 ^ l*n<=60 ^ l*(60*(i+1)):=avd _ h2;rw[e];omega
  ·have a1:=c2 j hj;have a2:60 ^ (l-j)*n<=60 ^ (l-j)*(60*(i+1)):=avd _ h2;rw[show l+1-j=(l-j)+1 by omega,ave,av2];omega
def pU (w:World)(b:Nat)(iv:Value)(ch:Bool)(I:World->(Nat->Prop)->Prop)(F:Nat->Prop)(s:Ov)(o:rx)(size l i:Nat)(e:Ending)(w':World):Prop:=
 e=.returned (.int .i64 0)/\∃ s' F',bT w w' b iv ch I F s o (size-240*(60 ^ l*(i+1))) (fun j=>if j<l then(au size).getD j 0-60 ^ (l-j)*(i+1)else s.B j) s' F'
def Bk (ty:TypeId)(rv:Value)(_f:FuncId)(I:World->(Nat->Prop)->Prop)(rd:Rd)(size b:Nat)(ch:Bool)(l:Nat):Prop:=
 ∀(i:Nat) (num:Int) (o:rx) (w:World) (F:Nat->Prop) (s:Ov),I w F->ui w b (.iface ty rv) ch s->(∀ g,s.role g≠.none->¬ F g)->s.n=(au size).length->s.left=size-240*(60 ^ l*i)->(∀ j,j<l->s.B j=(au size).getD j 0-60 ^ (l-j)*i)->
  l<(au size).length->i<(au size).getD l 0->s.O.length+o.1.length<=100000->(∀ k,(s.N k).length+o.1.length<=100000)->s.D.length+o.2.length<=900000->oa rd ch size l i num=.ok o->
  Calls prog 276 #[.pointer (some ⟨b,0,none⟩),.int .i64 num,.int .i64 (l:Int)] w (pU w b (.iface ty rv) ch I F s o size l i)
theorem yM (N:Nat->List Int)(l:Nat)(x:Int)(k:Nat):(if k=l then N l++[x]else N k)=N k++bJ [(l,x)] k:=by
 by_cases h:k=l
 ·subst h;simp[bJ]
 ·have:¬ l=k:=fun e=>h e.symm;simp[bJ,h,this]
theorem xf {ty:TypeId}{rv:Value}{f:FuncId}{I:World->(Nat->Prop)->Prop}{rd:Rd}(S:qq ty rv f I rd)(size:Nat)(cJ:size<=16384)(b:Nat)(ch:Bool)(l:Nat)(IH:∀ l',l=l'+1->Bk ty rv f I rd size b ch l'):Bk ty rv f I rd size b ch l:=by
 intro i num o w F s hI hX nW hn l6 hB hl hi hO hN hD lJ;have HS:=hd0 S;have HIH:=hd0 IH;have XN:=S.meth;have da:=S.call;obtain⟨v,hv⟩:∃ v,s.rows[l]?=some v:=⟨_,auM (by rw[hX.rlen,hn];exact hl)⟩
 have Tl:1<=o.1.length:=by
  cases l with
  |zero=>
   unfold oa at lJ;split at lJ
   ·cases hr:rd num with
    |error e=>rw[hr]at lJ;cases lJ
    |ok s=>rw[hr]at lJ;simp only at lJ;split at lJ;· cases lJ
           ·injection lJ with h;subst h;simp
   ·injection lJ with h;subst h;simp
  |succ l=>
   unfold oa at lJ
   cases hr:rd num with
   |error e=>rw[hr]at lJ;cases lJ
   |ok s=>rw[hr]at lJ;simp only at lJ;split at lJ;· cases lJ
          ·cases hk:cK (oa rd ch size l) (60*i) (cr s)with
           |error e=>rw[hk]at lJ;cases lJ
           |ok k=>rw[hk]at lJ;simp only at lJ;injection lJ with h;subst h;simp
 obtain⟨v1,w1,r1,yr,m1,at1,g1,ye,rfl⟩:=ic (P:=prog) underlying46 ib rfl (by decide) 0 s.ov _ _ w hX.order [.int .i64 num] rfl (by simp[Value.oneCell']) (by unfold maxLen;show s.O.length+1<=_;omega) (by show(s.O.length+1)*8<=_;omega) (avw _);obtain⟨X2,G2,M2⟩:=hX.ordered num _ (iW yr) m1 at1;have hb1:=ab m1 hX.own (fun e=>by have:=hX.rorder b e;rw[hX.rb]at this;cases this);have c3:w.cell? ⟨b,3,none⟩=some s.ov:=aa hX.own 3;have c31:w1.cell? ⟨b,3,none⟩=some s.ov:=aa hb1 3;have f31:w1.frozen? ⟨b,3,none⟩=false:=ae hb1 _ rfl;have Sf:b<w.heap.size:=ak hX.own;obtain⟨W2,hW2⟩:∃ W2,w1.setCell ⟨b,3,none⟩ (.slice (some ⟨g1,0,none⟩) (s.O.length+1) ye)=W2:=⟨_,rfl⟩
 rw[hW2]at X2 M2;have d2:W2.cell? ⟨b,2,none⟩=some (.slice (some ⟨s.nb,0,none⟩) s.n s.n):=aa X2.own 2;have dn:W2.cell? ⟨s.nb,l,none⟩=some v:=by rw[aa X2.nums l];simpa using hv
 have Cx:(l:Int)<(s.n:Int):=by omega
 have Kh:(l:Int)<=3:=by have:=rU size;omega
 have lH:=hd0 X2;have SQ:=hd0 G2;have oD:=hd0 M2;have VO:=hd0 r1;have HX:=hd0 hX;have HI:=hd0 hI;have Hap:=hd0 nW;have HW2:=hd0 hW2;have Hv:=hd0 hv;have HO:=hd0 hO;have HN:=hd0 hN;have HD:=hd0 hD;have HB:=hd0 hB;have Hl:=hd0 hl;have Hi:=hd0 hi;have Hn:=hd0 hn;have sD:=hd0 l6;have Hno:=hd0 lJ;clear X2 G2 M2 r1 hX hI nW yr m1 at1 hb1 hv hO hN hD hB hl hi hn l6 lJ;go_enter func276,ntmps276;go_wp2_with (at_builtin;refine az VO.out rfl rfl rfl rfl ?_);clear c3 c31 f31 VO HW2 hW2;refine kQ 12 12 14 (fun w'=>∃ m,w'=W2.drewN m) (fun w'=>w'.cell? ⟨b,2,none⟩=some (.slice (some ⟨s.nb,0,none⟩) s.n s.n)) (fun w'=>w'.cell? ⟨s.nb,l,none⟩=some v) (by kernel_rfl) (by kernel_rfl) (by decide) (fun _ o _ _ _ h=>by cases o<;>exact h) ⟨1,rfl⟩ (by rintro _ ⟨m,rfl⟩;exact⟨d2,dn⟩) ?_;simp only[avz,avA,avB,avC]
 iterate 11 (refine oR (fun L hL=>?_);go_simp;(first|refine hL _ ?_|refine⟨_,fun _ _=>rfl,hL _ ?_⟩|refine⟨_,fun W hW=>by simp only[hW];rfl,hL _ ?_⟩);clear hL L)
 refine A0 (by kernel_rfl) (fun L hL=>?_)
 go_simp
 refine⟨_,fun W _ hW=>by simp only[hW];rfl,hL _ ?_⟩;clear hL L;refine qK (avE ?_);intro _ cL;obtain⟨nq,rfl⟩:=cL;have mq:af W2 (W2.drewN nq):=(ah.refl _ W2).drewN nq;have X3:=lH.out.same (mq.on fun _ _=>id) mq.size;obtain⟨W3,Yr⟩:∃ W3,W2.drewN nq=W3:=⟨_,rfl⟩
 rw[Yr]at X3 mq;have OV:s.rows[l]?=some v:=Hv.out;obtain⟨v4,w4,r4,aeb,m4,at4,g4,aiA,rfl⟩:=ic (P:=prog) underlying46 ib rfl (by decide) 0 v _ _ W3 (X3.row l v OV) [.int .i64 num] rfl (by simp[Value.oneCell']) (by have:=HN.out l;unfold maxLen;show(s.N l).length+1<=_;omega) (by have:=HN.out l;show((s.N l).length+1)*8<=_;omega) (avw _);obtain⟨X5,G5,M5⟩:=X3.rowed l v OV num _ (iW aeb) m4 at4;have ZY:=ab m4 X3.nums (fun e=>by have:=X3.rrow l v _ OV e;rw[X3.rnb]at this;cases this);have c4:w4.cell? ⟨s.nb,l,none⟩=some v:=by have:=aa ZY l;rw[this];simpa using Hv.out
 have f4:w4.frozen? ⟨s.nb,l,none⟩=false:=ae ZY _ rfl;have HR4:=hd0 r4;have V5:=bT.wk' HS.out HI.out Hap.out X5 (SQ.out.trans G5 (auI oD.out.size mq.size)) ((oD.out.trans (mq.mono (T:=fun g=>s.role g≠.none) (fun _ _ h=>h.elim)) (fun _ _ h=>h)).trans M5 (fun g hg hr=>(SQ.out.new g hr).elim id (fun h=>by omega))) ([(l,num)],[]) rfl (yM s.N l num) rfl (by simp);have V:=hd0 V5;obtain⟨W5,BZ⟩:∃ W5,w4.setCell ⟨s.nb,l,none⟩ (.slice (some ⟨g4,0,none⟩) ((s.N l).length+1) aiA)=W5:=⟨_,rfl⟩
 rw[BZ]at V;have nh:=hd0 BZ;have t2:W3.cell? ⟨b,2,none⟩=some (.slice (some ⟨s.nb,0,none⟩) s.n s.n):=by rw[<-Yr];exact d2
 have tn:W3.cell? ⟨s.nb,l,none⟩=some v:=by rw[<-Yr];exact dn
 have t2b:w4.cell? ⟨b,2,none⟩=some (.slice (some ⟨s.nb,0,none⟩) s.n s.n):=by
  have:=aa (ab m4 X3.own (fun e=>by have:=X3.rrow l v _ OV e;rw[X3.rb]at this;cases this)) 2;exact this
 have t2c:W5.cell? ⟨b,2,none⟩=some (.slice (some ⟨s.nb,0,none⟩) s.n s.n):=by rw[<-BZ];exact aa V5.wk.own 2
 rw[Yr];have ta:∀ o,(W3.alloc o).cell? ⟨b,2,none⟩=some (.slice (some ⟨s.nb,0,none⟩) s.n s.n):=fun o=>(((ah.refl (fun _=>False) W3).alloc o).cell (p:=⟨b,2,none⟩) (am t2) id).trans t2;have tb:∀ o,(W3.alloc o).cell? ⟨s.nb,l,none⟩=some v:=fun o=>(((ah.refl (fun _=>False) W3).alloc o).cell (p:=⟨s.nb,l,none⟩) (am tn) id).trans tn;refine⟨⟨t2,.inr tn⟩,?_⟩;go_wp2_with fail;refine⟨⟨t2,.inr tn⟩,?_⟩;go_wp2_with fail;refine⟨⟨ta _,.inr (tb _)⟩,?_⟩;go_wp2_with (at_builtin;refine az HR4.out rfl rfl rfl rfl ?_);refine⟨⟨t2b,.inl (by decide)⟩,?_⟩;go_wp2_with fail;refine⟨⟨t2b,.inl (by decide)⟩,?_⟩;go_wp2_with fail;refine⟨⟨t2c,.inl (by decide)⟩,?_⟩;clear ta tb t2 tn t2b t2c;clear V5 X5 G5 M5 aeb m4 at4 ZY r4 OV X3 mq Yr d2 dn lH SQ oD nh BZ c4 f4;obtain⟨s5,V⟩:∃ s5,Hid (bT w W5 b (.iface ty rv) ch I F s ([(l,num)],[]) s.left s.B s5 F):=⟨_,V⟩
 have X5:=hd0 V.out.wk;have Gc:=V.out.mod.size;rcases l with _|l
 ·obtain⟨L0,TQ⟩:∃ L0,s5.left=L0:=⟨_,rfl⟩
  have HL0:Hid (L0=size-240*i):=hd0 (by rw[<-TQ,V.out.left,sD.out];simp);have aqe:240*i<size:=by
   have h:=Hi.out;rw[nE]at h;apply avG;intro hc;have:=(aL (n:=size) (each:=240) (k:=i) (by decide)).2 (by omega);omega
  have arZ:(L0:Int)<=16384:=by have:=HL0.out;omega
  obtain⟨m,hm⟩:∃ m,min L0 240=m:=⟨_,rfl⟩
  have hmi:min (L0:Int) 240=(m:Int):=by omega
  have zg:(m:Int)<=240:=by omega
  have c6:W5.cell? ⟨b,6,none⟩=some (.int .i64 (L0:Int)):=by rw[<-TQ];exact aa X5.out.own 6
  have f6:=ae X5.out.own ⟨b,6,none⟩ rfl;obtain⟨X6,M6⟩:=X5.out.lefted (L0-m);have e6:((L0-m:Nat):Int)=(L0:Int)-(m:Int):=by omega
  rw[e6]at X6 M6;obtain⟨W6,T2⟩:∃ W6,W5.setCell ⟨b,6,none⟩ (.int .i64 ((L0:Int)-(m:Int)))=W6:=⟨_,rfl⟩
  rw[T2]at X6 M6;have V6:=V.out.trans (bT.wk' HS.out V.out.src V.out.apart X6 (iP.refl _ _) M6 ([],[]) rfl (fun l=>by simp[bJ]) (by simp[dS]) (by simp)) Gc;have c0:W6.cell? ⟨b,0,none⟩=some (.iface ty rv):=aa X6.own 0;have c1:W6.cell? ⟨b,1,none⟩=some (.bool ch):=aa X6.own 1;have hB5:∀ j,s5.B j=s.B j:=V.out.B;have lF:Hid (L0-m=size-240*(60 ^ 0*(i+1))):=hd0 (by have:=HL0.out;omega);have FS:=hd0 hB5;have Yl:=hd0 V6;have Hm:=hd0 hm;have HX6:=hd0 X6;clear V V6 X6 M6 TQ hm hB5 X5
  cases ch with
  |false=>
   have Ho:=hd0 (Qh Hno.out);go_wp2;go_ret;unfold pU;exact⟨rfl,_,_,Yl.out.conv (by rw[Ho.out];simp) lF.out (fun j=>by rw[auV (by omega)];exact FS.out j)⟩
  |true=>
   obtain⟨p,BR,Cj,hp3⟩:=UZ Hno.out;have R:=hd0 (HS.out.read Yl.out.src BR);have hpm:(p.length:Int)=(m:Int):=by have:=HL0.out;have:=Hm.out;omega
   have Hp3:=hd0 hp3;have Z9:=hd0 Cj;clear BR Cj hp3;go_wp2_with fail;refine R.out.mono ?_;rintro e w7 ⟨rfl,F7,KP,rA⟩;have V7:=Yl.out.trans (bT.src' HS.out Yl.out.src HX6.out Yl.out.apart rA KP) Yl.out.mod.size;obtain⟨s7,V7⟩:∃ s7,bT w w7 b (.iface ty rv) true I F s (([(0,num)]++[]++[],[]++[]++[]):rx) (L0-m) s5.B s7 F7:=⟨_,V7⟩
   have yo:=hd0 V7;have X7:=hd0 V7.wk;have hs7:=V7.mod.size;have hD7:s7.D=s.D:=by rw[V7.D];simp
   have Ya:s7.pv=.pointer none\/s7.pv=.pointer (some ⟨b,4,none⟩):=X7.out.data.imp (·.1) (·.1);have tO:bP w7 0 s7.dv s7.D:=by
    rcases X7.out.data with⟨_,h2,h3⟩|⟨_,_,h3⟩
    ·rw[h2,h3];exact⟨rfl,.inl ⟨rfl,rfl⟩⟩
    ·exact h3
   have hdn:s7.dv.ownBlock≠some b:=fun e=>by have:=X7.out.rdata b e;rw[X7.out.rb]at this;cases this
   have C:=hd0 (Qb b w7 s7.D p X7.out.own Ya tO hdn (by rw[hD7];have:=HD.out;rw[Hp3.out]at this;simp only at this;omega));have Jh:p≠[]:=fun e=>by
    have h1:=Z9.out;rw[e]at h1;simp at h1;omega
   clear R KP rA V7 c6 f6 T2 c0 c1 Ya tO hdn hD7;go_wp2_with fail;refine C.out.mono ?_;rintro e w8 ⟨rfl,FJ,Tp,ho8,m8,at8⟩;obtain⟨X8,G8,M8⟩:=X7.out.dated p Jh FJ Tp ho8 m8 at8;have V8:=yo.out.trans (bT.wk' HS.out yo.out.src yo.out.apart X8 G8 M8 ([],p) rfl (fun l=>by simp[bJ]) (by simp[dS]) rfl) hs7;have WJ:=hd0 V8;clear X8 G8 M8 V8 Tp ho8 m8 at8 C;go_wp2;go_ret;unfold pU;exact⟨rfl,_,_,WJ.out.conv (by rw[Hp3.out];simp) (by rw[<-lF.out];exact yo.out.left) (fun j=>by rw[auV (by omega)];exact(yo.out.B j).trans (FS.out j))⟩
 ·obtain⟨p,kk,BR,Cj,hp3,ON⟩:=U0 Hno.out;have WD:l<(au size).length:=by have:=Hl.out;omega
  obtain⟨L1,yZ⟩:∃ L1,(au size).getD l 0=L1:=⟨_,rfl⟩
  have aji:60*i<L1:=by
   have h:=Hi.out;have hu:=mG size cJ l (by have:=Hl.out;omega);rw[hu,yZ]at h;apply avG;intro hc;have:=(aL (n:=L1) (each:=60) (k:=i) (by decide)).2 (by omega);omega
  have asK:L1<=69:=by
   have:=pg cJ L1 (by rw[<-yZ,av4,auM WD];exact avl _);exact this.2
  rw[yZ]at Cj;obtain⟨m,hm⟩:∃ m,min (L1-60*i) 60=m:=⟨_,rfl⟩
  rw[hm]at Cj;have c0:W5.cell? ⟨b,0,none⟩=some (.iface ty rv):=aa X5.out.own 0;have R:=hd0 (HS.out.read V.out.src BR);have Hp4:=hd0 ON;have Hp3:=hd0 hp3;have Z9:=hd0 Cj;have Hm:=hd0 hm;have HL1:=hd0 yZ;have uE:((l+1:Nat):Int)=(l:Int)+1:=by omega
  rw[uE];have lw:(l:Int)<=2:=by omega
  have hlz:(((l:Int)+1)==0)=false:=by simp;omega
  clear BR Cj hp3 ON hm yZ;go_wp2_with fail;refine R.out.mono ?_;rintro e w6 ⟨rfl,F6,hI6,rD⟩;have V6:=V.out.trans (bT.src' HS.out V.out.src X5.out V.out.apart rD hI6) Gc;obtain⟨s6,V6⟩:∃ s6,bT w w6 b (.iface ty rv) ch I F s (([(l+1,num)]++[],[]++[]):rx) s5.left s5.B s6 F6:=⟨_,V6⟩
  have Yl:=hd0 V6;have X6:=hd0 V6.wk;have Ju:=V6.mod.size;have hn6:s6.n=(au size).length:=V6.n.trans Hn.out;have hB6:∀ j,s6.B j=s.B j:=fun j=>(V6.B j).trans (V.out.B j);obtain⟨a6,rr,e6,hx6⟩:=aY X6.out.below;have YK:(ba (eU ((List.range s6.n).map s6.B))).length=s6.n:=by simp[ba,eU]
  rw[YK]at e6;have XC:s6.B l=L1-60*i:=by
   have h:=HB.out l (by omega);rw[hB6,h,HL1.out,show l+1-l=1 by omega]
  obtain⟨gb,ob,ea6,cb⟩:=hx6 l (.int .i64 ((L1-60*i:Nat):Int)) (by
   unfold ba eU;rw[avM,avM,avM,avN (by omega)];simp[XC])
  have hgb:ob=0/\s6.bv.ownBlock=some gb/\w6.frozen? ⟨gb,l,none⟩=false:=by
   rcases X6.out.below.2 with⟨e,_⟩|⟨g',cap,dz,e,_,SZ,_⟩
   ·rw[e6,ea6]at e;injection e with e;cases e
   ·rw[e6,ea6]at e;injection e with e1 e2 e3;injection e1 with e1;injection e1 with e1 e4;subst e1;exact⟨e4,by rw[e6,ea6];rfl,ae SZ _ rfl⟩
  obtain⟨rfl,Jl,fb⟩:=hgb;rw[avy]at cb;rw[ea6]at e6;have c7:w6.cell? ⟨b,7,none⟩=some (.slice (some ⟨gb,0,none⟩) s6.n rr):=by rw[<-e6];exact aa X6.out.own 7
  obtain⟨q,hq⟩:∃ q,L1-60*i=q:=⟨_,rfl⟩
  rw[hq]at cb XC;have hmq:min (q:Int) 60=(m:Int):=by have:=Hm.out;omega
  have OW:(q:Int)<=69:=by omega
  have zg:(m:Int)<=(q:Int):=by omega
  have j8:(p.length:Int)=4*(m:Int):=by have:=Z9.out;omega
  have hln:(l:Int)<(s6.n:Int):=by rw[hn6];omega
  obtain⟨X7,M7⟩:=X6.out.belowed l (q-m) gb (by rw[hn6];exact WD) Jl;have eqm:((q-m:Nat):Int)=(q:Int)-(m:Int):=by omega
  rw[eqm]at X7 M7;obtain⟨W7,WO⟩:∃ W7,w6.setCell ⟨gb,l,none⟩ (.int .i64 ((q:Int)-(m:Int)))=W7:=⟨_,rfl⟩
  rw[WO]at X7 M7;have V7:=V6.trans (bT.wk' HS.out V6.src V6.apart X7 (iP.refl _ _) M7 ([],[]) rfl (fun l=>by simp[bJ]) (by simp[dS]) (by simp)) Ju;have PT:=hd0 (Bg p m W7 Z9.out (by omega));have HX7:=hd0 X7;have yo:=hd0 V7;have hs7:=V7.mod.size;have Hq:=hd0 hq;have HBl:=hd0 XC;have YJ:=hd0 hB6;have Hn6:=hd0 hn6;have hw6:w6.heap.size=W7.heap.size:=by rw[<-WO];simp[World.setCell]
  have Hw6:=hd0 hw6;clear R hI6 rD V6 X7 M7 V7 hx6 YK e6 ea6 c0 hq XC hB6 hn6 hw6;go_wp2_with fail;refine PT.out.mono ?_;rintro e w8 ⟨v8,rfl,ho8,lI⟩;have V8:=yo.out.trans (bT.keep HS.out yo.out.src HX7.out yo.out.apart lI) hs7;obtain⟨s8,WT⟩:∃ s8:Ov,s8={ s6 with B:=fun i=>if i=l then q-m else s6.B i }:=⟨_,rfl⟩
  rw[<-WT]at V8;have hB8:∀ j,s8.B j=if j=l then q-m else s6.B j:=fun j=>by rw[WT]
  have hL8:s8.left=s6.left:=by rw[WT]
  have WJ:=hd0 V8;have X8:=hd0 V8.wk;have ah2:=V8.mod.size;have hPl:(cr p).length=m:=wO Z9.out;have afU:∀ g,v8.ownBlock=some g->s8.role g=.none/\¬ F6 g:=fun g hg=>by
   have hge:W7.heap.size<=g:=by
    rcases ho8.2 with⟨e,_⟩|⟨g',cap,dz,e,hb,_⟩
    ·rw[e]at hg;cases hg
    ·rw[e]at hg;have:g'=g:=by simpa[Value.ownBlock]using hg
     omega
   refine⟨?_,fun hf=>by have:=HS.out.lt yo.out.src g hf;omega⟩;apply avG;intro hr;have:=HX7.out.lt g (by rw[WT]at hr;exact hr);omega
  have HP0:Hid (aI w8 0 v8 (cr p)):=hd0 (eX ho8 (avw _));have adM:=hd0 afU;have HPl:=hd0 hPl;obtain⟨a8,rq,e8,_⟩:=aY ho8;have e8':v8=.slice a8 m rq:=by rw[e8];simp[hPl]
  have He8:=hd0 e8';clear V8 ho8 lI afU hPl PT cb fb c7 WO e8 WT;subst e8';go_wp2_with fail
  go_loopw [123] (fun x wr=>∃(k:Nat) (s':Ov) (F':Nat->Prop) (a:rx),k<=m/\x=.int .i64 (k:Int)/\Hid (cK (oa rd ch size l) (60*i) ((cr p).take k)=.ok a)/\Hid (bT w8 wr b (.iface ty rv) ch I F6 s8 a (size-240*(60 ^ l*(60*i+k))) (fun j=>if j<l then(au size).getD j 0-60 ^ (l-j)*(60*i+k)else s8.B j) s' F')/\Hid (aI wr 0 (.slice a8 m rq) (cr p))/\Hid (∀ g,(Value.slice a8 m rq).ownBlock=some g->s'.role g=.none/\¬ F' g)) (fun x _=>m-(intOf x).toNat)
  case atStart=>
   refine⟨0,s8,F6,([],[]),by omega,rfl,hd0 rfl,hd0 ((bT.keep HS.out WJ.out.src X8.out WJ.out.apart (ah.refl _ w8)).conv rfl ?_ (fun j=>?_)),HP0,adM⟩
   ·rw[hL8,Yl.out.left,V.out.left,sD.out,ave,av2,Nat.add_zero]
   ·split
    ·rename_i hj
     rw[hB8,auV (by omega),YJ.out,HB.out j (by omega),show l+1-j=(l-j)+1 by omega,ave,av2,Nat.add_zero]
    ·rfl
  case round=>
   clear HP0 adM;obtain⟨k,s',F',a,hk,rfl,Ha,HV,HPk,Wa⟩:=hrel;have za:=HV.out.mod.size;by_cases aK:k<m
   ·have dR:(k:Int)<(m:Int):=by omega
    obtain⟨x,hx⟩:∃ x,(cr p)[k]?=some x:=⟨_,auM (by rw[HPl.out];exact aK)⟩
    obtain⟨a9,ajs,e9,hc9⟩:=aY HPk.out;obtain⟨b9,o9,ea9,c9⟩:=hc9 k (.int .i64 x) (by simp[ba,hx]);injection e9 with e91 e92 e93;rw[ea9]at e91;subst e91;obtain⟨c,AI,Cm⟩:=zY Hp3.out k x hx a Ha.out;obtain⟨a',FQ,adw,aeu⟩:=zX Hp3.out (k+1) (by rw[HPl.out];omega);rw[Cm]at FQ;injection FQ with FQ;subst FQ;simp only[au3]at adw aeu;have aki:o.1.length=kk.1.length+1:=by rw[Hp4.out];simp
    have akP:o.2.length=kk.2.length:=by rw[Hp4.out]
    have hO':s'.O.length=s.O.length+1+a.1.length:=by rw[HV.out.O,WJ.out.O];simp[dS];omega
    have hN':∀ j,(s'.N j).length+c.1.length<=100000:=fun j=>by
     have e1:(bJ a.1 j).length<=a.1.length:=by unfold bJ;rw[avf];exact auX _ _
     have e2:(s8.N j).length<=(s.N j).length+1:=by
      rw[WJ.out.N,au3];refine Nat.add_le_add_left (auI (?_:_<=([(l+1,num)]++[]++[]++[]:List (Nat×Int)).length) (by simp)) _;unfold bJ;rw[avf];exact auX _ _
     have:=HN.out j;rw[HV.out.N,au3];omega
    have hD':s'.D.length=s.D.length+a.2.length:=by rw[HV.out.D,WJ.out.D];simp
    have K:=hd0 (HIH.out l rfl (60*i+k) x c wr F' s' HV.out.src HV.out.wk HV.out.apart (by rw[HV.out.n,WJ.out.n];exact Hn.out) HV.out.left (fun j hj=>by rw[HV.out.B,auT hj]) WD (by rw[HL1.out];have:=Hm.out;omega) (by have:=HO.out;omega) hN' (by have:=HD.out;omega) AI);have Hc2:=hd0 Cm;clear e92 e93 hc9 hx AI Cm adw aeu aki akP hO' hN' hD' ea9;go_wp2_with fail;refine K.out.mono ?_;rintro e w9 ⟨rfl,s9,F9,V9⟩;have HV9:=hd0 V9;clear V9 K c9;go_wp2_with fail
    go_roundw
    case rel=>
     refine⟨k+1,s9,F9,_,by omega,by go_num,Hc2,hd0 ((HV.out.trans HV9.out za).conv rfl (by rw[au1]) (fun j=>?_)),hd0 (aA HPk.out fun g hg=>HV9.out.mod.block g (aU HPk.out hg) (fun h=>h.elim (fun h=>h (Wa.out g hg).1) (Wa.out g hg).2)),hd0 (fun g hg=>⟨?_,fun hf=>?_⟩)⟩
     ·by_cases hj:j<l
      ·rw[auT hj,auT hj,au1]
      ·rw[auV hj,auV hj,HV.out.B,auV hj]
     ·apply avG;intro hr;rcases HV9.out.grow.new g hr with h|h
      ·exact h (Wa.out g hg).1
      ·have:=aU HPk.out hg;omega
     ·rcases HV9.out.foot g hf with h|h
      ·exact(Wa.out g hg).2 h
      ·have:=aU HPk.out hg;omega
    case measure=>simp[intOf];omega
   ·obtain rfl:k=m:=by omega
    have lF:=Qi cJ WD (by rw[HL1.out,Hm.out]) (by rw[HL1.out];exact aji);have IV:=hd0 lF;have Hat:Hid (kk=a):=hd0 (by
     have h1:=Ha.out;rw[avx (Nat.le_of_eq HPl.out),Hp3.out]at h1;injection h1)
    clear lF;go_wp2;go_ret;unfold pU;refine⟨rfl,s',F',(WJ.out.trans HV.out ah2).conv (by rw[Hp4.out,Hat.out];simp) IV.out.1 (fun j=>?_)⟩;by_cases hj:j<l
    ·rw[auT hj,auT (by omega)];exact IV.out.2 j hj
    ·rw[auV hj,hB8];by_cases CD:j=l
     ·subst CD;rw[auT rfl,auT (by omega),show j+1-j=1 by omega,HL1.out];have:=Hm.out;have:=Hq.out;omega
     ·rw[auV CD,auV (by omega),YJ.out]
theorem zZ {ty:TypeId}{rv:Value}{f:FuncId}{I:World->(Nat->Prop)->Prop}{rd:Rd}(S:qq ty rv f I rd)(size:Nat)(cJ:size<=16384)(b:Nat)(ch:Bool):∀ l,Bk ty rv f I rd size b ch l
 |0=>xf S size cJ b ch 0 (fun _ h=>by omega)
 |l+1=>xf S size cJ b ch (l+1) (fun l' h=>by
   have:l'=l:=by omega
   subst this;exact zZ S size cJ b ch l')
end
end Go.Proofs.YtkghpdcloaiflaaGreatDoor
