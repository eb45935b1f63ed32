import Derived.Test.YtkghpdcloaiflaaGreatDoorH18
set_option maxHeartbeats 8000000
set_option maxRecDepth 100000
namespace Go.Proofs.YtkghpdcloaiflaaGreatDoor
open _root_.Go.Proofs.Tryz
variable {i l size:Nat}{num:Int}
section
open Go.RowKit Go.Shelf
theorem zU {f:Nat->Int->Except Int rt}:∀ {P:List Int} {i:Nat} {o:rt},cH f i P=.ok o->∀ k,k<=P.length->∃ a,cH f i (P.take k)=.ok a/\a.1.length<=o.1.length/\a.2.length<=o.2.length
 |[],i,o,h,k,hk=>⟨o,by simpa using h,av9 _,av9 _⟩
 |n::r,i,o,h,k,hk=>by
  unfold cH at h
  cases hf:f i n with
  |error e=>rw[hf]at h;cases h
  |ok a=>
   rw[hf]at h;simp only at h
   cases hr:cH f (i+1) r with
   |error e=>rw[hr]at h;cases h
   |ok b=>
    rw[hr]at h;simp only at h;injection h with h;subst h
    cases k with
    |zero=>exact⟨([],[]),rfl,by simp,by simp⟩
    |succ k=>
     obtain⟨c,hc,h1,h2⟩:=zU hr k (by simpa using hk);refine⟨(a.1++c.1,a.2++c.2),?_,by simp;omega,by simp;omega⟩;rw[awS];unfold cH;rw[hf];simp only;rw[hc]
theorem zV {f:Nat->Int->Except Int rt}:∀ {P:List Int} {i:Nat} {o:rt},cH f i P=.ok o->∀ k n,P[k]?=some n->∀ a,cH f i (P.take k)=.ok a->∃ c,f (i+k) n=.ok c/\cH f i (P.take (k+1))=.ok (a.1++c.1,a.2++c.2)
 |[],i,o,h,k,n,hk,a,ha=>by simp at hk
 |m::r,i,o,h,k,n,hk,a,ha=>by
  unfold cH at h
  cases hf:f i m with
  |error e=>rw[hf]at h;cases h
  |ok x=>
   rw[hf]at h;simp only at h
   cases hr:cH f (i+1) r with
   |error e=>rw[hr]at h;cases h
   |ok b=>
    cases k with
    |zero=>
     simp at hk;subst hk;simp[cH]at ha;subst ha;refine⟨x,hf,?_⟩;rw[awS,awT];unfold cH;rw[hf];simp[cH]
    |succ k=>
     rw[awS]at ha;unfold cH at ha;rw[hf]at ha;simp only at ha
     cases hq:cH f (i+1) (r.take k)with
     |error e=>rw[hq]at ha;cases ha
     |ok y=>
      rw[hq]at ha;simp only at ha;injection ha with ha;subst ha;obtain⟨c,h1,h2⟩:=zV hr k n (by simpa using hk) y hq;refine⟨c,by rw[show i+(k+1)=i+1+k by omega];exact h1,?_⟩;rw[awS];unfold cH;rw[hf];simp only;rw[h2];simp
structure bT (w w':World)(b:Nat)(iv:Value)(ch:Bool)(I:World->(Nat->Prop)->Prop)(F:Nat->Prop)(s:OB)(o:rt)(left:Nat)(B:Nat->Nat)(s':OB)(F':Nat->Prop):Prop where
 src:I w' F'
 wk:ug w' b iv ch s'
 n:s'.n=s.n
 N:∀ l,s'.N l=s.N l++bL o.1 l
 O:s'.O=s.O++dG o.1
 D:s'.D=s.D++o.2
 left:s'.left=left
 B:∀ j,s'.B j=B j
 grow:iH s.role s'.role w.heap.size
 foot:∀ g,F' g->F g\/w.heap.size<=g
 apart:∀ g,s'.role g≠.none->¬ F' g
 mod:ai (λg=>s.role g≠.none\/F g) w w'
theorem xc {rd:Rd}{ch:Bool}{size:Nat}:∀(l i:Nat) (n:Int) (o:rt),nK rd ch size l i n=.ok o->o.1.length+1<=2*60 ^ l/\o.2.length<=240*60 ^ l
 |0,i,n,o,h=>by
  unfold nK at h;split at h
  ·cases hr:rd n with
   |error e=>rw[hr]at h;cases h
   |ok s=>
    rw[hr]at h;simp only at h;split at h
    ·cases h
    ·injection h with h;subst h;simp;omega
  ·injection h with h;subst h;simp
 |l+1,i,n,o,h=>by
  unfold nK at h
  cases hr:rd n with
  |error e=>rw[hr]at h;cases h
  |ok s=>
   rw[hr]at h;simp only at h;split at h
   ·cases h
   ·rename_i hl
    cases hk:cH (nK rd ch size l) (60*i) (co s)with
    |error e=>rw[hk]at h;cases h
    |ok k=>
     rw[hk]at h;simp only at h;injection h with h;subst h;have bt:s.length=4*min ((ax size).getD l 0-60*i) 60:=J
     have hp:=wJ bt;have p0:1<=60 ^ l:=Nat.pow_pos dc7;obtain⟨B,hB⟩:∃ B,2*60 ^ l=B+1:=⟨2*60 ^ l-1,J⟩
     have key:∀(P:List Int) (i:Nat) (k:rt),cH (nK rd ch size l) i P=.ok k->k.1.length<=B*P.length/\k.2.length<=240*60 ^ l*P.length:=by
      intro P
      induction P with
      |nil=>intro i k h;simp[cH]at h;subst h;simp
      |cons m r ih=>
       intro i k h;unfold cH at h
       cases hf:nK rd ch size l i m with
       |error e=>rw[hf]at h;cases h
       |ok a=>
        rw[hf]at h;simp only at h
        cases hr:cH (nK rd ch size l) (i+1) r with
        |error e=>rw[hr]at h;cases h
        |ok b=>
         rw[hr]at h;simp only at h;injection h with h;subst h;have h1:=xc l i m a hf;rw[hB]at h1;have h2:=ih _ _ hr;simp only[awn,av5,Nat.mul_add,Nat.mul_one];omega
     obtain⟨k1,k2⟩:=key _ _ _ hk;have AE:(co s).length<=60:=J
     have a1:=awx B AE;have a2:=awx (240*60 ^ l) AE
     constructor
     ·simp only[av5];rw[awy,<-axk,hB];omega
     ·simp only;rw[awy,<-axk];omega
section
variable {ty:TypeId}{rv:Value}{f:FuncId}{I:World->(Nat->Prop)->Prop}{rd:Rd}{w w1 w2:World}{b:Nat}{iv:Value}{ch:Bool}{F F1 F2:Nat->Prop}{s s1 s2:OB}
theorem bT.trans {o o2:rt}{l1 l2:Nat}{B1 B2:Nat->Nat}(h:bT w w1 b iv ch I F s o l1 B1 s1 F1)(k:bT w1 w2 b iv ch I F1 s1 o2 l2 B2 s2 F2)(hs:w.heap.size<=w1.heap.size):bT w w2 b iv ch I F s (o.1++o2.1,o.2++o2.2) l2 B2 s2 F2 where
 src:=k.src
 wk:=k.wk
 n:=k.n.trans h.n
 N l:=by rw[k.N,h.N,oF,awN]
 O:=by rw[k.O,h.O];simp[dG]
 D:=by rw[k.D,h.D,awN]
 left:=k.left
 B:=k.B
 grow:=h.grow.trans k.grow hs
 foot g hg:=(k.foot g hg).elim (h.foot g) (λh2=>.inr J)
 apart:=k.apart
 mod:=h.mod.trans k.mod (λg hg hh=>hh.elim (λhr=>(h.grow.new g hr).elim .inl (λh2=>J)) (λhf=>(h.foot g hf).elim .inr (λh2=>J)))
theorem bT.src' (_S:qg ty rv f I rd)(_hI:I w F)(hX:ug w b iv ch s)(nI:∀ g,s.role g≠.none->¬ F g)(k:dO F F1 w w1)(Og:I w1 F1):bT w w1 b iv ch I F s ([],[]) s.left s.B s F1 where
 src:=Og
 wk:=hX.same (k.mod.on nI) k.mod.size
 n:=rfl
 N l:=by simp[bL]
 O:=by simp[dG]
 D:=by simp
 left:=rfl
 B _:=rfl
 grow:=iH.refl _ _
 foot:=k.foot
 apart g hr hf:=(k.foot g hf).elim (nI g hr) (λh=>by have:=hX.lt g hr;omega)
 mod:=k.mod.mono λ_ _ h=>.inr h
theorem bT.wk' (S:qg ty rv f I rd)(hI:I w F)(nI:∀ g,s.role g≠.none->¬ F g)(X:ug w1 b iv ch s1)(G:iH s.role s1.role w.heap.size)(m:ai (λg=>s.role g≠.none) w w1)(o:rt)(hn:s1.n=s.n)(hN:∀ l,s1.N l=s.N l++bL o.1 l)(hO:s1.O=s.O++dG o.1)(hD:s1.D=s.D++o.2):bT w w1 b iv ch I F s o s1.left s1.B s1 F where
 src:=S.same hI (m.on λg hg hr=>nI g hr hg) m.size
 wk:=X
 n:=hn
 N:=hN
 O:=hO
 D:=hD
 left:=rfl
 B _:=rfl
 grow:=G
 foot _ h:=.inl h
 apart g hr hf:=(G.new g hr).elim (λh=>nI g h hf) (λh=>by have:=S.lt hI g hf;omega)
 mod:=m.mono λ_ _ h=>.inl h
theorem bT.keep (S:qg ty rv f I rd)(hI:I w F)(hX:ug w b iv ch s)(nI:∀ g,s.role g≠.none->¬ F g)(k:af w w1):bT w w1 b iv ch I F s ([],[]) s.left s.B s F:=
 bT.src' S hI hX nI ⟨k.mono (λ_ _ h=>h.elim),λ_ h=>.inl h⟩ (S.same hI (k.on λ_ _=>id) k.size)
end
end
section
open Go.RowKit Go.Shelf
attribute [local go_sem] av0
section
variable {I:World->(Nat->Prop)->Prop}{w w':World}{b:Nat}{iv:Value}{ch:Bool}{F F':Nat->Prop}{s s':OB}
theorem bT.conv {o o':rt}{l':Nat}{B B':Nat->Nat}(h:bT w w' b iv ch I F s o l B s' F')(ho:o=o')(hl:l=l')(hB:∀ j,B j=B' j):bT w w' b iv ch I F s o' l' B' s' F':=by
 subst ho hl;exact { h with B:=λj=>(h.B j).trans (hB j) }
end
theorem VE {rd:Rd}{o:rt}(h:nK rd true size 0 i num=.ok o):∃ p,rd num=.ok p/\p.length=min (size-240*i) 240/\o=([(0,num)],p):=by
 unfold nK at h;simp only[if_true]at h
 cases hr:rd num with
 |error e=>rw[hr]at h;cases h
 |ok p=>
  rw[hr]at h;simp only at h;split at h
  ·cases h
  ·injection h with h;exact⟨p,rfl,J,h.symm⟩
theorem Qp {rd:Rd}{o:rt}(h:nK rd false size 0 i num=.ok o):o=([(0,num)],[]):=by
 unfold nK at h;simp at h;exact h.symm
theorem VG {rd:Rd}{ch:Bool}{o:rt}(h:nK rd ch size (l+1) i num=.ok o):∃ p k,rd num=.ok p/\p.length=4*min ((ax size).getD l 0-60*i) 60/\cH (nK rd ch size l) (60*i) (co p)=.ok k/\o=((l+1,num)::k.1,k.2):=by
 unfold nK at h
 cases hr:rd num with
 |error e=>rw[hr]at h;cases h
 |ok p=>
  rw[hr]at h;simp only at h;split at h
  ·cases h
  ·rename_i hl
   cases hk:cH (nK rd ch size l) (60*i) (co p)with
   |error e=>rw[hk]at h;cases h
   |ok k=>
    rw[hk]at h;simp only at h;injection h with h;exact⟨p,k,rfl,J,hk,h.symm⟩
theorem Qq {m:Nat}(hs:size<=16384)(hl:l<(ax size).length)(hm:m=min ((ax size).getD l 0-60*i) 60)(hi:60*i<(ax size).getD l 0):size-240*(60 ^ l*(60*i+m))=size-240*(60 ^ (l+1)*(i+1))/\∀ j,j<l->(ax size).getD j 0-60 ^ (l-j)*(60*i+m)=(ax size).getD j 0-60 ^ (l+1-j)*(i+1):=by
 obtain⟨c1,c2⟩:=oG size l hs hl;generalize (ax size).getD l 0=n at*;have e:60 ^ (l+1)*(i+1)=60 ^ l*(60*(i+1)):=by rw[awy,axk]
 rcases(by omega:m=60\/(60*i+m=n/\n<=60*(i+1)))with h|⟨h,h2⟩
 ·subst h;have e2:60*i+60=60*(i+1):=J
  refine⟨by rw[e,e2],λj hj=>?_⟩;rw[e2,show l+1-j=(l-j)+1 by omega,awy,axk]
 ·rw[h];refine⟨?_,λj hj=>?_⟩
  ·have a1:size<=240*(60 ^ l*n):=by rw[<-axk];exact c1
   have a2:60 ^ l*n<=60 ^ l*(60*(i+1)):=awx _ h2;rw[e];omega
  ·have a1:=c2 j hj;have a2:60 ^ (l-j)*n<=60 ^ (l-j)*(60*(i+1)):=awx _ h2;rw[show l+1-j=(l-j)+1 by omega,awy,axk];omega
def pG (w:World)(b:Nat)(iv:Value)(ch:Bool)(I:World->(Nat->Prop)->Prop)(F:Nat->Prop)(s:OB)(o:rt)(size l i:Nat)(e:Ending)(w':World):Prop:=
 e=.returned (.int .i64 0)/\∃ s' F',bT w w' b iv ch I F s o (size-240*(60 ^ l*(i+1))) (λj=>if j<l then(ax size).getD j 0-60 ^ (l-j)*(i+1)else s.B j) s' F'
def Bl (ty:TypeId)(rv:Value)(_f:FuncId)(I:World->(Nat->Prop)->Prop)(rd:Rd)(size b:Nat)(ch:Bool)(l:Nat):Prop:=
 ∀(i:Nat) (num:Int) (o:rt) (w:World) (F:Nat->Prop) (s:OB),I w F->ug w b (.iface ty rv) ch s->(∀ g,s.role g≠.none->¬ F g)->s.n=(ax size).length->s.left=size-240*(60 ^ l*i)->(∀ j,j<l->s.B j=(ax size).getD j 0-60 ^ (l-j)*i)->
  l<(ax size).length->i<(ax size).getD l 0->s.O.length+o.1.length<=100000->(∀ k,(s.N k).length+o.1.length<=100000)->s.D.length+o.2.length<=900000->nK rd ch size l i num=.ok o->
  Calls prog 276 #[.pointer (some ⟨b,0,none⟩),.int .i64 num,.int .i64 (l:Int)] w (pG w b (.iface ty rv) ch I F s o size l i)
theorem yP (N:Nat->List Int)(l:Nat)(x:Int)(k:Nat):(if k=l then N l++[x]else N k)=N k++bL [(l,x)] k:=by
 by_cases h:k=l
 ·subst h;simp[bL]
 ·have:¬ l=k:=λe=>h e.symm;simp[bL,h,this]
theorem xd {ty:TypeId}{rv:Value}{f:FuncId}{I:World->(Nat->Prop)->Prop}{rd:Rd}(S:qg ty rv f I rd)(size:Nat)(cJ:size<=16384)(b:Nat)(ch:Bool)(l:Nat)(IH:∀ l',l=l'+1->Bl ty rv f I rd size b ch l'):Bl ty rv f I rd size b ch l:=by
 intro i num o w F s hI hX nI hn lH hB hl hi hO hN hD lh;obtain⟨HS,HIH⟩:=K2 S IH;have YR:=S.meth;have cI:=S.call;obtain⟨v,hv⟩:∃ v,s.rows[l]?=some v:=⟨_,av6 (by rw[hX.rlen,hn];exact hl)⟩
 have R9:1<=o.1.length:=by
  cases l with
  |zero=>
   unfold nK at lh;split at lh
   ·cases hr:rd num with
    |error e=>rw[hr]at lh;cases lh
    |ok s=>rw[hr]at lh;simp only at lh;split at lh;· cases lh
           ·injection lh with h;subst h;simp
   ·injection lh with h;subst h;simp
  |succ l=>
   unfold nK at lh
   cases hr:rd num with
   |error e=>rw[hr]at lh;cases lh
   |ok s=>rw[hr]at lh;simp only at lh;split at lh;· cases lh
          ·cases hk:cH (nK rd ch size l) (60*i) (co s)with
           |error e=>rw[hk]at lh;cases lh
           |ok k=>rw[hk]at lh;simp only at lh;injection lh with h;subst h;simp
 obtain⟨v1,w1,r1,yu,m1,at1,g1,yC,rfl⟩:=gQ (P:=prog) underlying46 iQ rfl dc7 0 s.ov _ _ w hX.order [.int .i64 num] rfl (by simp[Value.oneCell']) (by unfold maxLen;show s.O.length+1<=_;omega) (by show(s.O.length+1)*8<=_;omega) (awP _);obtain⟨X2,G2,M2⟩:=hX.ordered num _ (j6 yu) m1 at1;have hb1:=ab m1 hX.own (λe=>by have:=hX.rorder b e;rw[hX.rb]at this;cases this);have c3:w.cell? ⟨b,3,none⟩=some s.ov:=aa hX.own 3;have c31:w1.cell? ⟨b,3,none⟩=some s.ov:=aa hb1 3;have f31:w1.frozen? ⟨b,3,none⟩=false:=ae hb1 _ rfl;have SD:b<w.heap.size:=ak hX.own;obtain⟨W2,hW2⟩:∃ W2,w1.setCell ⟨b,3,none⟩ (.slice (some ⟨g1,0,none⟩) (s.O.length+1) yC)=W2:=⟨_,rfl⟩
 rw[hW2]at X2 M2;have d2:W2.cell? ⟨b,2,none⟩=some (.slice (some ⟨s.nb,0,none⟩) s.n s.n):=aa X2.own 2;have dn:W2.cell? ⟨s.nb,l,none⟩=some v:=by rw[aa X2.nums l];simpa using hv
 have FK:(l:Int)<(s.n:Int):=J
 have Ut:(l:Int)<=3:=by have:=rP size;omega
 obtain⟨lg,Tn,gi,Xw,HX,HI,Hap,HW2,Hv⟩:=K9 X2 G2 M2 r1 hX hI nI hW2 hv;obtain⟨HO,HN,HD,HB,Hl,Hi,Hn,yB,Hno⟩:=K9 hO hN hD hB hl hi hn lH lh;clear X2 G2 M2 r1 hX hI nI yu m1 at1 hb1 hv hO hN hD hB hl hi hn lH lh;go_enter func276,ntmps276;go_wp2_with (at_builtin;refine aB Xw.o rfl rfl rfl rfl ?_);clear c3 c31 f31 Xw HW2 hW2;refine ky 12 12 14 (λw'=>∃ m,w'=W2.drewN m) (λw'=>w'.cell? ⟨b,2,none⟩=some (.slice (some ⟨s.nb,0,none⟩) s.n s.n)) (λw'=>w'.cell? ⟨s.nb,l,none⟩=some v) kr7 kr7 dc7 (λ_ o _ _ _ h=>by cases o<;>exact h) ⟨1,rfl⟩ (by rintro _ ⟨m,rfl⟩;exact⟨d2,dn⟩) ?_;simp only[awS,awT,awU,awV]
 iterate 11 (refine oz (λL hL=>?_);go_simp;(first|refine hL _ ?_|refine⟨_,λ_ _=>rfl,hL _ ?_⟩|refine⟨_,λW hW=>by simp only[hW];rfl,hL _ ?_⟩);clear hL L)
 refine AY kr7 (λL hL=>?_)
 go_simp
 refine⟨_,λW _ hW=>by simp only[hW];rfl,hL _ ?_⟩;clear hL L;refine qE (awX ?_);intro _ bD;obtain⟨nq,rfl⟩:=bD;have mq:af W2 (W2.drewN nq):=(ai.refl _ W2).drewN nq;have X3:=lg.same (mq.on λ_ _=>id) mq.size;obtain⟨W3,T4⟩:∃ W3,W2.drewN nq=W3:=⟨_,rfl⟩
 rw[T4]at X3 mq;have XZ:s.rows[l]?=some v:=Hv.o;obtain⟨v4,w4,r4,af7,m4,at4,g4,akJ,rfl⟩:=gQ (P:=prog) underlying46 iQ rfl dc7 0 v _ _ W3 (X3.row l v XZ) [.int .i64 num] rfl (by simp[Value.oneCell']) (by have:=HN.o l;unfold maxLen;show(s.N l).length+1<=_;omega) (by have:=HN.o l;show((s.N l).length+1)*8<=_;omega) (awP _);obtain⟨X5,G5,M5⟩:=X3.rowed l v XZ num _ (j6 af7) m4 at4;have abV:=ab m4 X3.nums (λe=>by have:=X3.rrow l v _ XZ e;rw[X3.rnb]at this;cases this);have c4:w4.cell? ⟨s.nb,l,none⟩=some v:=by have:=aa abV l;rw[this];simpa using Hv.o
 have f4:w4.frozen? ⟨s.nb,l,none⟩=false:=ae abV _ rfl;have HR4:=Z r4;have V5:=bT.wk' HS.o HI.o Hap.o X5 (Tn.trans G5 (av2 gi.size mq.size)) ((gi.trans (mq.mono (T:=λg=>s.role g≠.none) (λ_ _ h=>h.elim)) (λ_ _ h=>h)).trans M5 (λg hg hr=>(Tn.new g hr).elim id (λh=>J))) ([(l,num)],[]) rfl (yP s.N l num) rfl sp7;have V:=Z V5;obtain⟨W5,yE⟩:∃ W5,w4.setCell ⟨s.nb,l,none⟩ (.slice (some ⟨g4,0,none⟩) ((s.N l).length+1) akJ)=W5:=⟨_,rfl⟩
 rw[yE]at V;have mM:=Z yE;have t2:W3.cell? ⟨b,2,none⟩=some (.slice (some ⟨s.nb,0,none⟩) s.n s.n):=by rw[<-T4];exact d2
 have tn:W3.cell? ⟨s.nb,l,none⟩=some v:=by rw[<-T4];exact dn
 have t2b:w4.cell? ⟨b,2,none⟩=some (.slice (some ⟨s.nb,0,none⟩) s.n s.n):=by
  have:=aa (ab m4 X3.own (λe=>by have:=X3.rrow l v _ XZ e;rw[X3.rb]at this;cases this)) 2;exact this
 have t2c:W5.cell? ⟨b,2,none⟩=some (.slice (some ⟨s.nb,0,none⟩) s.n s.n):=by rw[<-yE];exact aa V5.wk.own 2
 rw[T4];have ta:∀ o,(W3.alloc o).cell? ⟨b,2,none⟩=some (.slice (some ⟨s.nb,0,none⟩) s.n s.n):=λo=>(((ai.refl (λ_=>False) W3).alloc o).cell (p:=⟨b,2,none⟩) (am t2) id).trans t2;have tb:∀ o,(W3.alloc o).cell? ⟨s.nb,l,none⟩=some v:=λo=>(((ai.refl (λ_=>False) W3).alloc o).cell (p:=⟨s.nb,l,none⟩) (am tn) id).trans tn;refine⟨⟨t2,.inr tn⟩,?_⟩;go_wp2_with fail;refine⟨⟨t2,.inr tn⟩,?_⟩;go_wp2_with fail;refine⟨⟨ta _,.inr (tb _)⟩,?_⟩;go_wp2_with (at_builtin;refine aB HR4.o rfl rfl rfl rfl ?_);refine⟨⟨t2b,.inl dc7⟩,?_⟩;go_wp2_with fail;refine⟨⟨t2b,.inl dc7⟩,?_⟩;go_wp2_with fail;refine⟨⟨t2c,.inl dc7⟩,?_⟩;clear ta tb t2 tn t2b t2c;clear V5 X5 G5 M5 af7 m4 at4 abV r4 XZ X3 mq T4 d2 dn lg Tn gi mM yE c4 f4;obtain⟨s5,V⟩:∃ s5,Hid (bT w W5 b (.iface ty rv) ch I F s ([(l,num)],[]) s.left s.B s5 F):=⟨_,V⟩
 have X5:=Z V.wk;have Gb:=V.mod.size;rcases l with _|l
 ·obtain⟨L0,Uy⟩:∃ L0,s5.left=L0:=⟨_,rfl⟩
  have HL0:Hid (L0=size-240*i):=Z (by rw[<-Uy,V.left,yB.o];simp);have arx:240*i<size:=by
   have h:=Hi.o;rw[mX]at h;apply awZ;intro hc;have:=(aL (n:=size) (each:=240) (k:=i) dc7).2 J;omega
  have aqC:(L0:Int)<=16384:=by have:=HL0.o;omega
  obtain⟨m,hm⟩:∃ m,min L0 240=m:=⟨_,rfl⟩
  have hmi:min (L0:Int) 240=(m:Int):=J
  have zn:(m:Int)<=240:=J
  have c6:W5.cell? ⟨b,6,none⟩=some (.int .i64 (L0:Int)):=by rw[<-Uy];exact aa X5.own 6
  have f6:=ae X5.own ⟨b,6,none⟩ rfl;obtain⟨X6,M6⟩:=X5.lefted (L0-m);have e6:((L0-m:Nat):Int)=(L0:Int)-(m:Int):=J
  rw[e6]at X6 M6;obtain⟨W6,UF⟩:∃ W6,W5.setCell ⟨b,6,none⟩ (.int .i64 ((L0:Int)-(m:Int)))=W6:=⟨_,rfl⟩
  rw[UF]at X6 M6;have V6:=V.trans (bT.wk' HS.o V.src V.apart X6 (iH.refl _ _) M6 ([],[]) rfl (λl=>by simp[bL]) (by simp[dG]) sp7) Gb;have c0:W6.cell? ⟨b,0,none⟩=some (.iface ty rv):=aa X6.own 0;have c1:W6.cell? ⟨b,1,none⟩=some (.bool ch):=aa X6.own 1;have hB5:∀ j,s5.B j=s.B j:=V.B;have gN:Hid (L0-m=size-240*(60 ^ 0*(i+1))):=Z (by have:=HL0.o;omega);obtain⟨F0,Yj,Hm,HX6⟩:=K4 hB5 V6 hm X6;clear V V6 X6 M6 Uy hm hB5 X5
  cases ch with
  |false=>
   have Ho:=Z (Qp Hno.o);go_wp2;go_ret;unfold pG;exact⟨rfl,_,_,Yj.conv (by rw[Ho.o];simp) gN.o (λj=>by rw[awf J];exact F0.o j)⟩
  |true=>
   obtain⟨p,CE,KU,hp3⟩:=VE Hno.o;have R:=Z (HS.read Yj.src CE);have hpm:(p.length:Int)=(m:Int):=by have:=HL0.o;have:=Hm.o;omega
   obtain⟨Hp3,Hp2⟩:=K2 hp3 KU;clear CE KU hp3;go_wp2_with fail;refine R.mono ?_;rintro e w7 ⟨rfl,F7,KS,pV⟩;have V7:=Yj.trans (bT.src' HS.o Yj.src HX6.o Yj.apart pV KS) Yj.mod.size;obtain⟨s7,V7⟩:∃ s7,bT w w7 b (.iface ty rv) true I F s (([(0,num)]++[]++[],[]++[]++[]):rt) (L0-m) s5.B s7 F7:=⟨_,V7⟩
   obtain⟨yz,X7⟩:=K2 V7 V7.wk;have hs7:=V7.mod.size;have hD7:s7.D=s.D:=by rw[V7.D];simp
   have YK:s7.pv=.pointer none\/s7.pv=.pointer (some ⟨b,4,none⟩):=X7.data.imp (·.1) (·.1);have uA:bR w7 0 s7.dv s7.D:=by
    rcases X7.data with⟨_,h2,h3⟩|⟨_,_,h3⟩
    ·rw[h2,h3];exact⟨rfl,.inl ⟨rfl,rfl⟩⟩
    ·exact h3
   have hdn:s7.dv.ownBlock≠some b:=λe=>by have:=X7.rdata b e;rw[X7.rb]at this;cases this
   have C:=Z (Qi b w7 s7.D p X7.own YK uA hdn (by rw[hD7];have:=HD.o;rw[Hp3.o]at this;simp only at this;omega));have Tg:p≠[]:=λe=>by
    have h1:=Hp2.o;rw[e]at h1;simp at h1;omega
   clear R KS pV V7 c6 f6 UF c0 c1 YK uA hdn hD7;go_wp2_with fail;refine C.mono ?_;rintro e w8 ⟨rfl,F8,Sc,ho8,m8,at8⟩;obtain⟨X8,G8,M8⟩:=X7.dated p Tg F8 Sc ho8 m8 at8;have V8:=yz.trans (bT.wk' HS.o yz.src yz.apart X8 G8 M8 ([],p) rfl (λl=>by simp[bL]) (by simp[dG]) rfl) hs7;have Xh:=Z V8;clear X8 G8 M8 V8 Sc ho8 m8 at8 C;go_wp2;go_ret;unfold pG;exact⟨rfl,_,_,Xh.conv (by rw[Hp3.o];simp) (by rw[<-gN.o];exact yz.left) (λj=>by rw[awf J];exact(yz.B j).trans (F0.o j))⟩
 ·obtain⟨p,kk,CE,KU,hp3,OI⟩:=VG Hno.o;have Xm:l<(ax size).length:=by have:=Hl.o;omega
  obtain⟨L1,zk⟩:∃ L1,(ax size).getD l 0=L1:=⟨_,rfl⟩
  have ajk:60*i<L1:=by
   have h:=Hi.o;have hu:=mo size cJ l (by have:=Hl.o;omega);rw[hu,zk]at h;apply awZ;intro hc;have:=(aL (n:=L1) (each:=60) (k:=i) dc7).2 J;omega
  have apE:L1<=69:=by
   have:=oM cJ L1 (by rw[<-zk,axm,av6 Xm];exact awF _);exact this.2
  rw[zk]at KU;obtain⟨m,hm⟩:∃ m,min (L1-60*i) 60=m:=⟨_,rfl⟩
  rw[hm]at KU;have c0:W5.cell? ⟨b,0,none⟩=some (.iface ty rv):=aa X5.own 0;obtain⟨R,Hp4,Hp3,Hp2,Hm,HL1⟩:=K6 (HS.read V.src CE) OI hp3 KU hm zk;have yl:((l+1:Nat):Int)=(l:Int)+1:=J
  rw[yl];have kX:(l:Int)<=2:=J
  have hlz:(((l:Int)+1)==0)=false:=by simp;omega
  clear CE KU hp3 OI hm zk;go_wp2_with fail;refine R.mono ?_;rintro e w6 ⟨rfl,F6,hI6,pX⟩;have V6:=V.trans (bT.src' HS.o V.src X5.o V.apart pX hI6) Gb;obtain⟨s6,V6⟩:∃ s6,bT w w6 b (.iface ty rv) ch I F s (([(l+1,num)]++[],[]++[]):rt) s5.left s5.B s6 F6:=⟨_,V6⟩
  obtain⟨Yj,X6⟩:=K2 V6 V6.wk;have OP:=V6.mod.size;have hn6:s6.n=(ax size).length:=V6.n.trans Hn.o;have hB6:∀ j,s6.B j=s.B j:=λj=>(V6.B j).trans (V.B j);obtain⟨a6,rh,e6,hx6⟩:=bh X6.below;have Ya:(bu (gh ((List.range s6.n).map s6.B))).length=s6.n:=by simp[bu,gh]
  rw[Ya]at e6;have Yi:s6.B l=L1-60*i:=by
   have h:=HB.o l J;rw[hB6,h,HL1.o,show l+1-l=1 by omega]
  obtain⟨gb,ob,ea6,cb⟩:=hx6 l (.int .i64 ((L1-60*i:Nat):Int)) (by
   unfold bu gh;rw[aw5,aw5,aw5,aw6 J];simp[Yi])
  have hgb:ob=0/\s6.bv.ownBlock=some gb/\w6.frozen? ⟨gb,l,none⟩=false:=by
   rcases X6.below.2 with⟨e,_⟩|⟨g',cap,dW,e,_,Tk,_⟩
   ·rw[e6,ea6]at e;injection e with e;cases e
   ·rw[e6,ea6]at e;injection e with e1 e2 e3;injection e1 with e1;injection e1 with e1 e4;subst e1;exact⟨e4,by rw[e6,ea6];rfl,ae Tk _ rfl⟩
  obtain⟨rfl,Jz,fb⟩:=hgb;rw[awR]at cb;rw[ea6]at e6;have c7:w6.cell? ⟨b,7,none⟩=some (.slice (some ⟨gb,0,none⟩) s6.n rh):=by rw[<-e6];exact aa X6.own 7
  obtain⟨q,hq⟩:∃ q,L1-60*i=q:=⟨_,rfl⟩
  rw[hq]at cb Yi;have hmq:min (q:Int) 60=(m:Int):=by have:=Hm.o;omega
  have OG:(q:Int)<=69:=J
  have zn:(m:Int)<=(q:Int):=J
  have nR:(p.length:Int)=4*(m:Int):=by have:=Hp2.o;omega
  have hln:(l:Int)<(s6.n:Int):=by rw[hn6];omega
  obtain⟨X7,M7⟩:=X6.belowed l (q-m) gb (by rw[hn6];exact Xm) Jz;have eqm:((q-m:Nat):Int)=(q:Int)-(m:Int):=J
  rw[eqm]at X7 M7;obtain⟨W7,WW⟩:∃ W7,w6.setCell ⟨gb,l,none⟩ (.int .i64 ((q:Int)-(m:Int)))=W7:=⟨_,rfl⟩
  rw[WW]at X7 M7;have V7:=V6.trans (bT.wk' HS.o V6.src V6.apart X7 (iH.refl _ _) M7 ([],[]) rfl (λl=>by simp[bL]) (by simp[dG]) sp7) OP;obtain⟨PT,HX7,yz⟩:=K3 (Bh p m W7 Hp2.o J) X7 V7;have hs7:=V7.mod.size;obtain⟨Hq,HBl,HB6,Hn6⟩:=K4 hq Yi hB6 hn6;have hw6:w6.heap.size=W7.heap.size:=by rw[<-WW];simp[World.setCell]
  have Hw6:=Z hw6;clear R hI6 pX V6 X7 M7 V7 hx6 Ya e6 ea6 c0 hq Yi hB6 hn6 hw6;go_wp2_with fail;refine PT.mono ?_;rintro e w8 ⟨v8,rfl,ho8,kn⟩;have V8:=yz.trans (bT.keep HS.o yz.src HX7.o yz.apart kn) hs7;obtain⟨s8,Xd⟩:∃ s8:OB,s8={ s6 with B:=λi=>if i=l then q-m else s6.B i }:=⟨_,rfl⟩
  rw[<-Xd]at V8;have hB8:∀ j,s8.B j=if j=l then q-m else s6.B j:=λj=>by rw[Xd]
  have hL8:s8.left=s6.left:=by rw[Xd]
  obtain⟨Xh,X8⟩:=K2 V8 V8.wk;have ai7:=V8.mod.size;have hPl:(co p).length=m:=wJ Hp2.o;have adM:∀ g,v8.ownBlock=some g->s8.role g=.none/\¬ F6 g:=λg hg=>by
   have hge:W7.heap.size<=g:=by
    rcases ho8.2 with⟨e,_⟩|⟨g',cap,dW,e,hb,_⟩
    ·rw[e]at hg;cases hg
    ·rw[e]at hg;have:g'=g:=by simpa[Value.ownBlock]using hg
     omega
   refine⟨?_,λhf=>by have:=HS.lt yz.src g hf;omega⟩;apply awZ;intro hr;have:=HX7.lt g (by rw[Xd]at hr;exact hr);omega
  have HP0:Hid (aO w8 0 v8 (co p)):=Z (eS ho8 (awP _));obtain⟨afu,HPl⟩:=K2 adM hPl;obtain⟨a8,rg,e8,_⟩:=bh ho8;have e8':v8=.slice a8 m rg:=by rw[e8];simp[hPl]
  have He8:=Z e8';clear V8 ho8 kn adM hPl PT cb fb c7 WW e8 Xd;subst e8';go_wp2_with fail
  go_loopw [123] (λx wr=>∃(k:Nat) (s':OB) (F':Nat->Prop) (a:rt),k<=m/\x=.int .i64 (k:Int)/\Hid (cH (nK rd ch size l) (60*i) ((co p).take k)=.ok a)/\Hid (bT w8 wr b (.iface ty rv) ch I F6 s8 a (size-240*(60 ^ l*(60*i+k))) (λj=>if j<l then(ax size).getD j 0-60 ^ (l-j)*(60*i+k)else s8.B j) s' F')/\Hid (aO wr 0 (.slice a8 m rg) (co p))/\Hid (∀ g,(Value.slice a8 m rg).ownBlock=some g->s'.role g=.none/\¬ F' g)) (λx _=>m-(intOf x).toNat)
  case atStart=>
   refine⟨0,s8,F6,([],[]),J,rfl,Z rfl,Z ((bT.keep HS.o Xh.src X8.o Xh.apart (ai.refl _ w8)).conv rfl ?_ (λj=>?_)),HP0,afu⟩
   ·rw[hL8,Yj.left,V.left,yB.o,awy,axk,Nat.add_zero]
   ·split
    ·rename_i hj
     rw[hB8,awf J,HB6.o,HB.o j J,show l+1-j=(l-j)+1 by omega,awy,axk,Nat.add_zero]
    ·rfl
  case round=>
   clear HP0 afu;obtain⟨k,s',F',a,hk,rfl,Ha,HV,HPk,Wx⟩:=hrel;have zj:=HV.mod.size;by_cases aP:k<m
   ·have dL:(k:Int)<(m:Int):=J
    obtain⟨x,hx⟩:∃ x,(co p)[k]?=some x:=⟨_,av6 (by rw[HPl.o];exact aP)⟩
    obtain⟨a9,ajd,e9,hc9⟩:=bh HPk.o;obtain⟨b9,o9,ea9,c9⟩:=hc9 k (.int .i64 x) (by simp[bu,hx]);injection e9 with e91 e92 e93;rw[ea9]at e91;subst e91;obtain⟨c,AH,Ch⟩:=zV Hp3.o k x hx a Ha.o;obtain⟨a',Gn,adN,agj⟩:=zU Hp3.o (k+1) (by rw[HPl.o];omega);rw[Ch]at Gn;injection Gn with Gn;subst Gn;simp only[awn]at adN agj;have ajF:o.1.length=kk.1.length+1:=by rw[Hp4.o];simp
    have alF:o.2.length=kk.2.length:=by rw[Hp4.o]
    have hO':s'.O.length=s.O.length+1+a.1.length:=by rw[HV.O,Xh.O];simp[dG];omega
    have hN':∀ j,(s'.N j).length+c.1.length<=100000:=λj=>by
     have e1:(bL a.1 j).length<=a.1.length:=by unfold bL;rw[awz];exact awh _ _
     have e2:(s8.N j).length<=(s.N j).length+1:=by
      rw[Xh.N,awn];refine Nat.add_le_add_left (av2 (?_:_<=([(l+1,num)]++[]++[]++[]:List (Nat×Int)).length) sp7) _;unfold bL;rw[awz];exact awh _ _
     have:=HN.o j;rw[HV.N,awn];omega
    have hD':s'.D.length=s.D.length+a.2.length:=by rw[HV.D,Xh.D];simp
    obtain⟨K,Hc2⟩:=K2 (HIH.o l rfl (60*i+k) x c wr F' s' HV.src HV.wk HV.apart (by rw[HV.n,Xh.n];exact Hn.o) HV.left (λj hj=>by rw[HV.B,awd hj]) Xm (by rw[HL1.o];have:=Hm.o;omega) (by have:=HO.o;omega) hN' (by have:=HD.o;omega) AH) Ch;clear e92 e93 hc9 hx AH Ch adN agj ajF alF hO' hN' hD' ea9;go_wp2_with fail;refine K.mono ?_;rintro e w9 ⟨rfl,s9,F9,V9⟩;have HV9:=Z V9;clear V9 K c9;go_wp2_with fail
    go_roundw
    case rel=>
     refine⟨k+1,s9,F9,_,J,by go_num,Hc2,Z ((HV.trans HV9.o zj).conv rfl (by rw[awl]) (λj=>?_)),Z (aA HPk.o λg hg=>HV9.mod.block g (aX HPk.o hg) (λh=>h.elim (λh=>h (Wx.o g hg).1) (Wx.o g hg).2)),Z (λg hg=>⟨?_,λhf=>?_⟩)⟩
     ·by_cases hj:j<l
      ·rw[awd hj,awd hj,awl]
      ·rw[awf hj,awf hj,HV.B,awf hj]
     ·apply awZ;intro hr;rcases HV9.grow.new g hr with h|h
      ·exact h (Wx.o g hg).1
      ·have:=aX HPk.o hg;omega
     ·rcases HV9.foot g hf with h|h
      ·exact(Wx.o g hg).2 h
      ·have:=aX HPk.o hg;omega
    case measure=>simp[intOf];omega
   ·obtain rfl:k=m:=J
    have gN:=Qq cJ Xm (by rw[HL1.o,Hm.o]) (by rw[HL1.o];exact ajk);have Jj:=Z gN;have Hat:Hid (kk=a):=Z (by
     have h1:=Ha.o;rw[awQ (Nat.le_of_eq HPl.o),Hp3.o]at h1;injection h1)
    clear gN;go_wp2;go_ret;unfold pG;refine⟨rfl,s',F',(Xh.trans HV.o ai7).conv (by rw[Hp4.o,Hat.o];simp) Jj.1 (λj=>?_)⟩;by_cases hj:j<l
    ·rw[awd hj,awd J];exact Jj.2 j hj
    ·rw[awf hj,hB8];by_cases Ox:j=l
     ·subst Ox;rw[awd rfl,awd J,show j+1-j=1 by omega,HL1.o];have:=Hm.o;have:=Hq.o;omega
     ·rw[awf Ox,awf J,HB6.o]
theorem zW {ty:TypeId}{rv:Value}{f:FuncId}{I:World->(Nat->Prop)->Prop}{rd:Rd}(S:qg ty rv f I rd)(size:Nat)(cJ:size<=16384)(b:Nat)(ch:Bool):∀ l,Bl ty rv f I rd size b ch l
 |0=>xd S size cJ b ch 0 (λ_ h=>J)
 |l+1=>xd S size cJ b ch (l+1) (λl' h=>by
   have:l'=l:=J
   subst this;exact zW S size cJ b ch l')
end
end Go.Proofs.YtkghpdcloaiflaaGreatDoor
