import Derived.Test.YtkghpdcloaiflaaGreatDoorE18
set_option maxHeartbeats 8000000
set_option maxRecDepth 100000
namespace Go.Proofs.YtkghpdcloaiflaaGreatDoor
open _root_.Go.Proofs.Tryz
section
open Go.RowKit Go.Shelf
theorem zW {f:Nat->Int->Except Int ry}:∀ {P:List Int} {i:Nat} {o:ry},cL f i P=.ok o->∀ k,k<=P.length->∃ a,cL f i (P.take k)=.ok a/\a.1.length<=o.1.length/\a.2.length<=o.2.length
 |[],i,o,h,k,hk=>⟨o,by simpa using h,auE _,auE _⟩
 |n::r,i,o,h,k,hk=>by
  unfold cL at h
  cases hf:f i n with
  |error e=>rw[hf]at h;cases h
  |ok a=>
   rw[hf]at h;simp only at h
   cases hr:cL f (i+1) r with
   |error e=>rw[hr]at h;cases h
   |ok b=>
    rw[hr]at h;simp only at h;injection h with h;subst h
    cases k with
    |zero=>exact⟨([],[]),rfl,by simp,by simp⟩
    |succ k=>
     obtain⟨c,hc,h1,h2⟩:=zW hr k (by simpa using hk);refine⟨(a.1++c.1,a.2++c.2),?_,by simp;omega,by simp;omega⟩;rw[avn];unfold cL;rw[hf];simp only;rw[hc]
theorem zX {f:Nat->Int->Except Int ry}:∀ {P:List Int} {i:Nat} {o:ry},cL f i P=.ok o->∀ k n,P[k]?=some n->∀ a,cL f i (P.take k)=.ok a->∃ c,f (i+k) n=.ok c/\cL f i (P.take (k+1))=.ok (a.1++c.1,a.2++c.2)
 |[],i,o,h,k,n,hk,a,ha=>by simp at hk
 |m::r,i,o,h,k,n,hk,a,ha=>by
  unfold cL at h
  cases hf:f i m with
  |error e=>rw[hf]at h;cases h
  |ok x=>
   rw[hf]at h;simp only at h
   cases hr:cL f (i+1) r with
   |error e=>rw[hr]at h;cases h
   |ok b=>
    cases k with
    |zero=>
     simp at hk;subst hk;simp[cL]at ha;subst ha;refine⟨x,hf,?_⟩;rw[avn,avo];unfold cL;rw[hf];simp[cL]
    |succ k=>
     rw[avn]at ha;unfold cL at ha;rw[hf]at ha;simp only at ha
     cases hq:cL f (i+1) (r.take k)with
     |error e=>rw[hq]at ha;cases ha
     |ok y=>
      rw[hq]at ha;simp only at ha;injection ha with ha;subst ha;obtain⟨c,h1,h2⟩:=zX hr k n (by simpa using hk) y hq;refine⟨c,by rw[show i+(k+1)=i+1+k by omega];exact h1,?_⟩;rw[avn];unfold cL;rw[hf];simp only;rw[h2];simp
structure bV (w w':World)(b:Nat)(iv:Value)(ch:Bool)(I:World->(Nat->Prop)->Prop)(F:Nat->Prop)(s:On)(o:ry)(left:Nat)(B:Nat->Nat)(s':On)(F':Nat->Prop):Prop where
 src:I w' F'
 wk:un w' b iv ch s'
 n:s'.n=s.n
 N:∀ l,s'.N l=s.N l++bK o.1 l
 O:s'.O=s.O++dP o.1
 D:s'.D=s.D++o.2
 left:s'.left=left
 B:∀ j,s'.B j=B j
 grow:iQ s.role s'.role w.heap.size
 foot:∀ g,F' g->F g\/w.heap.size<=g
 apart:∀ g,s'.role g≠.none->¬ F' g
 mod:ah (fun g=>s.role g≠.none\/F g) w w'
theorem xj {rd:Rd}{ch:Bool}{size:Nat}:∀(l i:Nat) (n:Int) (o:ry),oc rd ch size l i n=.ok o->o.1.length+1<=2*60 ^ l/\o.2.length<=240*60 ^ l
 |0,i,n,o,h=>by
  unfold oc at h;split at h
  ·cases hr:rd n with
   |error e=>rw[hr]at h;cases h
   |ok s=>
    rw[hr]at h;simp only at h;split at h
    ·cases h
    ·injection h with h;subst h;simp;omega
  ·injection h with h;subst h;simp
 |l+1,i,n,o,h=>by
  unfold oc at h
  cases hr:rd n with
  |error e=>rw[hr]at h;cases h
  |ok s=>
   rw[hr]at h;simp only at h;split at h
   ·cases h
   ·rename_i hl
    cases hk:cL (oc rd ch size l) (60*i) (cr s)with
    |error e=>rw[hk]at h;cases h
    |ok k=>
     rw[hk]at h;simp only at h;injection h with h;subst h;have aV:s.length=4*min ((au size).getD l 0-60*i) 60:=by omega
     have hp:=wW aV;have p0:1<=60 ^ l:=Nat.pow_pos (by decide);obtain⟨B,hB⟩:∃ B,2*60 ^ l=B+1:=⟨2*60 ^ l-1,by omega⟩
     have key:∀(P:List Int) (i:Nat) (k:ry),cL (oc rd ch size l) i P=.ok k->k.1.length<=B*P.length/\k.2.length<=240*60 ^ l*P.length:=by
      intro P
      induction P with
      |nil=>intro i k h;simp[cL]at h;subst h;simp
      |cons m r ih=>
       intro i k h;unfold cL at h
       cases hf:oc rd ch size l i m with
       |error e=>rw[hf]at h;cases h
       |ok a=>
        rw[hf]at h;simp only at h
        cases hr:cL (oc rd ch size l) (i+1) r with
        |error e=>rw[hr]at h;cases h
        |ok b=>
         rw[hr]at h;simp only at h;injection h with h;subst h;have h1:=xj l i m a hf;rw[hB]at h1;have h2:=ih _ _ hr;simp only[auS,auA,Nat.mul_add,Nat.mul_one];omega
     obtain⟨k1,k2⟩:=key _ _ _ hk;have sW:(cr s).length<=60:=by omega
     have a1:=au2 B sW;have a2:=au2 (240*60 ^ l) sW
     constructor
     ·simp only[auA];rw[au3,<-avQ,hB];omega
     ·simp only;rw[au3,<-avQ];omega
section
variable {ty:TypeId}{rv:Value}{f:FuncId}{I:World->(Nat->Prop)->Prop}{rd:Rd}{w w1 w2:World}{b:Nat}{iv:Value}{ch:Bool}{F F1 F2:Nat->Prop}{s s1 s2:On}
theorem bV.trans {o o2:ry}{l1 l2:Nat}{B1 B2:Nat->Nat}(h:bV w w1 b iv ch I F s o l1 B1 s1 F1)(k:bV w1 w2 b iv ch I F1 s1 o2 l2 B2 s2 F2)(hs:w.heap.size<=w1.heap.size):bV w w2 b iv ch I F s (o.1++o2.1,o.2++o2.2) l2 B2 s2 F2 where
 src:=k.src
 wk:=k.wk
 n:=k.n.trans h.n
 N l:=by rw[k.N,h.N,o4,avi]
 O:=by rw[k.O,h.O];simp[dP]
 D:=by rw[k.D,h.D,avi]
 left:=k.left
 B:=k.B
 grow:=h.grow.trans k.grow hs
 foot g hg:=(k.foot g hg).elim (h.foot g) (fun h2=>.inr (by omega))
 apart:=k.apart
 mod:=h.mod.trans k.mod (fun g hg hh=>hh.elim (fun hr=>(h.grow.new g hr).elim .inl (fun h2=>by omega)) (fun hf=>(h.foot g hf).elim .inr (fun h2=>by omega)))
theorem bV.src' (_S:qr ty rv f I rd)(_hI:I w F)(hX:un w b iv ch s)(nT:∀ g,s.role g≠.none->¬ F g)(k:d6 F F1 w w1)(NR:I w1 F1):bV w w1 b iv ch I F s ([],[]) s.left s.B s F1 where
 src:=NR
 wk:=hX.same (k.mod.on nT) k.mod.size
 n:=rfl
 N l:=by simp[bK]
 O:=by simp[dP]
 D:=by simp
 left:=rfl
 B _:=rfl
 grow:=iQ.refl _ _
 foot:=k.foot
 apart g hr hf:=(k.foot g hf).elim (nT g hr) (fun h=>by have:=hX.lt g hr;omega)
 mod:=k.mod.mono fun _ _ h=>.inr h
theorem bV.wk' (S:qr ty rv f I rd)(hI:I w F)(nT:∀ g,s.role g≠.none->¬ F g)(X:un w1 b iv ch s1)(G:iQ s.role s1.role w.heap.size)(m:ah (fun g=>s.role g≠.none) w w1)(o:ry)(hn:s1.n=s.n)(hN:∀ l,s1.N l=s.N l++bK o.1 l)(hO:s1.O=s.O++dP o.1)(hD:s1.D=s.D++o.2):bV w w1 b iv ch I F s o s1.left s1.B s1 F where
 src:=S.same hI (m.on fun g hg hr=>nT g hr hg) m.size
 wk:=X
 n:=hn
 N:=hN
 O:=hO
 D:=hD
 left:=rfl
 B _:=rfl
 grow:=G
 foot _ h:=.inl h
 apart g hr hf:=(G.new g hr).elim (fun h=>nT g h hf) (fun h=>by have:=S.lt hI g hf;omega)
 mod:=m.mono fun _ _ h=>.inl h
theorem bV.keep (S:qr ty rv f I rd)(hI:I w F)(hX:un w b iv ch s)(nT:∀ g,s.role g≠.none->¬ F g)(k:af w w1):bV w w1 b iv ch I F s ([],[]) s.left s.B s F:=
 bV.src' S hI hX nT ⟨k.mono (fun _ _ h=>h.elim),fun _ h=>.inl h⟩ (S.same hI (k.on fun _ _=>id) k.size)
end
end
section
open Go.RowKit Go.Shelf
attribute [local go_sem] auv
section
variable {I:World->(Nat->Prop)->Prop}{w w':World}{b:Nat}{iv:Value}{ch:Bool}{F F':Nat->Prop}{s s':On}
theorem bV.conv {o o':ry}{l l':Nat}{B B':Nat->Nat}(h:bV w w' b iv ch I F s o l B s' F')(ho:o=o')(hl:l=l')(hB:∀ j,B j=B' j):bV w w' b iv ch I F s o' l' B' s' F':=by
 subst ho hl;exact { h with B:=fun j=>(h.B j).trans (hB j) }
end
theorem UK {rd:Rd}{size i:Nat}{num:Int}{o:ry}(h:oc rd true size 0 i num=.ok o):∃ p,rd num=.ok p/\p.length=min (size-240*i) 240/\o=([(0,num)],p):=by
 unfold oc at h;simp only[if_true]at h
 cases hr:rd num with
 |error e=>rw[hr]at h;cases h
 |ok p=>
  rw[hr]at h;simp only at h;split at h
  ·cases h
  ·injection h with h;exact⟨p,rfl,by omega,h.symm⟩
theorem Qb {rd:Rd}{size i:Nat}{num:Int}{o:ry}(h:oc rd false size 0 i num=.ok o):o=([(0,num)],[]):=by
 unfold oc at h;simp at h;exact h.symm
theorem UL {rd:Rd}{ch:Bool}{size l i:Nat}{num:Int}{o:ry}(h:oc rd ch size (l+1) i num=.ok o):∃ p k,rd num=.ok p/\p.length=4*min ((au size).getD l 0-60*i) 60/\cL (oc rd ch size l) (60*i) (cr p)=.ok k/\o=((l+1,num)::k.1,k.2):=by
 unfold oc at h
 cases hr:rd num with
 |error e=>rw[hr]at h;cases h
 |ok p=>
  rw[hr]at h;simp only at h;split at h
  ·cases h
  ·rename_i hl
   cases hk:cL (oc rd ch size l) (60*i) (cr p)with
   |error e=>rw[hk]at h;cases h
   |ok k=>
    rw[hk]at h;simp only at h;injection h with h;exact⟨p,k,rfl,by omega,hk,h.symm⟩
theorem Qc {size l i m:Nat}(hs:size<=16384)(hl:l<(au size).length)(hm:m=min ((au size).getD l 0-60*i) 60)(hi:60*i<(au size).getD l 0):size-240*(60 ^ l*(60*i+m))=size-240*(60 ^ (l+1)*(i+1))/\∀ j,j<l->(au size).getD j 0-60 ^ (l-j)*(60*i+m)=(au size).getD j 0-60 ^ (l+1-j)*(i+1):=by
 obtain⟨c1,c2⟩:=o6 size l hs hl;generalize (au size).getD l 0=n at*;have e:60 ^ (l+1)*(i+1)=60 ^ l*(60*(i+1)):=by rw[au3,avQ]
 rcases(by omega:m=60\/(60*i+m=n/\n<=60*(i+1)))with h|⟨h,h2⟩
 ·subst h;have e2:60*i+60=60*(i+1):=by omega
  refine⟨by rw[e,e2],fun j hj=>?_⟩;rw[e2,show l+1-j=(l-j)+1 by omega,au3,avQ]
 ·rw[h];refine⟨?_,fun j hj=>?_⟩
  ·have a1:size<=240*(60 ^ l*n):=by rw[<-avQ];exact c1
   have a2:60 ^ l*n<=60 ^ l*(60*(i+1)):=au2 _ h2;rw[e];omega
  ·have a1:=c2 j hj;have a2:60 ^ (l-j)*n<=60 ^ (l-j)*(60*(i+1)):=au2 _ h2;rw[show l+1-j=(l-j)+1 by omega,au3,avQ];omega
def pV (w:World)(b:Nat)(iv:Value)(ch:Bool)(I:World->(Nat->Prop)->Prop)(F:Nat->Prop)(s:On)(o:ry)(size l i:Nat)(e:Ending)(w':World):Prop:=
 e=.returned (.int .i64 0)/\∃ s' F',bV w w' b iv ch I F s o (size-240*(60 ^ l*(i+1))) (fun j=>if j<l then(au size).getD j 0-60 ^ (l-j)*(i+1)else s.B j) s' F'
def Bi (ty:TypeId)(rv:Value)(_f:FuncId)(I:World->(Nat->Prop)->Prop)(rd:Rd)(size b:Nat)(ch:Bool)(l:Nat):Prop:=
 ∀(i:Nat) (num:Int) (o:ry) (w:World) (F:Nat->Prop) (s:On),I w F->un w b (.iface ty rv) ch s->(∀ g,s.role g≠.none->¬ F g)->s.n=(au size).length->s.left=size-240*(60 ^ l*i)->(∀ j,j<l->s.B j=(au size).getD j 0-60 ^ (l-j)*i)->
  l<(au size).length->i<(au size).getD l 0->s.O.length+o.1.length<=100000->(∀ k,(s.N k).length+o.1.length<=100000)->s.D.length+o.2.length<=900000->oc rd ch size l i num=.ok o->
  Calls prog 276 #[.pointer (some ⟨b,0,none⟩),.int .i64 num,.int .i64 (l:Int)] w (pV w b (.iface ty rv) ch I F s o size l i)
theorem yK (N:Nat->List Int)(l:Nat)(x:Int)(k:Nat):(if k=l then N l++[x]else N k)=N k++bK [(l,x)] k:=by
 by_cases h:k=l
 ·subst h;simp[bK]
 ·have:¬ l=k:=fun e=>h e.symm;simp[bK,h,this]
theorem xk {ty:TypeId}{rv:Value}{f:FuncId}{I:World->(Nat->Prop)->Prop}{rd:Rd}(S:qr ty rv f I rd)(size:Nat)(cK:size<=16384)(b:Nat)(ch:Bool)(l:Nat)(IH:∀ l',l=l'+1->Bi ty rv f I rd size b ch l'):Bi ty rv f I rd size b ch l:=by
 intro i num o w F s hI hX nT hn lY hB hl hi hO hN hD lH;have HS:=hd0 S;have HIH:=hd0 IH;have Ys:=S.meth;have cY:=S.call;obtain⟨v,hv⟩:∃ v,s.rows[l]?=some v:=⟨_,auB (by rw[hX.rlen,hn];exact hl)⟩
 have Tf:1<=o.1.length:=by
  cases l with
  |zero=>
   unfold oc at lH;split at lH
   ·cases hr:rd num with
    |error e=>rw[hr]at lH;cases lH
    |ok s=>rw[hr]at lH;simp only at lH;split at lH;· cases lH
           ·injection lH with h;subst h;simp
   ·injection lH with h;subst h;simp
  |succ l=>
   unfold oc at lH
   cases hr:rd num with
   |error e=>rw[hr]at lH;cases lH
   |ok s=>rw[hr]at lH;simp only at lH;split at lH;· cases lH
          ·cases hk:cL (oc rd ch size l) (60*i) (cr s)with
           |error e=>rw[hk]at lH;cases lH
           |ok k=>rw[hk]at lH;simp only at lH;injection lH with h;subst h;simp
 obtain⟨v1,w1,r1,yl,m1,at1,g1,yu,rfl⟩:=hZ (P:=prog) underlying46 iX rfl (by decide) 0 s.ov _ _ w hX.order [.int .i64 num] rfl (by simp[Value.oneCell']) (by unfold maxLen;show s.O.length+1<=_;omega) (by show(s.O.length+1)*8<=_;omega) (avk _);obtain⟨X2,G2,M2⟩:=hX.ordered num _ (kv yl) m1 at1;have hb1:=ab m1 hX.own (fun e=>by have:=hX.rorder b e;rw[hX.rb]at this;cases this);have c3:w.cell? ⟨b,3,none⟩=some s.ov:=aa hX.own 3;have c31:w1.cell? ⟨b,3,none⟩=some s.ov:=aa hb1 3;have f31:w1.frozen? ⟨b,3,none⟩=false:=ae hb1 _ rfl;have RL:b<w.heap.size:=ai hX.own;obtain⟨W2,hW2⟩:∃ W2,w1.setCell ⟨b,3,none⟩ (.slice (some ⟨g1,0,none⟩) (s.O.length+1) yu)=W2:=⟨_,rfl⟩
 rw[hW2]at X2 M2;have d2:W2.cell? ⟨b,2,none⟩=some (.slice (some ⟨s.nb,0,none⟩) s.n s.n):=aa X2.own 2;have dn:W2.cell? ⟨s.nb,l,none⟩=some v:=by rw[aa X2.nums l];simpa using hv
 have E9:(l:Int)<(s.n:Int):=by omega
 have Kt:(l:Int)<=3:=by have:=rZ size;omega
 have lE:=hd0 X2;have SC:=hd0 G2;have oF:=hd0 M2;have Wn:=hd0 r1;have HX:=hd0 hX;have HI:=hd0 hI;have Hap:=hd0 nT;have HW2:=hd0 hW2;have Hv:=hd0 hv;have HO:=hd0 hO;have HN:=hd0 hN;have HD:=hd0 hD;have HB:=hd0 hB;have Hl:=hd0 hl;have Hi:=hd0 hi;have Hn:=hd0 hn;have sS:=hd0 lY;have Hno:=hd0 lH;clear X2 G2 M2 r1 hX hI nT yl m1 at1 hb1 hv hO hN hD hB hl hi hn lY lH;go_enter func276,ntmps276;go_wp2_with (at_builtin;refine aB Wn.out rfl rfl rfl rfl ?_);clear c3 c31 f31 Wn HW2 hW2;refine kS 12 12 14 (fun w'=>∃ m,w'=W2.drewN m) (fun w'=>w'.cell? ⟨b,2,none⟩=some (.slice (some ⟨s.nb,0,none⟩) s.n s.n)) (fun w'=>w'.cell? ⟨s.nb,l,none⟩=some v) (by kernel_rfl) (by kernel_rfl) (by decide) (fun _ o _ _ _ h=>by cases o<;>exact h) ⟨1,rfl⟩ (by rintro _ ⟨m,rfl⟩;exact⟨d2,dn⟩) ?_;simp only[avn,avo,avq,avr]
 iterate 11 (refine oT (fun L hL=>?_);go_simp;(first|refine hL _ ?_|refine⟨_,fun _ _=>rfl,hL _ ?_⟩|refine⟨_,fun W hW=>by simp only[hW];rfl,hL _ ?_⟩);clear hL L)
 refine AY (by kernel_rfl) (fun L hL=>?_)
 go_simp
 refine⟨_,fun W _ hW=>by simp only[hW];rfl,hL _ ?_⟩;clear hL L;refine qL (avt ?_);intro _ cf;obtain⟨nq,rfl⟩:=cf;have mq:af W2 (W2.drewN nq):=(ah.refl _ W2).drewN nq;have X3:=lE.out.same (mq.on fun _ _=>id) mq.size;obtain⟨W3,Yx⟩:∃ W3,W2.drewN nq=W3:=⟨_,rfl⟩
 rw[Yx]at X3 mq;have OL:s.rows[l]?=some v:=Hv.out;obtain⟨v4,w4,r4,adV,m4,at4,g4,akF,rfl⟩:=hZ (P:=prog) underlying46 iX rfl (by decide) 0 v _ _ W3 (X3.row l v OL) [.int .i64 num] rfl (by simp[Value.oneCell']) (by have:=HN.out l;unfold maxLen;show(s.N l).length+1<=_;omega) (by have:=HN.out l;show((s.N l).length+1)*8<=_;omega) (avk _);obtain⟨X5,G5,M5⟩:=X3.rowed l v OL num _ (kv adV) m4 at4;have aaI:=ab m4 X3.nums (fun e=>by have:=X3.rrow l v _ OL e;rw[X3.rnb]at this;cases this);have c4:w4.cell? ⟨s.nb,l,none⟩=some v:=by have:=aa aaI l;rw[this];simpa using Hv.out
 have f4:w4.frozen? ⟨s.nb,l,none⟩=false:=ae aaI _ rfl;have HR4:=hd0 r4;have V5:=bV.wk' HS.out HI.out Hap.out X5 (SC.out.trans G5 (aux oF.out.size mq.size)) ((oF.out.trans (mq.mono (T:=fun g=>s.role g≠.none) (fun _ _ h=>h.elim)) (fun _ _ h=>h)).trans M5 (fun g hg hr=>(SC.out.new g hr).elim id (fun h=>by omega))) ([(l,num)],[]) rfl (yK s.N l num) rfl (by simp);have V:=hd0 V5;obtain⟨W5,Cc⟩:∃ W5,w4.setCell ⟨s.nb,l,none⟩ (.slice (some ⟨g4,0,none⟩) ((s.N l).length+1) akF)=W5:=⟨_,rfl⟩
 rw[Cc]at V;have ng:=hd0 Cc;have t2:W3.cell? ⟨b,2,none⟩=some (.slice (some ⟨s.nb,0,none⟩) s.n s.n):=by rw[<-Yx];exact d2
 have tn:W3.cell? ⟨s.nb,l,none⟩=some v:=by rw[<-Yx];exact dn
 have t2b:w4.cell? ⟨b,2,none⟩=some (.slice (some ⟨s.nb,0,none⟩) s.n s.n):=by
  have:=aa (ab m4 X3.own (fun e=>by have:=X3.rrow l v _ OL e;rw[X3.rb]at this;cases this)) 2;exact this
 have t2c:W5.cell? ⟨b,2,none⟩=some (.slice (some ⟨s.nb,0,none⟩) s.n s.n):=by rw[<-Cc];exact aa V5.wk.own 2
 rw[Yx];have ta:∀ o,(W3.alloc o).cell? ⟨b,2,none⟩=some (.slice (some ⟨s.nb,0,none⟩) s.n s.n):=fun o=>(((ah.refl (fun _=>False) W3).alloc o).cell (p:=⟨b,2,none⟩) (ak t2) id).trans t2;have tb:∀ o,(W3.alloc o).cell? ⟨s.nb,l,none⟩=some v:=fun o=>(((ah.refl (fun _=>False) W3).alloc o).cell (p:=⟨s.nb,l,none⟩) (ak tn) id).trans tn;refine⟨⟨t2,.inr tn⟩,?_⟩;go_wp2_with fail;refine⟨⟨t2,.inr tn⟩,?_⟩;go_wp2_with fail;refine⟨⟨ta _,.inr (tb _)⟩,?_⟩;go_wp2_with (at_builtin;refine aB HR4.out rfl rfl rfl rfl ?_);refine⟨⟨t2b,.inl (by decide)⟩,?_⟩;go_wp2_with fail;refine⟨⟨t2b,.inl (by decide)⟩,?_⟩;go_wp2_with fail;refine⟨⟨t2c,.inl (by decide)⟩,?_⟩;clear ta tb t2 tn t2b t2c;clear V5 X5 G5 M5 adV m4 at4 aaI r4 OL X3 mq Yx d2 dn lE SC oF ng Cc c4 f4;obtain⟨s5,V⟩:∃ s5,Hid (bV w W5 b (.iface ty rv) ch I F s ([(l,num)],[]) s.left s.B s5 F):=⟨_,V⟩
 have X5:=hd0 V.out.wk;have FZ:=V.out.mod.size;rcases l with _|l
 ·obtain⟨L0,TA⟩:∃ L0,s5.left=L0:=⟨_,rfl⟩
  have HL0:Hid (L0=size-240*i):=hd0 (by rw[<-TA,V.out.left,sS.out];simp);have ard:240*i<size:=by
   have h:=Hi.out;rw[nE]at h;apply avv;intro hc;have:=(aJ (n:=size) (each:=240) (k:=i) (by decide)).2 (by omega);omega
  have ao5:(L0:Int)<=16384:=by have:=HL0.out;omega
  obtain⟨m,hm⟩:∃ m,min L0 240=m:=⟨_,rfl⟩
  have hmi:min (L0:Int) 240=(m:Int):=by omega
  have ze:(m:Int)<=240:=by omega
  have c6:W5.cell? ⟨b,6,none⟩=some (.int .i64 (L0:Int)):=by rw[<-TA];exact aa X5.out.own 6
  have f6:=ae X5.out.own ⟨b,6,none⟩ rfl;obtain⟨X6,M6⟩:=X5.out.lefted (L0-m);have e6:((L0-m:Nat):Int)=(L0:Int)-(m:Int):=by omega
  rw[e6]at X6 M6;obtain⟨W6,TP⟩:∃ W6,W5.setCell ⟨b,6,none⟩ (.int .i64 ((L0:Int)-(m:Int)))=W6:=⟨_,rfl⟩
  rw[TP]at X6 M6;have V6:=V.out.trans (bV.wk' HS.out V.out.src V.out.apart X6 (iQ.refl _ _) M6 ([],[]) rfl (fun l=>by simp[bK]) (by simp[dP]) (by simp)) FZ;have c0:W6.cell? ⟨b,0,none⟩=some (.iface ty rv):=aa X6.own 0;have c1:W6.cell? ⟨b,1,none⟩=some (.bool ch):=aa X6.own 1;have hB5:∀ j,s5.B j=s.B j:=V.out.B;have lG:Hid (L0-m=size-240*(60 ^ 0*(i+1))):=hd0 (by have:=HL0.out;omega);have F0:=hd0 hB5;have Xc:=hd0 V6;have Hm:=hd0 hm;have HX6:=hd0 X6;clear V V6 X6 M6 TA hm hB5 X5
  cases ch with
  |false=>
   have Ho:=hd0 (Qb Hno.out);go_wp2;go_ret;unfold pV;exact⟨rfl,_,_,Xc.out.conv (by rw[Ho.out];simp) lG.out (fun j=>by rw[auK (by omega)];exact F0.out j)⟩
  |true=>
   obtain⟨p,Ce,BP,hp3⟩:=UK Hno.out;have R:=hd0 (HS.out.read Xc.out.src Ce);have hpm:(p.length:Int)=(m:Int):=by have:=HL0.out;have:=Hm.out;omega
   have Hp3:=hd0 hp3;have Hp2:=hd0 BP;clear Ce BP hp3;go_wp2_with fail;refine R.out.mono ?_;rintro e w7 ⟨rfl,F7,KA,rC⟩;have V7:=Xc.out.trans (bV.src' HS.out Xc.out.src HX6.out Xc.out.apart rC KA) Xc.out.mod.size;obtain⟨s7,V7⟩:∃ s7,bV w w7 b (.iface ty rv) true I F s (([(0,num)]++[]++[],[]++[]++[]):ry) (L0-m) s5.B s7 F7:=⟨_,V7⟩
   have yv:=hd0 V7;have X7:=hd0 V7.wk;have hs7:=V7.mod.size;have hD7:s7.D=s.D:=by rw[V7.D];simp
   have XU:s7.pv=.pointer none\/s7.pv=.pointer (some ⟨b,4,none⟩):=X7.out.data.imp (·.1) (·.1);have nR:bR w7 0 s7.dv s7.D:=by
    rcases X7.out.data with⟨_,h2,h3⟩|⟨_,_,h3⟩
    ·rw[h2,h3];exact⟨rfl,.inl ⟨rfl,rfl⟩⟩
    ·exact h3
   have hdn:s7.dv.ownBlock≠some b:=fun e=>by have:=X7.out.rdata b e;rw[X7.out.rb]at this;cases this
   have C:=hd0 (P4 b w7 s7.D p X7.out.own XU nR hdn (by rw[hD7];have:=HD.out;rw[Hp3.out]at this;simp only at this;omega));have Jh:p≠[]:=fun e=>by
    have h1:=Hp2.out;rw[e]at h1;simp at h1;omega
   clear R KA rC V7 c6 f6 TP c0 c1 XU nR hdn hD7;go_wp2_with fail;refine C.out.mono ?_;rintro e w8 ⟨rfl,FV,Wg,ZG,m8,at8⟩;obtain⟨X8,G8,M8⟩:=X7.out.dated p Jh FV Wg ZG m8 at8;have V8:=yv.out.trans (bV.wk' HS.out yv.out.src yv.out.apart X8 G8 M8 ([],p) rfl (fun l=>by simp[bK]) (by simp[dP]) rfl) hs7;have Wp:=hd0 V8;clear X8 G8 M8 V8 Wg ZG m8 at8 C;go_wp2;go_ret;unfold pV;exact⟨rfl,_,_,Wp.out.conv (by rw[Hp3.out];simp) (by rw[<-lG.out];exact yv.out.left) (fun j=>by rw[auK (by omega)];exact(yv.out.B j).trans (F0.out j))⟩
 ·obtain⟨p,kk,Ce,BP,hp3,OI⟩:=UL Hno.out;have Wv:l<(au size).length:=by have:=Hl.out;omega
  obtain⟨L1,yT⟩:∃ L1,(au size).getD l 0=L1:=⟨_,rfl⟩
  have akN:60*i<L1:=by
   have h:=Hi.out;have hu:=mH size cK l (by have:=Hl.out;omega);rw[hu,yT]at h;apply avv;intro hc;have:=(aJ (n:=L1) (each:=60) (k:=i) (by decide)).2 (by omega);omega
  have ar7:L1<=69:=by
   have:=ph cK L1 (by rw[<-yT,avS,auB Wv];exact ava _);exact this.2
  rw[yT]at BP;obtain⟨m,hm⟩:∃ m,min (L1-60*i) 60=m:=⟨_,rfl⟩
  rw[hm]at BP;have c0:W5.cell? ⟨b,0,none⟩=some (.iface ty rv):=aa X5.out.own 0;have R:=hd0 (HS.out.read V.out.src Ce);have Hp4:=hd0 OI;have Hp3:=hd0 hp3;have Hp2:=hd0 BP;have Hm:=hd0 hm;have HL1:=hd0 yT;have tX:((l+1:Nat):Int)=(l:Int)+1:=by omega
  rw[tX];have lA:(l:Int)<=2:=by omega
  have hlz:(((l:Int)+1)==0)=false:=by simp;omega
  clear Ce BP hp3 OI hm yT;go_wp2_with fail;refine R.out.mono ?_;rintro e w6 ⟨rfl,F6,hI6,rD⟩;have V6:=V.out.trans (bV.src' HS.out V.out.src X5.out V.out.apart rD hI6) FZ;obtain⟨s6,V6⟩:∃ s6,bV w w6 b (.iface ty rv) ch I F s (([(l+1,num)]++[],[]++[]):ry) s5.left s5.B s6 F6:=⟨_,V6⟩
  have Xc:=hd0 V6;have X6:=hd0 V6.wk;have Jn:=V6.mod.size;have hn6:s6.n=(au size).length:=V6.n.trans Hn.out;have hB6:∀ j,s6.B j=s.B j:=fun j=>(V6.B j).trans (V.out.B j);obtain⟨a6,rt,e6,hx6⟩:=bd X6.out.below;have XS:(bo (gy ((List.range s6.n).map s6.B))).length=s6.n:=by simp[bo,gy]
  rw[XS]at e6;have Yy:s6.B l=L1-60*i:=by
   have h:=HB.out l (by omega);rw[hB6,h,HL1.out,show l+1-l=1 by omega]
  obtain⟨gb,ob,ea6,cb⟩:=hx6 l (.int .i64 ((L1-60*i:Nat):Int)) (by
   unfold bo gy;rw[avB,avB,avB,avC (by omega)];simp[Yy])
  have hgb:ob=0/\s6.bv.ownBlock=some gb/\w6.frozen? ⟨gb,l,none⟩=false:=by
   rcases X6.out.below.2 with⟨e,_⟩|⟨g',cap,dz,e,_,R6,_⟩
   ·rw[e6,ea6]at e;injection e with e;cases e
   ·rw[e6,ea6]at e;injection e with e1 e2 e3;injection e1 with e1;injection e1 with e1 e4;subst e1;exact⟨e4,by rw[e6,ea6];rfl,ae R6 _ rfl⟩
  obtain⟨rfl,I0,fb⟩:=hgb;rw[avm]at cb;rw[ea6]at e6;have c7:w6.cell? ⟨b,7,none⟩=some (.slice (some ⟨gb,0,none⟩) s6.n rt):=by rw[<-e6];exact aa X6.out.own 7
  obtain⟨q,hq⟩:∃ q,L1-60*i=q:=⟨_,rfl⟩
  rw[hq]at cb Yy;have hmq:min (q:Int) 60=(m:Int):=by have:=Hm.out;omega
  have Ow:(q:Int)<=69:=by omega
  have ze:(m:Int)<=(q:Int):=by omega
  have jJ:(p.length:Int)=4*(m:Int):=by have:=Hp2.out;omega
  have hln:(l:Int)<(s6.n:Int):=by rw[hn6];omega
  obtain⟨X7,M7⟩:=X6.out.belowed l (q-m) gb (by rw[hn6];exact Wv) I0;have eqm:((q-m:Nat):Int)=(q:Int)-(m:Int):=by omega
  rw[eqm]at X7 M7;obtain⟨W7,Wy⟩:∃ W7,w6.setCell ⟨gb,l,none⟩ (.int .i64 ((q:Int)-(m:Int)))=W7:=⟨_,rfl⟩
  rw[Wy]at X7 M7;have V7:=V6.trans (bV.wk' HS.out V6.src V6.apart X7 (iQ.refl _ _) M7 ([],[]) rfl (fun l=>by simp[bK]) (by simp[dP]) (by simp)) Jn;have PT:=hd0 (Be p m W7 Hp2.out (by omega));have HX7:=hd0 X7;have yv:=hd0 V7;have hs7:=V7.mod.size;have Hq:=hd0 hq;have HBl:=hd0 Yy;have FM:=hd0 hB6;have Hn6:=hd0 hn6;have hw6:w6.heap.size=W7.heap.size:=by rw[<-Wy];simp[World.setCell]
  have Hw6:=hd0 hw6;clear R hI6 rD V6 X7 M7 V7 hx6 XS e6 ea6 c0 hq Yy hB6 hn6 hw6;go_wp2_with fail;refine PT.out.mono ?_;rintro e w8 ⟨v8,rfl,ZG,lI⟩;have V8:=yv.out.trans (bV.keep HS.out yv.out.src HX7.out yv.out.apart lI) hs7;obtain⟨s8,V2⟩:∃ s8:On,s8={ s6 with B:=fun i=>if i=l then q-m else s6.B i }:=⟨_,rfl⟩
  rw[<-V2]at V8;have hB8:∀ j,s8.B j=if j=l then q-m else s6.B j:=fun j=>by rw[V2]
  have hL8:s8.left=s6.left:=by rw[V2]
  have Wp:=hd0 V8;have X8:=hd0 V8.wk;have aia:=V8.mod.size;have hPl:(cr p).length=m:=wW Hp2.out;have aeA:∀ g,v8.ownBlock=some g->s8.role g=.none/\¬ F6 g:=fun g hg=>by
   have hge:W7.heap.size<=g:=by
    rcases ZG.2 with⟨e,_⟩|⟨g',cap,dz,e,hb,_⟩
    ·rw[e]at hg;cases hg
    ·rw[e]at hg;have:g'=g:=by simpa[Value.ownBlock]using hg
     omega
   refine⟨?_,fun hf=>by have:=HS.out.lt yv.out.src g hf;omega⟩;apply avv;intro hr;have:=HX7.out.lt g (by rw[V2]at hr;exact hr);omega
  have HP0:Hid (aN w8 0 v8 (cr p)):=hd0 (eX ZG (avk _));have afx:=hd0 aeA;have HPl:=hd0 hPl;obtain⟨a8,rq,e8,_⟩:=bd ZG;have e8':v8=.slice a8 m rq:=by rw[e8];simp[hPl]
  have He8:=hd0 e8';clear V8 ZG lI aeA hPl PT cb fb c7 Wy e8 V2;subst e8';go_wp2_with fail
  go_loopw [123] (fun x wr=>∃(k:Nat) (s':On) (F':Nat->Prop) (a:ry),k<=m/\x=.int .i64 (k:Int)/\Hid (cL (oc rd ch size l) (60*i) ((cr p).take k)=.ok a)/\Hid (bV w8 wr b (.iface ty rv) ch I F6 s8 a (size-240*(60 ^ l*(60*i+k))) (fun j=>if j<l then(au size).getD j 0-60 ^ (l-j)*(60*i+k)else s8.B j) s' F')/\Hid (aN wr 0 (.slice a8 m rq) (cr p))/\Hid (∀ g,(Value.slice a8 m rq).ownBlock=some g->s'.role g=.none/\¬ F' g)) (fun x _=>m-(intOf x).toNat)
  case atStart=>
   refine⟨0,s8,F6,([],[]),by omega,rfl,hd0 rfl,hd0 ((bV.keep HS.out Wp.out.src X8.out Wp.out.apart (ah.refl _ w8)).conv rfl ?_ (fun j=>?_)),HP0,afx⟩
   ·rw[hL8,Xc.out.left,V.out.left,sS.out,au3,avQ,Nat.add_zero]
   ·split
    ·rename_i hj
     rw[hB8,auK (by omega),FM.out,HB.out j (by omega),show l+1-j=(l-j)+1 by omega,au3,avQ,Nat.add_zero]
    ·rfl
  case round=>
   clear HP0 afx;obtain⟨k,s',F',a,hk,rfl,Ha,HV,HPk,VK⟩:=hrel;have zn:=HV.out.mod.size;by_cases aL:k<m
   ·have dN:(k:Int)<(m:Int):=by omega
    obtain⟨x,hx⟩:∃ x,(cr p)[k]?=some x:=⟨_,auB (by rw[HPl.out];exact aL)⟩
    obtain⟨a9,ahW,e9,hc9⟩:=bd HPk.out;obtain⟨b9,o9,ea9,c9⟩:=hc9 k (.int .i64 x) (by simp[bo,hx]);injection e9 with e91 e92 e93;rw[ea9]at e91;subst e91;obtain⟨c,AB,BM⟩:=zX Hp3.out k x hx a Ha.out;obtain⟨a',FS,aeE,ad1⟩:=zW Hp3.out (k+1) (by rw[HPl.out];omega);rw[BM]at FS;injection FS with FS;subst FS;simp only[auS]at aeE ad1;have air:o.1.length=kk.1.length+1:=by rw[Hp4.out];simp
    have ahN:o.2.length=kk.2.length:=by rw[Hp4.out]
    have hO':s'.O.length=s.O.length+1+a.1.length:=by rw[HV.out.O,Wp.out.O];simp[dP];omega
    have hN':∀ j,(s'.N j).length+c.1.length<=100000:=fun j=>by
     have e1:(bK a.1 j).length<=a.1.length:=by unfold bK;rw[au4];exact auM _ _
     have e2:(s8.N j).length<=(s.N j).length+1:=by
      rw[Wp.out.N,auS];refine Nat.add_le_add_left (aux (?_:_<=([(l+1,num)]++[]++[]++[]:List (Nat×Int)).length) (by simp)) _;unfold bK;rw[au4];exact auM _ _
     have:=HN.out j;rw[HV.out.N,auS];omega
    have hD':s'.D.length=s.D.length+a.2.length:=by rw[HV.out.D,Wp.out.D];simp
    have K:=hd0 (HIH.out l rfl (60*i+k) x c wr F' s' HV.out.src HV.out.wk HV.out.apart (by rw[HV.out.n,Wp.out.n];exact Hn.out) HV.out.left (fun j hj=>by rw[HV.out.B,auI hj]) Wv (by rw[HL1.out];have:=Hm.out;omega) (by have:=HO.out;omega) hN' (by have:=HD.out;omega) AB);have Hc2:=hd0 BM;clear e92 e93 hc9 hx AB BM aeE ad1 air ahN hO' hN' hD' ea9;go_wp2_with fail;refine K.out.mono ?_;rintro e w9 ⟨rfl,s9,F9,V9⟩;have HV9:=hd0 V9;clear V9 K c9;go_wp2_with fail
    go_roundw
    case rel=>
     refine⟨k+1,s9,F9,_,by omega,by go_num,Hc2,hd0 ((HV.out.trans HV9.out zn).conv rfl (by rw[auQ]) (fun j=>?_)),hd0 (aA HPk.out fun g hg=>HV9.out.mod.block g (aT HPk.out hg) (fun h=>h.elim (fun h=>h (VK.out g hg).1) (VK.out g hg).2)),hd0 (fun g hg=>⟨?_,fun hf=>?_⟩)⟩
     ·by_cases hj:j<l
      ·rw[auI hj,auI hj,auQ]
      ·rw[auK hj,auK hj,HV.out.B,auK hj]
     ·apply avv;intro hr;rcases HV9.out.grow.new g hr with h|h
      ·exact h (VK.out g hg).1
      ·have:=aT HPk.out hg;omega
     ·rcases HV9.out.foot g hf with h|h
      ·exact(VK.out g hg).2 h
      ·have:=aT HPk.out hg;omega
    case measure=>simp[intOf];omega
   ·obtain rfl:k=m:=by omega
    have lG:=Qc cK Wv (by rw[HL1.out,Hm.out]) (by rw[HL1.out];exact akN);have Jt:=hd0 lG;have Hat:Hid (kk=a):=hd0 (by
     have h1:=Ha.out;rw[avl (Nat.le_of_eq HPl.out),Hp3.out]at h1;injection h1)
    clear lG;go_wp2;go_ret;unfold pV;refine⟨rfl,s',F',(Wp.out.trans HV.out aia).conv (by rw[Hp4.out,Hat.out];simp) Jt.out.1 (fun j=>?_)⟩;by_cases hj:j<l
    ·rw[auI hj,auI (by omega)];exact Jt.out.2 j hj
    ·rw[auK hj,hB8];by_cases CD:j=l
     ·subst CD;rw[auI rfl,auI (by omega),show j+1-j=1 by omega,HL1.out];have:=Hm.out;have:=Hq.out;omega
     ·rw[auK CD,auK (by omega),FM.out]
theorem zY {ty:TypeId}{rv:Value}{f:FuncId}{I:World->(Nat->Prop)->Prop}{rd:Rd}(S:qr ty rv f I rd)(size:Nat)(cK:size<=16384)(b:Nat)(ch:Bool):∀ l,Bi ty rv f I rd size b ch l
 |0=>xk S size cK b ch 0 (fun _ h=>by omega)
 |l+1=>xk S size cK b ch (l+1) (fun l' h=>by
   have:l'=l:=by omega
   subst this;exact zY S size cK b ch l')
end
end Go.Proofs.YtkghpdcloaiflaaGreatDoor
