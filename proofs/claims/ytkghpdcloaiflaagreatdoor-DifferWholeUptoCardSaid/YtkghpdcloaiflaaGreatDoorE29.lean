import Derived.Test.YtkghpdcloaiflaaGreatDoorE28
set_option maxHeartbeats 2000000
namespace Go.Proofs.YtkghpdcloaiflaaGreatDoor
open _root_.Go.Proofs.Tryz
theorem mO {l:List az}{i j:Nat}{s:az}(hi:i<l.length):(l.set i s).getD j []=if j=i then s else l.getD j []:=by
 rw[List.getD,List.getElem?_set];by_cases h:i=j
 ·subst h;simp[hi]
 ·rw[auK h,auK (Ne.symm h)];rfl
theorem uw {v:Vs}{list:List Sn}{more:az}(h:mM v)(hm:dX v list more):∃ u,Bt v list more u:=by
 obtain⟨A,B,Ss,tZ,yi,ko,hA,hB,FD,hSs,Yg,Jh,Wu,RC,Yf⟩:=h.here;obtain⟨S,OQ⟩:∃ S:Nat->Prop,∀ n,S n↔A n\/B n:=⟨fun n=>A n\/B n,fun _=>Iff.rfl⟩
 simp only[<-OQ]at Jh Wu;have l5:=h.room;have zf:=h.many;obtain⟨p,sZ⟩:∃ p,gB (cV v.b.planes) v.blocks v.b.next=p:=⟨_,rfl⟩
 have hp:cH p:=sZ▸sy h.next.1 h.next.2 zf.2;have hpu:p.used=cV v.b.planes:=by rw[<-sZ];rfl
 have OB:p.taken=[]:=by rw[<-sZ];rfl
 have mW:p.blocks=v.blocks:=by rw[<-sZ];rfl
 have jJ:p.left=dp v:=by rw[<-sZ];rfl
 have hU:∀ q n,q<8->am (v.b.planes.getD q []) n=true->am p.used n=true/\n<p.blocks:=by
  intro q n hq hn;rw[hpu,mW];exact⟨(pr h.eight n).2 ⟨q,hq,hn⟩,((h.planes q hq).2 n hn).2⟩
 have ZZ:∀ n,S n->am p.used n=true/\n<p.blocks:=fun n hn=>hU 0 n (by decide) ((Jh n).2 (.inl hn));have hUA:∀ n,A n->am p.used n=true/\n<p.blocks:=fun n hn=>ZZ n ((OQ n).2 (.inl hn));have hUB:∀ n,B n->am p.used n=true/\n<p.blocks:=fun n hn=>ZZ n ((OQ n).2 (.inr hn));have zh:∀ n,Ss n->am p.used n=true/\n<p.blocks:=fun n hn=>hU 0 n (by decide) ((Jh n).2 (.inr (.inl hn)));have hUo:∀ n,am tZ n=true->am p.used n=true/\n<p.blocks:=fun n hn=>hU 0 n (by decide) ((Jh n).2 (.inr (.inr hn)));obtain⟨tb,Jv⟩:∃ tb,(if ar v.T=v.b.nodes then 0 else aS (2+12*(ar v.T).length))=tb:=⟨_,rfl⟩
 obtain⟨c1,AB⟩:∃ c1,((ar v.T).map fun x=>dc (cI v.b.nodes x.num) x.data).sum=c1:=⟨_,rfl⟩
 have uG:bM v+1+c1+tb<=p.left:=by
  rw[jJ];unfold bH at l5;rw[AB,Jv]at l5;exact l5
 obtain⟨inos,set,t1,S1,e1,l1,g1,p1,q1,ls1,sQ,k1⟩:=xC v.b.inodes (cI v.b.nodes) p A hUA (ar v.T) [] ⟨v.rd,p⟩ hp rfl (fun _ h=>h)
  (fun x hx=>by
   obtain⟨bh,C,h1,h2,h3⟩:=hA.find x.num;exact⟨h.told.data x hx,C,by rw[<-h3];exact h1,h2⟩) (by rw[AB];show c1<=p.left;omega) (by simp[ga])
 rw[AB]at g1;have Kq:aR t1.rd (yi) v.b.table B:=hB.turn fun n hn=>g1.keepRd (hUB n hn).1;have aV:=Ep l1 h.told.toNodesOk;have BM:dc (yi) (j9 inos)<=tb:=by
  by_cases he:ar v.T=v.b.nodes
  ·have:=(k1 fun x hx=>by rw[he]at hx;exact pp h.nodes.nums x hx).1;rw[this,FD he,he,tG hA h.nodes.nums,kZ _ (by rw[<-FD he];exact hB.1)];exact avk _
  ·rw[auK he]at Jv;rw[<-Jv];exact aux (gE _ _) (wK aV.1 (by have:=h.told.many;omega))
 obtain⟨c2,I9⟩:∃ c2,dc (yi) (j9 inos)=c2:=⟨_,rfl⟩
 rw[I9]at BM;have ZW:t1.pool.left+c1=p.left:=g1.left;obtain⟨table,t2,S2,e2,st2,g2,p2,q2,_⟩:=eL (data:=j9 inos) g1.ok Kq (jk.grow (t:=⟨v.rd,p⟩) hUB g1) (by omega) (by rw[I9];omega);rw[I9]at g2;obtain⟨set1,e3,ls2,kp⟩:=st2.reached set;have aad:t2.pool.left+c2=t1.pool.left:=g2.left;have G2:dm ⟨v.rd,p⟩ t2 (c1+c2):=g1.trans g2;have yq:∀ n,am set1 n=true↔S1 n\/S2 n:=fun n=>by rw[kp,sQ];simp[gJ]
 obtain⟨x,hx⟩:∃ x:Sn,(⟨more,v.b.id,aW list,table⟩:Sn)=x:=⟨_,rfl⟩
 obtain⟨l2,lA⟩:∃ l2,(if more=[]then list else list++[x])=l2:=⟨_,rfl⟩
 have uN:=uu h.list hm.sub;have AM:ju l2 (if more=[]then v.b.id else v.b.id+1):=by
  rcases hm.more with h0|⟨a1,a2,a3,a4,a5⟩
  ·rw[auI h0]at lA ⊢;rw[<-lA];exact uN
  ·by_cases h0:more=[]
   ·rw[auI h0]at lA ⊢;rw[<-lA];exact uN
   ·rw[auK h0]at lA ⊢;rw[<-lA,<-hx];exact uv uN a4 a1 a2 a3 a5
 have Ch:∀ y∈l2,y∈list\/(y=x/\more≠[]):=by
  intro y hy;by_cases h0:more=[]
  ·rw[auI h0]at lA;rw[<-lA]at hy;exact .inl hy
  ·rw[auK h0]at lA;rw[<-lA]at hy;rcases avE.1 hy with hy|hy
   ·exact .inl hy
   ·simp at hy;exact .inr ⟨hy,h0⟩
 have IW:∀ y∈v.b.list,y.table.ok=true:=by
  intro y hy;obtain⟨_,_,_,C,D,_,hD,_⟩:=h.snaps y hy;exact hD.may
 have Kv:∀ y∈l2,y.table.ok=true:=by
  intro y hy;rcases Ch y hy with hy|⟨rfl,_⟩
  ·exact IW y (hm.sub.subset hy)
  ·rw[<-hx];exact st2.may
 have AE:=xF AM Kv;have Ts:aR t2.rd (ko) v.b.snaps Ss:=hSs.turn fun n hn=>G2.keepRd (zh n hn).1;obtain⟨c3,Fi⟩:∃ c3,dc (ko) (kc l2)=c3:=⟨_,rfl⟩
 have hc3:c3<=1:=by rw[<-Fi];exact aux (gE _ _) (mN AE.1)
 obtain⟨snaps,t3,S3,e4,Tj,g3,p3,q3,k3⟩:=eL (data:=kc l2) g2.ok Ts (jk.grow (t:=⟨v.rd,p⟩) zh G2) (by omega) (by rw[Fi];omega);rw[Fi]at g3;have Z2:t3.pool.left+c3=t2.pool.left:=g3.left;obtain⟨set2,e5,ls3,rG⟩:=Tj.reached set1;have G3:dm ⟨v.rd,p⟩ t3 (c1+c2+c3):=G2.trans g3;have uX:t3.pool.blocks=v.blocks:=G3.blocks.trans mW;obtain⟨p4,e6,g4⟩:=xD t3.rd (aS v.blocks) t3.pool G3.ok (by unfold bM at uG;omega);have Z0:p4.left+aS v.blocks=t3.pool.left:=g4.left;have G4:dm ⟨v.rd,p⟩ ⟨t3.rd,p4⟩ (c1+c2+c3+aS v.blocks):=G3.trans (b:=t3) g4;obtain⟨own,Fo⟩:∃ own,bQ p4.taken t3.pool.taken=own:=⟨_,rfl⟩
 have qA:∀ n,am own n=(am p4.used n&&!am t3.pool.used n):=by
  intro n;have a1:=g4.taken n;rw[<-Fo,ku];simp only at a1;rw[a1];have a2:=G3.taken n;simp only[OB,gJ,Bool.false_or]at a2;rw[a2]
  cases am t3.pool.used n<;>cases am p.used n<;>simp
 have KC:jW (am own) v.blocks=aS v.blocks:=by
  have:=Eo g4 G3.ok;simp only[uX]at this;rw[<-this];exact jl fun n _ _=>qA n
 have I7:∀ n,am own n=true->1<=n/\n<v.blocks:=by
  intro n hn;rw[qA,auT,Bool.not_eq_true']at hn;have:=g4.news n hn.1 hn.2;simp only[uX]at this;exact this
 obtain⟨q,Vy⟩:∃ q,gB (bQ (iO (List.range v.blocks)) own) v.blocks t3.pool.next=q:=⟨_,rfl⟩
 have R0:cH q:=by
  have:=G3.ok;rw[<-Vy];exact sy this.lo (by rw[<-uX];exact this.hi) zf.2
 have Yq:∀ n,am q.used n=(decide (n<v.blocks)&&!am own n):=by
  intro n;rw[<-Vy];show am (bQ (iO (List.range v.blocks)) own) n=_;rw[ku,vL];simp
 have Ow:q.blocks=v.blocks:=by rw[<-Vy];rfl
 have hql:q.left=aS v.blocks:=by
  rw[R0.left,mL,Ow,<-KC];refine jl fun n _ hn=>?_;rw[Yq];simp[hn]
 obtain⟨FK,B9⟩:∃ pl,kY v.b.planes list=pl:=⟨_,rfl⟩
 obtain⟨pl2,Ja⟩:∃ pl,(if more=[]then FK else FK.set (aW list) (eH set1 []))=pl:=⟨_,rfl⟩
 obtain⟨pl3,Cn⟩:∃ pl,pl2.set 0 (eH (eH set2 own) [])=pl:=⟨_,rfl⟩
 have Td:FK.length=8:=by rw[<-B9];simp[kY]
 have Tn:pl2.length=8:=by rw[<-Ja];split<;>simp[Td]
 have KB:pl3.length=8:=by rw[<-Cn];simp[Tn]
 have Fs:pl3.getD 0 []=eH (eH set2 own) []:=by rw[<-Cn,mO (by omega),auI rfl]
 have yg:∀ r,1<=r->r<8->pl3.getD r []=if more≠[]/\r=aW list then eH set1 []else FK.getD r []:=by
  intro r h1 h8;rw[<-Cn,mO (by omega),auK (by omega),<-Ja];by_cases h0:more=[]
  ·rw[auI h0,auK (fun h=>h.1 h0)]
  ·rw[auK h0];have sM:aW list<8:=by
    rcases hm.more with h'|⟨_,_,_,a4,_⟩
    ·exact absurd h' h0
    ·have:=ee a4;omega
   rw[mO (by omega)];by_cases hr:r=aW list
   ·rw[auI hr,auI ⟨h0,hr⟩]
   ·rw[auK hr,auK (fun h=>hr h.2)]
 have Ko:∀ r,r<8->1<=r->FK.getD r []=v.b.planes.getD r []\/FK.getD r []=[]:=by
  intro r h8 h1;rw[<-B9,nL _ _ _ h8];split
  ·exact .inl rfl
  ·exact .inr rfl
 obtain⟨mapped,t5,S5,e7,st5,g5,p5,q5,_⟩:=eL (t:=⟨t3.rd,q⟩) R0 (jh t3.rd) (fun _ h=>h.elim) (data:=ig pl3 v.blocks) (by rw[po];omega) (by
  have:=gE [] (ig pl3 v.blocks);rw[po]at this;show _<=q.left;omega)
 have aaF:∀ n:Nat,am own n=false->t5.rd n=t3.rd n:=by
  intro n hn;refine g5.rd n fun m hme=>?_;obtain rfl:n=m:=by omega
  by_cases aL:n<v.blocks
  ·left;show am q.used n=true;rw[Yq,hn];simp[aL]
  ·right
   cases hu:am t5.pool.used n with
   |false=>rfl
   |true=>
    have:=g5.news n hu (by show am q.used n=false;rw[Yq];simp[aL]);have h2:n<q.blocks:=this.2;omega
 have Fw:∀ n:Nat,am t3.pool.used n=true->t5.rd n=t3.rd n:=fun n hn=>aaF n (by rw[qA,hn];simp);have aai:∀ n:Nat,am p.used n=true->t5.rd n=v.rd n:=fun n hn=>(Fw n (G3.used n hn)).trans (G3.keepRd hn);have afu:∀ n:Nat,am t1.pool.used n=true->t5.rd n=t1.rd n:=fun n hn=>(Fw n (g3.used n (g2.used n hn))).trans (((g2.trans g3).keepRd hn));have SD:∀ n:Nat,am t2.pool.used n=true->t5.rd n=t2.rd n:=fun n hn=>(Fw n (g3.used n hn)).trans (g3.keepRd hn);have zo:∀ n,S1 n\/S2 n->am t2.pool.used n=true/\n<v.blocks:=by
  intro n hn;rcases hn with hn|hn
  ·have:=p1.grow g2 n hn;exact⟨this.1,by have:=this.2;rw[G2.blocks]at this;exact mW▸this⟩
  ·have:=p2 n hn;exact⟨this.1,by have:=this.2;rw[G2.blocks]at this;exact mW▸this⟩
 obtain⟨u,hu⟩:∃ u:Vs,u={ v with rd:=t5.rd,num:=v.num+1,recs:=[],b:=⟨table,snaps,mapped,p4.next,if more=[]then v.b.id else v.b.id+1,inos,l2,pl3,ar v.T⟩ }:=⟨_,rfl⟩
 have bi:bB v list more=.ok u:=by
  unfold bB;simp only[sZ,e1,e2,e3,hx,lA,B9,Ja,e4,e5,e6,Fo,Cn,Vy,e7,bind,Except.bind];rw[hu]
 have Z1:u.b.planes=pl3:=by rw[hu]
 have huB:u.blocks=v.blocks:=by rw[hu]
 have kq:j0 t5.rd inos (ar v.T) table (fun n=>S1 n\/S2 n):=
  ⟨S1,S2,l1.turn fun n hn=>afu n (p1 n hn).1,st2.turn fun n hn=>SD n (p2 n hn).1,fun n=>Iff.rfl⟩
 have hold:∀ y∈list,∀ inos nodes C,j0 v.rd inos nodes y.table C->(∀ n,C n->am (v.b.planes.getD y.plane.toNat []) n=true)->j0 t5.rd inos nodes y.table C:=by
  intro y hy inos nodes C hC hCn;have:=uN.plane y hy;exact hC.turn fun n hn=>aai n (hU y.plane.toNat n (by omega) (hCn n hn)).1
 have XH:∀ y∈list,u.b.planes.getD y.plane.toNat []=v.b.planes.getD y.plane.toNat []:=by
  intro y hy;have jJ:=uN.plane y hy;rw[Z1,yg _ (by omega) (by omega),auK,<-B9,nL _ _ _ (by omega),auI]
  ·right
   rw[List.any_eq_true];exact⟨y,hy,by simp;omega⟩
  ·rintro⟨h0,he⟩;rcases hm.more with h'|⟨_,_,_,a4,_⟩
   ·exact absurd h' h0
   ·exact(ee a4).2.2 y hy (by omega)
 have Tc:∀ r n,1<=r->r<8->am (pl3.getD r []) n=true->am t2.pool.used n=true/\n<v.blocks/\((S1 n\/S2 n)\/am (v.b.planes.getD r []) n=true):=by
  intro r n h1 h8 hn;rw[yg r h1 h8]at hn;split at hn
  ·rw[jL,gJ,Bool.or_false,yq]at hn;exact⟨(zo n hn).1,(zo n hn).2,.inl hn⟩
  ·rcases Ko r h8 h1 with e|e
   ·rw[e]at hn;have:=hU r n h8 hn;exact⟨G2.used n this.1,mW▸this.2,.inr hn⟩
   ·rw[e]at hn;cases hn
 have hP0:∀ n,am (pl3.getD 0 []) n=true↔(S1 n\/S2 n)\/S3 n\/am own n=true:=by
  intro n;rw[Fs,jL,jL,gJ,Bool.or_false,auV,rG,yq,or_assoc]
 have VP:∀ n,S3 n->am t3.pool.used n=true/\n<v.blocks:=by
  intro n hn;have:=p3 n hn;exact⟨this.1,by have:=this.2;rw[uX]at this;exact this⟩
 have Tb:∀ n,Ss n\/am tZ n=true->¬(S1 n\/S2 n)/\∀ r,1<=r->r<8->am (pl3.getD r []) n=false:=by
  intro n hn;obtain⟨d1,d2⟩:=Wu n hn;have hnu:am p.used n=true:=by
   rcases hn with hn|hn
   ·exact(zh n hn).1
   ·exact(hUo n hn).1
  have hS:¬(S1 n\/S2 n):=by
   rintro(h1|h1)
   ·rcases q1 n h1 with h2|h2
    ·exact d1 ((OQ n).2 (.inl h2))
    ·rw[hnu]at h2;cases h2
   ·rcases q2 n h1 with h2|h2
    ·exact d1 ((OQ n).2 (.inr h2))
    ·rw[g1.used n hnu]at h2;cases h2
  refine⟨hS,fun r h1 h8=>?_⟩
  cases hb:am (pl3.getD r []) n with
  |false=>rfl
  |true=>
   rcases(Tc r n h1 h8 hb).2.2 with h2|h2
   ·exact absurd h2 hS
   ·rw[d2 r h1 h8]at h2;cases h2
 have qz:bM u+1<=dp u:=by
  obtain⟨n0,Jg⟩:∃ n0,0<ko.length->Ss n0:=by
   by_cases h0:0<ko.length
   ·obtain⟨n0,Jg⟩:=hSs.any h0;exact⟨n0,fun _=>Jg⟩
   ·exact⟨0,fun h=>absurd h h0⟩
  have Tp:=QG (a:=fun n=>!am p4.used n) (b:=am tZ) (c:=fun n=>decide (ko≠kc l2/\0<ko.length)&&n==n0) (d:=fun n=>!am (cV pl3) n) (blocks:=v.blocks) (by
   intro n h1 h2;have key:am (cV pl3) n=true->am p4.used n=true/\am tZ n=false/\¬((ko≠kc l2/\0<ko.length)/\n=n0):=by
    intro hn;obtain⟨r,h8,hr⟩:=(pr KB n).1 hn;by_cases XE:r=0
    ·subst XE;rcases(hP0 n).1 hr with h3|h3|h3
     ·refine⟨g4.used n (g3.used n (zo n h3).1),?_,?_⟩
      ·cases ho:am tZ n with
       |false=>rfl
       |true=>exact absurd h3 (Tb n (.inr ho)).1
      ·rintro⟨⟨_,hz⟩,rfl⟩;exact(Tb n (.inl (Jg hz))).1 h3
     ·refine⟨g4.used n (VP n h3).1,?_,?_⟩
      ·cases ho:am tZ n with
       |false=>rfl
       |true=>
        rcases q3 n h3 with h5|h5
        ·rw[RC n h5]at ho;cases ho
        ·rw[G2.used n (hUo n ho).1]at h5;cases h5
      ·rintro⟨⟨dW,hz⟩,rfl⟩;have:=Mw g2.ok Ts AE.1 AE.2 Yg dW (by unfold bM at uG;omega) e4 Tj n h3;rw[G2.used n (zh n (Jg hz)).1]at this;cases this
     ·rw[qA,auT,Bool.not_eq_true']at h3;refine⟨h3.1,?_,?_⟩
      ·cases ho:am tZ n with
       |false=>rfl
       |true=>rw[G3.used n (hUo n ho).1]at h3;cases h3.2
      ·rintro⟨⟨_,hz⟩,rfl⟩;rw[G3.used n (zh n (Jg hz)).1]at h3;cases h3.2
    ·have h5:=Tc r n (by omega) h8 hr;refine⟨g4.used n (g3.used n h5.1),?_,?_⟩
     ·cases ho:am tZ n with
      |false=>rfl
      |true=>rw[(Tb n (.inr ho)).2 r (by omega) h8]at hr;cases hr
     ·rintro⟨⟨_,hz⟩,rfl⟩;rw[(Tb n (.inl (Jg hz))).2 r (by omega) h8]at hr;cases hr
   have k1:am tZ n=true->am p4.used n=true:=fun h=>g4.used n (G3.used n (hUo n h).1);have k2:0<ko.length->n=n0->am p4.used n=true/\am tZ n=false:=fun hz h=>by subst h;exact⟨g4.used n (G3.used n (zh n (Jg hz)).1),RC n (Jg hz)⟩
   by_cases he:(ko≠kc l2/\0<ko.length)/\n=n0
   ·obtain⟨a1,a2⟩:=k2 he.1.2 he.2;obtain⟨a3,rfl⟩:=he;simp only[a1,a2,a3,Bool.not_true,beq_self_eq_true,Bool.and_true,Bool.false_eq_true,if_false]
    cases hd:am (cV pl3) n with
    |false=>simp;split<;>omega
    |true=>exact absurd ⟨a3,rfl⟩ (key hd).2.2
   ·have:(decide (ko≠kc l2/\0<ko.length)&&n==n0)=false:=by
     rw[Bool.eq_false_iff];intro hx;simp only[auT,auY,ave]at hx;exact he hx
    simp only[this,Bool.false_eq_true,if_false]
    cases hd:am (cV pl3) n with
    |true=>
     obtain⟨a1,a2,_⟩:=key hd;simp[a1,a2]
    |false=>
     cases ho:am tZ n with
     |false=>cases am p4.used n<;>simp
     |true=>simp[k1 ho])
  rw[<-mL,<-mL]at Tp;have hl4:p4.left=kX p4.used v.blocks:=by
   have:=g4.ok.left;rw[show p4.blocks=v.blocks from g4.blocks.trans uX]at this;exact this
  have hfu:dp u=kX (cV pl3) v.blocks:=by rw[hu];rfl
  have hhu:bM u=bM v:=by rw[hu];rfl
  rw[<-hl4]at Tp;have hhv:bM v=aS v.blocks:=rfl;rcases Yf with⟨bw,hz⟩|hbig
  ·rw[bw]at Tp;by_cases he:ko=kc l2
   ·have:c3=0:=by rw[<-Fi,he,kZ _ (by omega)]
    rw[hfu,hhu];omega
   ·have:1<=jW (fun n=>decide (ko≠kc l2/\0<ko.length)&&n==n0) v.blocks:=by
     have h5:=zh n0 (Jg hz);exact QH (n:=n0) (hSs.lt (Jg hz)).1 (mW▸h5.2) (by simp[he,hz])
    rw[hfu,hhu];omega
  ·unfold bH at hbig;rw[AB,Jv]at hbig;rw[hfu,hhu];omega
 have X9:∀ y∈list,∀ nodes,qX v y nodes->qX u y nodes:=by
  rintro y hy nodes ⟨Wf,KO,hT'⟩;refine⟨Wf,KO,?_⟩;rw[XH y hy,show u.rd=t5.rd by rw[hu]];exact hold y hy KO nodes _ hT' fun _ h=>h
 have Ji:more≠[]->iI (ar v.T)/\j0 u.rd inos (ar v.T) x.table (fun n=>am (u.b.planes.getD x.plane.toNat []) n=true):=by
  intro h0;refine⟨h.told,?_⟩;rw[show u.rd=t5.rd by rw[hu]];rcases hm.more with h'|⟨_,_,_,a4,_⟩
  ·exact absurd h' h0
  ·have sM:=ee a4;rw[<-hx];refine kq.iff fun n=>?_;rw[Z1];simp only[avc];rw[yg _ sM.1 (by omega),auI ⟨h0,rfl⟩,jL,gJ,Bool.or_false,yq]
 have ac2:io u:=by
  have huN:u.b.nodes=ar v.T:=by rw[hu]
  have huT:u.T=v.T:=by rw[hu]
  refine⟨by rw[huB];exact zf,?_,by rw[Z1];exact KB,?_,?_,?_,?_,?_,by rw[huN];exact h.told.toNodesOk,by rw[huT];exact h.told,?_⟩
  ·rw[huB,show u.b.next=p4.next by rw[hu]];have:=g4.ok;exact⟨this.lo,by have h6:=this.hi;rwa [show p4.blocks=v.blocks from g4.blocks.trans uX]at h6⟩
  ·intro r h8;rw[Z1,huB];by_cases hr:r=0
   ·subst hr;refine⟨by rw[Fs];exact iW _ _ _,fun n hn=>?_⟩;rcases(hP0 n).1 hn with(h3|h3)|h3|h3
    ·exact⟨(l1.lt n h3).1,(zo n (.inl h3)).2⟩
    ·exact⟨(st2.lt h3).1,(zo n (.inr h3)).2⟩
    ·exact⟨(Tj.lt h3).1,(VP n h3).2⟩
    ·exact I7 n h3
   ·refine⟨?_,fun n hn=>?_⟩
    ·rw[yg r (by omega) h8];split
     ·exact iW _ _ _
     ·rcases Ko r h8 (by omega)with e|e
      ·rw[e];exact(h.planes r h8).1
      ·rw[e];simp[ga]
    ·obtain⟨_,h3,h4⟩:=Tc r n (by omega) h8 hn;rcases h4 with(h5|h5)|h5
     ·exact⟨(l1.lt n h5).1,h3⟩
     ·exact⟨(st2.lt h5).1,h3⟩
     ·exact⟨((h.planes r h8).2 n h5).1,h3⟩
  ·rw[show u.b.list=l2 by rw[hu],show u.b.id=if more=[]then v.b.id else v.b.id+1 by rw[hu]];exact AM
  ·intro r h1 h8 hr;rw[show u.b.list=l2 by rw[hu]]at hr;rw[Z1,yg r h1 h8,auK,<-B9,nL _ _ _ h8,auK]
   ·rintro(h3|h3)
    ·omega
    ·obtain⟨y,hy,he⟩:=List.any_eq_true.1 h3;have hyl:y∈l2:=by
      rw[<-lA];split
      ·exact hy
      ·exact List.mem_append_left _ hy
     exact hr y hyl (by simpa using he)
   ·rintro⟨h0,he⟩;have RT:x∈l2:=by rw[<-lA,auK h0];simp
    exact hr x RT (by rw[<-hx,he])
  ·intro y hy;rw[show u.b.list=l2 by rw[hu]]at hy;rcases Ch y hy with hy|⟨rfl,h0⟩
   ·obtain⟨KO,Tm,Wf,hT'⟩:=h.snaps y (hm.sub.subset hy);obtain⟨_,aev,hT2⟩:=X9 y hy Tm ⟨Wf,KO,hT'⟩;exact⟨aev,Tm,Wf,hT2⟩
   ·exact⟨inos,ar v.T,h.told,(Ji h0).2⟩
  ·refine⟨fun n=>S1 n\/S2 n,S3,S5,own,?_,?_,?_,?_,?_,?_,?_,?_⟩
   ·rw[hu];exact kq
   ·rw[hu];exact Tj.turn fun n hn=>Fw n (VP n hn).1
   ·rw[hu];exact st5
   ·intro n hn;rcases q5 n hn with h3|h3
    ·exact h3.elim
    ·have h4:am q.used n=false:=h3;have h5:=(p5 n hn).2;rw[g5.blocks]at h5;have h6:n<v.blocks:=by have h7:n<q.blocks:=h5;omega
     rw[Yq]at h4;simpa[h6]using h4
   ·rw[Z1];exact hP0
   ·rw[huB];exact KC
   ·intro n hn;rw[Z1];rcases hn with hn|hn
    ·rcases q3 n hn with h3|h3
     ·exact Tb n (.inl h3)
     ·refine⟨fun h4=>?_,fun r h1 h8=>?_⟩
      ·rw[(zo n h4).1]at h3;cases h3
      ·cases hb:am (pl3.getD r []) n with
       |false=>rfl
       |true=>rw[(Tc r n h1 h8 hb).1]at h3;cases h3
    ·rw[qA,auT,Bool.not_eq_true']at hn;refine⟨fun h4=>?_,fun r h1 h8=>?_⟩
     ·rw[g3.used n (zo n h4).1]at hn;cases hn.2
     ·cases hb:am (pl3.getD r []) n with
      |false=>rfl
      |true=>rw[g3.used n (Tc r n h1 h8 hb).1]at hn;cases hn.2
   ·intro n hn;rw[qA,(VP n hn).1];simp
  ·rw[Ag (by rw[huN,huT]) (by rw[huT];exact h.told.toNodesOk)];exact qz
 exact⟨u,bi,ac2,huB,by rw[hu],by rw[hu],by rw[hu],by rw[hu],by rw[hu],by rw[hu],⟨x,by rw[<-hx],by rw[<-hx],by rw[<-hx,hu],by rw[hu];exact lA.symm,fun h0=>⟨(Ji h0).1,inos,(Ji h0).2⟩⟩,X9,Ag (by rw[hu]) (by rw[hu];exact h.told.toNodesOk),fun y hy=>⟨XH y hy,fun n hn=>by rw[show u.rd=t5.rd by rw[hu]];exact aai n (hU y.plane.toNat n (by have:=uN.plane y hy;omega) hn).1⟩⟩
theorem ls {v:Vs}{list:List Sn}{more:az}(h:io v)(hm:dX v list more):∃ u,Bt v list more u:=uw h.ready hm
section
theorem pZ {s:az}{k:Nat}(h:ga s)(hn:∀ n,am s n=true->n<8*k):s.length<=k:=by
 rcases List.eq_nil_or_concat s with rfl|⟨r,b,rfl⟩
 ·simp
 ·have hb:b≠0:=by intro e;subst e;exact h (by simp)
  obtain⟨j,hj,aie⟩:=CR hb;have:=hn (8*r.length+j) (by rw[dV hj];simpa using aie);simp;omega
structure qY (was:List fC)(bh:Int->az)(U:Pl)(mU:Nat->Prop)(r:List Nt)(t:gK):Prop where
 all:∀ n,mU n->am U.used n=true/\n<U.blocks
 ok:cH t.pool
 blocks:t.pool.blocks=U.blocks
 used:∀ n,am U.used n=true->am t.pool.used n=true
 each:∀ x∈r,x.data.length<=16384/\∃ A,aR t.rd (bh x.num) (ec was x.num) A/\∀ n,A n->mU n
 cost:(r.map fun x=>dc (bh x.num) x.data).sum<=t.pool.left
theorem qY.step {was:List fC}{bh:Int->az}{U:Pl}{mU:Nat->Prop}{x:Nt}{r:List Nt}{t:gK}(h:qY was bh U mU (x::r) t)(set:az):
  ∃ b t1 s,dI t (ec was x.num) x.data=.ok (b,t1)/\dL t1.rd set b=.ok s/\(∃ S,aR t1.rd x.data b S)/\(∃ bh S,aR t.rd bh (ec was x.num) S)/\qY was bh U mU r t1:=by
 have hc:=h.cost;rw[auy,auz]at hc;obtain⟨hx,A,hA,hAs⟩:=h.each x (by simp);have hAp:jk t.pool A:=fun n hn=>⟨h.used n (h.all n (hAs n hn)).1,by rw[h.blocks];exact(h.all n (hAs n hn)).2⟩
 obtain⟨b,t1,S1,e1,h1,g1,p1,q1,k1⟩:=eL h.ok hA hAp hx (by omega);obtain⟨s,e2,lA,h2⟩:=h1.reached set;exact⟨b,t1,s,e1,e2,⟨S1,h1⟩,⟨_,A,hA⟩,⟨h.all,g1.ok,g1.blocks.trans h.blocks,fun n hn=>g1.used n (h.used n hn),fun y hy=>by
   obtain⟨hy1,B,hB,hBs⟩:=h.each y (by simp[hy]);exact⟨hy1,B,hB.turn fun n hn=>g1.keepRd (h.used n (h.all n (hBs n hn)).1),hBs⟩,by have:=g1.left;omega⟩⟩
structure gg where
 inos:List fC
 set:az
 t1:gK
 table:fP
 t2:gK
 set1:az
 snaps:fP
 t3:gK
 set2:az
 p4:Pl
 mapped:fP
 t5:gK
section
variable (r:gg)(v:Vs)(list:List Sn)(more:az)
def gg.x:Sn:=⟨more,v.b.id,aW list,r.table⟩
def gg.l2:List Sn:=if more=[]then list else list++[r.x v list more]
def gg.pl2:List az:=if more=[]then kY v.b.planes list else(kY v.b.planes list).set (aW list) (eH r.set1 [])
def gg.own:az:=bQ r.p4.taken r.t3.pool.taken
def gg.pl3:List az:=(r.pl2 v list more).set 0 (eH (eH r.set2 r.own) [])
def gg.q:Pl:=gB (bQ (iO (List.range v.blocks)) r.own) v.blocks r.t3.pool.next
def gg.out:Vs:={ v with rd:=r.t5.rd,num:=v.num+1,recs:=[],b:=⟨r.table,r.snaps,r.mapped,r.p4.next,if more=[]then v.b.id else v.b.id+1,r.inos,r.l2 v list more,r.pl3 v list more,ar v.T⟩ }
structure mP (s:az)(blocks:Nat):Prop where
 least:ga s
 range:∀ n,am s n=true->1<=n/\n<blocks
structure Er:Prop where
 lay:∃ bh U mU,qY v.b.inodes bh U mU (ar v.T) ⟨v.rd,gB (cV v.b.planes) v.blocks v.b.next⟩
 e1:mF v.b.inodes (ar v.T) [] ⟨v.rd,gB (cV v.b.planes) v.blocks v.b.next⟩=.ok (r.inos,r.set,r.t1)
 inok:qQ r.inos=true
 inlen:r.inos.length<=60/\(j9 r.inos).length<=722
 old2:∃ bh S,aR r.t1.rd bh v.b.table S
 e2:dI r.t1 v.b.table (j9 r.inos)=.ok (r.table,r.t2)
 new2:∃ S,aR r.t2.rd (j9 r.inos) r.table S
 e3:dL r.t2.rd r.set r.table=.ok r.set1
 set1:mP r.set1 v.blocks
 snok:zI (r.l2 v list more)=true
 snlen:(r.l2 v list more).length<=8/\(kc (r.l2 v list more)).length<=240
 old4:∃ bh S,aR r.t2.rd bh v.b.snaps S
 e4:dI r.t2 v.b.snaps (kc (r.l2 v list more))=.ok (r.snaps,r.t3)
 new4:∃ S,aR r.t3.rd (kc (r.l2 v list more)) r.snaps S
 e5:dL r.t3.rd r.set1 r.snaps=.ok r.set2
 e6:pf (aS v.blocks) r.t3.pool=.ok r.p4
 pools:cH r.t1.pool/\cH r.t2.pool/\cH r.t3.pool/\cH r.p4
 blocks:r.t1.pool.blocks=v.blocks/\r.t2.pool.blocks=v.blocks/\r.t3.pool.blocks=v.blocks/\r.p4.blocks=v.blocks
 house:aS v.blocks<=r.t3.pool.left
 pset:mP (eH r.set2 r.own) v.blocks
 e7:dI ⟨r.t3.rd,r.q v⟩ ⟨0,0⟩ (ig (r.pl3 v list more) v.blocks)=.ok (r.mapped,r.t5)
 new7:∃ S,aR r.t5.rd (ig (r.pl3 v list more) v.blocks) r.mapped S
 planes:∀ p,p<8->mP ((r.pl3 v list more).getD p []) v.blocks
 eight:(r.pl3 v list more).length=8
end
theorem Er.run {r:gg}{v:Vs}{list:List Sn}{more:az}(h:Er r v list more):bB v list more=.ok (r.out v list more):=by
 have e2:=h.e2;have e4:=h.e4;have e5:=h.e5;have e7:=h.e7;unfold gg.l2 gg.x at e4;unfold gg.q gg.pl3 gg.pl2 gg.own at e7;unfold bB;simp only[h.e1,h.e2,h.e3,e4,e5,h.e6,e7,bind,Except.bind];rfl
theorem U2 {rd:Rd}{inos:List fC}{nodes:List Nt}{S:Nat->Prop}(h:lC rd inos nodes S)(hn:NodesOk nodes):qQ inos=true:=by
 have key:∀ {was:Int} {inos:List fC} {nodes:List Nt} {S:Nat->Prop},lC rd inos nodes S->lW was nodes=true->(∀ x∈nodes,1<=x.links/\x.links<=3600)->yI was inos=true:=by
  intro was inos
  induction inos generalizing was with
  |nil=>intro nodes S _ _ _;rfl
  |cons y ys ih=>
   intro nodes S h h1 h2
   cases nodes with
   |nil=>exact h.elim
   |cons x xs=>
    obtain⟨⟨a1,a2,a3⟩,A,B,b1,b2,b3⟩:=h;simp only[lW,auT,auY]at h1;have h3:=h2 x (by simp);have:=ih (was:=y.num) b2 (by rw[a1];exact h1.2) fun z hz=>h2 z (by simp[hz]);simp only[yI,auT,auY];exact⟨⟨⟨⟨⟨by omega,by omega⟩,by omega⟩,by omega⟩,b1.may⟩,this⟩
 unfold qQ;rw[key h hn.nums hn.links,Bool.and_true,auY];have:=h.len;have:=hn.many;omega
theorem U3 {l:List Sn}{id:Nat}(h:ju l id)(ht:∀ x∈l,x.table.ok=true):zI l=true:=by
 have h1:∀ x∈l,0<x.id/\x.id<=1099511627776:=fun x hx=>by have:=h.idlo x hx;have:=h.top;omega
 have key:∀(l:List Sn) (was:Int),(∀ x∈l,was<x.id)->l.Pairwise (fun a b=>a.id<b.id)->(∀ x∈l,aG x.name=true/\1<=x.plane/\x.plane<=7/\x.table.ok=true/\x.id<=1099511627776)->Ty was l=true:=by
  intro l
  induction l with
  |nil=>intros;rfl
  |cons y ys ih=>
   intro was h1 h2 h3;obtain⟨h4,h5⟩:=avF.1 h2;obtain⟨a1,a2,a3,a4,a5⟩:=h3 y (by simp);simp only[Ty,auT,auY];exact⟨⟨⟨⟨⟨⟨a1,h1 y (by simp)⟩,a5⟩,a2⟩,a3⟩,a4⟩,ih y.id h4 h5 fun x hx=>h3 x (by simp[hx])⟩
 unfold zI;rw[key l 0 (fun x hx=>(h1 x hx).1) h.ids fun x hx=>⟨(h.name x hx).1,(h.plane x hx).1,(h.plane x hx).2,ht x hx,(h1 x hx).2⟩,Bool.and_true,auY];have:=h.many;omega
theorem Es {v:Vs}{list:List Sn}{more:az}(h:mM v)(hm:dX v list more):∃ r:gg,Er r v list more:=by
 obtain⟨A,B,Ss,tZ,yi,ko,hA,hB,FD,hSs,Yg,Jh,Wu,RC,Yf⟩:=h.here;obtain⟨S,OQ⟩:∃ S:Nat->Prop,∀ n,S n↔A n\/B n:=⟨fun n=>A n\/B n,fun _=>Iff.rfl⟩
 simp only[<-OQ]at Jh Wu;have l5:=h.room;have zf:=h.many;obtain⟨p,sZ⟩:∃ p,gB (cV v.b.planes) v.blocks v.b.next=p:=⟨_,rfl⟩
 have hp:cH p:=sZ▸sy h.next.1 h.next.2 zf.2;have hpu:p.used=cV v.b.planes:=by rw[<-sZ];rfl
 have OB:p.taken=[]:=by rw[<-sZ];rfl
 have mW:p.blocks=v.blocks:=by rw[<-sZ];rfl
 have jJ:p.left=dp v:=by rw[<-sZ];rfl
 have hU:∀ q n,q<8->am (v.b.planes.getD q []) n=true->am p.used n=true/\n<p.blocks:=by
  intro q n hq hn;rw[hpu,mW];exact⟨(pr h.eight n).2 ⟨q,hq,hn⟩,((h.planes q hq).2 n hn).2⟩
 have ZZ:∀ n,S n->am p.used n=true/\n<p.blocks:=fun n hn=>hU 0 n (by decide) ((Jh n).2 (.inl hn));have hUA:∀ n,A n->am p.used n=true/\n<p.blocks:=fun n hn=>ZZ n ((OQ n).2 (.inl hn));have hUB:∀ n,B n->am p.used n=true/\n<p.blocks:=fun n hn=>ZZ n ((OQ n).2 (.inr hn));have zh:∀ n,Ss n->am p.used n=true/\n<p.blocks:=fun n hn=>hU 0 n (by decide) ((Jh n).2 (.inr (.inl hn)));have hUo:∀ n,am tZ n=true->am p.used n=true/\n<p.blocks:=fun n hn=>hU 0 n (by decide) ((Jh n).2 (.inr (.inr hn)));obtain⟨tb,Jv⟩:∃ tb,(if ar v.T=v.b.nodes then 0 else aS (2+12*(ar v.T).length))=tb:=⟨_,rfl⟩
 obtain⟨c1,AB⟩:∃ c1,((ar v.T).map fun x=>dc (cI v.b.nodes x.num) x.data).sum=c1:=⟨_,rfl⟩
 have uG:bM v+1+c1+tb<=p.left:=by
  rw[jJ];unfold bH at l5;rw[AB,Jv]at l5;exact l5
 obtain⟨inos,set,t1,S1,e1,l1,g1,p1,q1,ls1,sQ,k1⟩:=xC v.b.inodes (cI v.b.nodes) p A hUA (ar v.T) [] ⟨v.rd,p⟩ hp rfl (fun _ h=>h)
  (fun x hx=>by
   obtain⟨bh,C,h1,h2,h3⟩:=hA.find x.num;exact⟨h.told.data x hx,C,by rw[<-h3];exact h1,h2⟩) (by rw[AB];show c1<=p.left;omega) (by simp[ga])
 rw[AB]at g1;have Kq:aR t1.rd (yi) v.b.table B:=hB.turn fun n hn=>g1.keepRd (hUB n hn).1;have aV:=Ep l1 h.told.toNodesOk;have BM:dc (yi) (j9 inos)<=tb:=by
  by_cases he:ar v.T=v.b.nodes
  ·have:=(k1 fun x hx=>by rw[he]at hx;exact pp h.nodes.nums x hx).1;rw[this,FD he,he,tG hA h.nodes.nums,kZ _ (by rw[<-FD he];exact hB.1)];exact avk _
  ·rw[auK he]at Jv;rw[<-Jv];exact aux (gE _ _) (wK aV.1 (by have:=h.told.many;omega))
 obtain⟨c2,I9⟩:∃ c2,dc (yi) (j9 inos)=c2:=⟨_,rfl⟩
 rw[I9]at BM;have ZW:t1.pool.left+c1=p.left:=g1.left;obtain⟨table,t2,S2,e2,st2,g2,p2,q2,_⟩:=eL (data:=j9 inos) g1.ok Kq (jk.grow (t:=⟨v.rd,p⟩) hUB g1) (by omega) (by rw[I9];omega);rw[I9]at g2;obtain⟨set1,e3,ls2,kp⟩:=st2.reached set;have aad:t2.pool.left+c2=t1.pool.left:=g2.left;have G2:dm ⟨v.rd,p⟩ t2 (c1+c2):=g1.trans g2;have yq:∀ n,am set1 n=true↔S1 n\/S2 n:=fun n=>by rw[kp,sQ];simp[gJ]
 obtain⟨x,hx⟩:∃ x:Sn,(⟨more,v.b.id,aW list,table⟩:Sn)=x:=⟨_,rfl⟩
 obtain⟨l2,lA⟩:∃ l2,(if more=[]then list else list++[x])=l2:=⟨_,rfl⟩
 have uN:=uu h.list hm.sub;have AM:ju l2 (if more=[]then v.b.id else v.b.id+1):=by
  rcases hm.more with h0|⟨a1,a2,a3,a4,a5⟩
  ·rw[auI h0]at lA ⊢;rw[<-lA];exact uN
  ·by_cases h0:more=[]
   ·rw[auI h0]at lA ⊢;rw[<-lA];exact uN
   ·rw[auK h0]at lA ⊢;rw[<-lA,<-hx];exact uv uN a4 a1 a2 a3 a5
 have Ch:∀ y∈l2,y∈list\/(y=x/\more≠[]):=by
  intro y hy;by_cases h0:more=[]
  ·rw[auI h0]at lA;rw[<-lA]at hy;exact .inl hy
  ·rw[auK h0]at lA;rw[<-lA]at hy;rcases avE.1 hy with hy|hy
   ·exact .inl hy
   ·simp at hy;exact .inr ⟨hy,h0⟩
 have IW:∀ y∈v.b.list,y.table.ok=true:=by
  intro y hy;obtain⟨_,_,_,C,D,_,hD,_⟩:=h.snaps y hy;exact hD.may
 have Kv:∀ y∈l2,y.table.ok=true:=by
  intro y hy;rcases Ch y hy with hy|⟨rfl,_⟩
  ·exact IW y (hm.sub.subset hy)
  ·rw[<-hx];exact st2.may
 have AE:=xF AM Kv;have Ts:aR t2.rd (ko) v.b.snaps Ss:=hSs.turn fun n hn=>G2.keepRd (zh n hn).1;obtain⟨c3,Fi⟩:∃ c3,dc (ko) (kc l2)=c3:=⟨_,rfl⟩
 have hc3:c3<=1:=by rw[<-Fi];exact aux (gE _ _) (mN AE.1)
 obtain⟨snaps,t3,S3,e4,Tj,g3,p3,q3,k3⟩:=eL (data:=kc l2) g2.ok Ts (jk.grow (t:=⟨v.rd,p⟩) zh G2) (by omega) (by rw[Fi];omega);rw[Fi]at g3;have Z2:t3.pool.left+c3=t2.pool.left:=g3.left;obtain⟨set2,e5,ls3,rG⟩:=Tj.reached set1;have G3:dm ⟨v.rd,p⟩ t3 (c1+c2+c3):=G2.trans g3;have uX:t3.pool.blocks=v.blocks:=G3.blocks.trans mW;obtain⟨p4,e6,g4⟩:=xD t3.rd (aS v.blocks) t3.pool G3.ok (by unfold bM at uG;omega);have Z0:p4.left+aS v.blocks=t3.pool.left:=g4.left;have G4:dm ⟨v.rd,p⟩ ⟨t3.rd,p4⟩ (c1+c2+c3+aS v.blocks):=G3.trans (b:=t3) g4;obtain⟨own,Fo⟩:∃ own,bQ p4.taken t3.pool.taken=own:=⟨_,rfl⟩
 have qA:∀ n,am own n=(am p4.used n&&!am t3.pool.used n):=by
  intro n;have a1:=g4.taken n;rw[<-Fo,ku];simp only at a1;rw[a1];have a2:=G3.taken n;simp only[OB,gJ,Bool.false_or]at a2;rw[a2]
  cases am t3.pool.used n<;>cases am p.used n<;>simp
 have KC:jW (am own) v.blocks=aS v.blocks:=by
  have:=Eo g4 G3.ok;simp only[uX]at this;rw[<-this];exact jl fun n _ _=>qA n
 have I7:∀ n,am own n=true->1<=n/\n<v.blocks:=by
  intro n hn;rw[qA,auT,Bool.not_eq_true']at hn;have:=g4.news n hn.1 hn.2;simp only[uX]at this;exact this
 obtain⟨q,Vy⟩:∃ q,gB (bQ (iO (List.range v.blocks)) own) v.blocks t3.pool.next=q:=⟨_,rfl⟩
 have R0:cH q:=by
  have:=G3.ok;rw[<-Vy];exact sy this.lo (by rw[<-uX];exact this.hi) zf.2
 have Yq:∀ n,am q.used n=(decide (n<v.blocks)&&!am own n):=by
  intro n;rw[<-Vy];show am (bQ (iO (List.range v.blocks)) own) n=_;rw[ku,vL];simp
 have Ow:q.blocks=v.blocks:=by rw[<-Vy];rfl
 have hql:q.left=aS v.blocks:=by
  rw[R0.left,mL,Ow,<-KC];refine jl fun n _ hn=>?_;rw[Yq];simp[hn]
 obtain⟨FK,B9⟩:∃ pl,kY v.b.planes list=pl:=⟨_,rfl⟩
 obtain⟨pl2,Ja⟩:∃ pl,(if more=[]then FK else FK.set (aW list) (eH set1 []))=pl:=⟨_,rfl⟩
 obtain⟨pl3,Cn⟩:∃ pl,pl2.set 0 (eH (eH set2 own) [])=pl:=⟨_,rfl⟩
 have Td:FK.length=8:=by rw[<-B9];simp[kY]
 have Tn:pl2.length=8:=by rw[<-Ja];split<;>simp[Td]
 have KB:pl3.length=8:=by rw[<-Cn];simp[Tn]
 have Fs:pl3.getD 0 []=eH (eH set2 own) []:=by rw[<-Cn,mO (by omega),auI rfl]
 have yg:∀ r,1<=r->r<8->pl3.getD r []=if more≠[]/\r=aW list then eH set1 []else FK.getD r []:=by
  intro r h1 h8;rw[<-Cn,mO (by omega),auK (by omega),<-Ja];by_cases h0:more=[]
  ·rw[auI h0,auK (fun h=>h.1 h0)]
  ·rw[auK h0];have sM:aW list<8:=by
    rcases hm.more with h'|⟨_,_,_,a4,_⟩
    ·exact absurd h' h0
    ·have:=ee a4;omega
   rw[mO (by omega)];by_cases hr:r=aW list
   ·rw[auI hr,auI ⟨h0,hr⟩]
   ·rw[auK hr,auK (fun h=>hr h.2)]
 have Ko:∀ r,r<8->1<=r->FK.getD r []=v.b.planes.getD r []\/FK.getD r []=[]:=by
  intro r h8 h1;rw[<-B9,nL _ _ _ h8];split
  ·exact .inl rfl
  ·exact .inr rfl
 obtain⟨mapped,t5,S5,e7,st5,g5,p5,q5,_⟩:=eL (t:=⟨t3.rd,q⟩) R0 (jh t3.rd) (fun _ h=>h.elim) (data:=ig pl3 v.blocks) (by rw[po];omega) (by
  have:=gE [] (ig pl3 v.blocks);rw[po]at this;show _<=q.left;omega)
 have aaF:∀ n:Nat,am own n=false->t5.rd n=t3.rd n:=by
  intro n hn;refine g5.rd n fun m hme=>?_;obtain rfl:n=m:=by omega
  by_cases aL:n<v.blocks
  ·left;show am q.used n=true;rw[Yq,hn];simp[aL]
  ·right
   cases hu:am t5.pool.used n with
   |false=>rfl
   |true=>
    have:=g5.news n hu (by show am q.used n=false;rw[Yq];simp[aL]);have h2:n<q.blocks:=this.2;omega
 have Fw:∀ n:Nat,am t3.pool.used n=true->t5.rd n=t3.rd n:=fun n hn=>aaF n (by rw[qA,hn];simp);have aai:∀ n:Nat,am p.used n=true->t5.rd n=v.rd n:=fun n hn=>(Fw n (G3.used n hn)).trans (G3.keepRd hn);have afu:∀ n:Nat,am t1.pool.used n=true->t5.rd n=t1.rd n:=fun n hn=>(Fw n (g3.used n (g2.used n hn))).trans (((g2.trans g3).keepRd hn));have SD:∀ n:Nat,am t2.pool.used n=true->t5.rd n=t2.rd n:=fun n hn=>(Fw n (g3.used n hn)).trans (g3.keepRd hn);have zo:∀ n,S1 n\/S2 n->am t2.pool.used n=true/\n<v.blocks:=by
  intro n hn;rcases hn with hn|hn
  ·have:=p1.grow g2 n hn;exact⟨this.1,by have:=this.2;rw[G2.blocks]at this;exact mW▸this⟩
  ·have:=p2 n hn;exact⟨this.1,by have:=this.2;rw[G2.blocks]at this;exact mW▸this⟩
 have RR:∀ q,q<8->mP (pl3.getD q []) v.blocks:=by
  have afA:∀ n,S1 n\/S2 n->1<=n/\n<v.blocks:=by
   intro n hn;refine⟨?_,(zo n hn).2⟩;rcases hn with hn|hn
   ·exact(l1.lt n hn).1
   ·exact(st2.lt hn).1
  intro q h8;by_cases h0:q=0
  ·subst h0;rw[Fs];refine⟨iW _ _ _,fun n hn=>?_⟩;rw[jL,jL,gJ,Bool.or_false,auV,rG,yq]at hn;rcases hn with(hn|hn)|hn
   ·exact afA n hn
   ·exact⟨(Tj.lt hn).1,by have:=(p3 n hn).2;rw[uX]at this;exact this⟩
   ·exact I7 n hn
  ·rw[yg q (by omega) h8];split
   ·refine⟨iW _ _ _,fun n hn=>?_⟩;rw[jL,gJ,Bool.or_false,yq]at hn;exact afA n hn
   ·rcases Ko q h8 (by omega)with e|e
    ·rw[e];exact⟨(h.planes q h8).1,fun n hn=>(h.planes q h8).2 n hn⟩
    ·rw[e];exact⟨by simp[ga],fun n hn=>by cases hn⟩
 have F1:inos.length<=60:=by have:=l1.len;have:=h.told.many;omega
 have F2:l2.length<=8:=by have:=AM.many;omega
 have F3:aS v.blocks<=t3.pool.left:=by unfold bM at uG;omega
 have F4:c1<=p.left:=by omega
 subst Cn Ja B9 Vy Fo lA hx sZ;exact⟨⟨inos,set,t1,table,t2,set1,snaps,t3,set2,p4,mapped,t5⟩,
  { lay:=⟨cI v.b.nodes,_,A,hUA,hp,rfl,fun _ h=>h,fun x hx=>by
     obtain⟨bh,C,h1,h2,h3⟩:=hA.find x.num;exact⟨h.told.data x hx,C,by rw[<-h3];exact h1,h2⟩,by rw[AB];exact F4⟩
    e1:=e1,inok:=U2 l1 h.told.toNodesOk,inlen:=⟨F1,aV.2⟩
    old2:=⟨_,_,Kq⟩,e2:=e2,new2:=⟨_,st2⟩,e3:=e3
    set1:=⟨ls2,fun n hn=>by
     have hn:=(yq n).1 hn;refine⟨?_,(zo n hn).2⟩;rcases hn with hn|hn
     ·exact(l1.lt n hn).1
     ·exact(st2.lt hn).1⟩
    snok:=U3 AM Kv,snlen:=⟨F2,AE.1⟩
    old4:=⟨_,_,Ts⟩,e4:=e4,new4:=⟨_,Tj⟩,e5:=e5,e6:=e6
    pools:=⟨g1.ok,g2.ok,g3.ok,g4.ok⟩
    blocks:=⟨g1.blocks.trans mW,G2.blocks.trans mW,uX,G4.blocks.trans mW⟩
    house:=F3
    pset:=⟨iW _ _ _,fun n hn=>by
     have h0:=(RR 0 (by decide)).range n;rw[Fs,jL,gJ,Bool.or_false]at h0;exact h0 hn⟩
    e7:=e7,new7:=⟨_,st5⟩,planes:=RR,eight:=KB }⟩
end
end Go.Proofs.YtkghpdcloaiflaaGreatDoor
