import Derived.Test.YtkghpdcloaiflaaGreatDoorD28
set_option maxHeartbeats 2000000
namespace Go.Proofs.YtkghpdcloaiflaaGreatDoor
open _root_.Go.Proofs.Tryz
theorem mP {l:List ay}{i j:Nat}{s:ay}(hi:i<l.length):(l.set i s).getD j []=if j=i then s else l.getD j []:=by
 rw[List.getD,List.getElem?_set];by_cases h:i=j
 ·subst h;simp[hi]
 ·rw[auV h,auV (Ne.symm h)];rfl
theorem ur {v:Vs}{list:List Sn}{more:ay}(h:mN v)(hm:fL v list more):∃ u,J5 v list more u:=by
 obtain⟨A,B,Ss,tR,yf,kv,hA,hB,Ff,hSs,Xp,Jh,WI,Sc,XS⟩:=h.here;obtain⟨S,OK⟩:∃ S:Nat->Prop,∀ n,S n↔A n\/B n:=⟨fun n=>A n\/B n,fun _=>Iff.rfl⟩
 simp only[<-OK]at Jh WI;have lY:=h.room;have yY:=h.many;obtain⟨p,sS⟩:∃ p,gA (cW v.b.planes) v.blocks v.b.next=p:=⟨_,rfl⟩
 have hp:cG p:=sS▸so h.next.1 h.next.2 yY.2;have hpu:p.used=cW v.b.planes:=by rw[<-sS];rfl
 have OI:p.taken=[]:=by rw[<-sS];rfl
 have mY:p.blocks=v.blocks:=by rw[<-sS];rfl
 have j8:p.left=dt v:=by rw[<-sS];rfl
 have hU:∀ q n,q<8->ai (v.b.planes.getD q []) n=true->ai p.used n=true/\n<p.blocks:=by
  intro q n hq hn;rw[hpu,mY];exact⟨(pp h.eight n).2 ⟨q,hq,hn⟩,((h.planes q hq).2 n hn).2⟩
 have Z7:∀ n,S n->ai p.used n=true/\n<p.blocks:=fun n hn=>hU 0 n (by decide) ((Jh n).2 (.inl hn));have hUA:∀ n,A n->ai p.used n=true/\n<p.blocks:=fun n hn=>Z7 n ((OK n).2 (.inl hn));have hUB:∀ n,B n->ai p.used n=true/\n<p.blocks:=fun n hn=>Z7 n ((OK n).2 (.inr hn));have zo:∀ n,Ss n->ai p.used n=true/\n<p.blocks:=fun n hn=>hU 0 n (by decide) ((Jh n).2 (.inr (.inl hn)));have hUo:∀ n,ai tR n=true->ai p.used n=true/\n<p.blocks:=fun n hn=>hU 0 n (by decide) ((Jh n).2 (.inr (.inr hn)));obtain⟨tb,I4⟩:∃ tb,(if ar v.T=v.b.nodes then 0 else aT (2+12*(ar v.T).length))=tb:=⟨_,rfl⟩
 obtain⟨c1,AI⟩:∃ c1,((ar v.T).map fun x=>dd (cH v.b.nodes x.num) x.data).sum=c1:=⟨_,rfl⟩
 have uF:bK v+1+c1+tb<=p.left:=by
  rw[j8];unfold bG at lY;rw[AI,I4]at lY;exact lY
 obtain⟨inos,set,t1,S1,e1,l1,g1,p1,q1,ls1,sT,k1⟩:=xy v.b.inodes (cH v.b.nodes) p A hUA (ar v.T) [] ⟨v.rd,p⟩ hp rfl (fun _ h=>h)
  (fun x hx=>by
   obtain⟨br,C,h1,h2,h3⟩:=hA.find x.num;exact⟨h.told.data x hx,C,by rw[<-h3];exact h1,h2⟩) (by rw[AI];show c1<=p.left;omega) (by simp[ga])
 rw[AI]at g1;have KL:aR t1.rd (yf) v.b.table B:=hB.turn fun n hn=>g1.keepRd (hUB n hn).1;have aW:=Eo l1 h.told.tokp;have Cm:dd (yf) (kh inos)<=tb:=by
  by_cases he:ar v.T=v.b.nodes
  ·have:=(k1 fun x hx=>by rw[he]at hx;exact pn h.nodes.nums x hx).1;rw[this,Ff he,he,tA hA h.nodes.nums,kY _ (by rw[<-Ff he];exact hB.1)];exact avw _
  ·rw[auV he]at I4;rw[<-I4];exact auI (gD _ _) (wB aW.1 (by have:=h.told.many;omega))
 obtain⟨c2,Jk⟩:∃ c2,dd (yf) (kh inos)=c2:=⟨_,rfl⟩
 rw[Jk]at Cm;have aaz:t1.pool.left+c1=p.left:=g1.left;obtain⟨table,t2,S2,e2,st2,g2,p2,q2,_⟩:=eK (data:=kh inos) g1.ok KL (jj.grow (t:=⟨v.rd,p⟩) hUB g1) (by omega) (by rw[Jk];omega);rw[Jk]at g2;obtain⟨set1,e3,ls2,jv⟩:=st2.reached set;have ZT:t2.pool.left+c2=t1.pool.left:=g2.left;have G2:dr ⟨v.rd,p⟩ t2 (c1+c2):=g1.trans g2;have yB:∀ n,ai set1 n=true↔S1 n\/S2 n:=fun n=>by rw[jv,sT];simp[gI]
 obtain⟨x,hx⟩:∃ x:Sn,(⟨more,v.b.id,aX list,table⟩:Sn)=x:=⟨_,rfl⟩
 obtain⟨l2,lw⟩:∃ l2,(if more=[]then list else list++[x])=l2:=⟨_,rfl⟩
 have uT:=uo h.list hm.sub;have AA:ju l2 (if more=[]then v.b.id else v.b.id+1):=by
  rcases hm.more with h0|⟨a1,a2,a3,a4,a5⟩
  ·rw[auT h0]at lw ⊢;rw[<-lw];exact uT
  ·by_cases h0:more=[]
   ·rw[auT h0]at lw ⊢;rw[<-lw];exact uT
   ·rw[auV h0]at lw ⊢;rw[<-lw,<-hx];exact uq uT a4 a1 a2 a3 a5
 have BW:∀ y∈l2,y∈list\/(y=x/\more≠[]):=by
  intro y hy;by_cases h0:more=[]
  ·rw[auT h0]at lw;rw[<-lw]at hy;exact .inl hy
  ·rw[auV h0]at lw;rw[<-lw]at hy;rcases avP.1 hy with hy|hy
   ·exact .inl hy
   ·simp at hy;exact .inr ⟨hy,h0⟩
 have I6:∀ y∈v.b.list,y.table.ok=true:=by
  intro y hy;obtain⟨_,_,_,C,D,_,hD,_⟩:=h.snaps y hy;exact hD.may
 have Km:∀ y∈l2,y.table.ok=true:=by
  intro y hy;rcases BW y hy with hy|⟨rfl,_⟩
  ·exact I6 y (hm.sub.subset hy)
  ·rw[<-hx];exact st2.may
 have AE:=xB AA Km;have SM:aR t2.rd (kv) v.b.snaps Ss:=hSs.turn fun n hn=>G2.keepRd (zo n hn).1;obtain⟨c3,FA⟩:∃ c3,dd (kv) (kj l2)=c3:=⟨_,rfl⟩
 have hc3:c3<=1:=by rw[<-FA];exact auI (gD _ _) (mO AE.1)
 obtain⟨snaps,t3,S3,e4,Sw,g3,p3,q3,k3⟩:=eK (data:=kj l2) g2.ok SM (jj.grow (t:=⟨v.rd,p⟩) zo G2) (by omega) (by rw[FA];omega);rw[FA]at g3;have aax:t3.pool.left+c3=t2.pool.left:=g3.left;obtain⟨set2,e5,ls3,qe⟩:=Sw.reached set1;have G3:dr ⟨v.rd,p⟩ t3 (c1+c2+c3):=G2.trans g3;have uS:t3.pool.blocks=v.blocks:=G3.blocks.trans mY;obtain⟨p4,e6,g4⟩:=xz t3.rd (aT v.blocks) t3.pool G3.ok (by unfold bK at uF;omega);have aaH:p4.left+aT v.blocks=t3.pool.left:=g4.left;have G4:dr ⟨v.rd,p⟩ ⟨t3.rd,p4⟩ (c1+c2+c3+aT v.blocks):=G3.trans (b:=t3) g4;obtain⟨own,FC⟩:∃ own,bZ p4.taken t3.pool.taken=own:=⟨_,rfl⟩
 have qw:∀ n,ai own n=(ai p4.used n&&!ai t3.pool.used n):=by
  intro n;have a1:=g4.taken n;rw[<-FC,mw];simp only at a1;rw[a1];have a2:=G3.taken n;simp only[OI,gI,Bool.false_or]at a2;rw[a2]
  cases ai t3.pool.used n<;>cases ai p.used n<;>simp
 have KD:jX (ai own) v.blocks=aT v.blocks:=by
  have:=En g4 G3.ok;simp only[uS]at this;rw[<-this];exact jk fun n _ _=>qw n
 have IW:∀ n,ai own n=true->1<=n/\n<v.blocks:=by
  intro n hn;rw[qw,au4,Bool.not_eq_true']at hn;have:=g4.news n hn.1 hn.2;simp only[uS]at this;exact this
 obtain⟨q,Wv⟩:∃ q,gA (bZ (iN (List.range v.blocks)) own) v.blocks t3.pool.next=q:=⟨_,rfl⟩
 have Sj:cG q:=by
  have:=G3.ok;rw[<-Wv];exact so this.lo (by rw[<-uS];exact this.hi) yY.2
 have Yx:∀ n,ai q.used n=(decide (n<v.blocks)&&!ai own n):=by
  intro n;rw[<-Wv];show ai (bZ (iN (List.range v.blocks)) own) n=_;rw[mw,vH];simp
 have OW:q.blocks=v.blocks:=by rw[<-Wv];rfl
 have hql:q.left=aT v.blocks:=by
  rw[Sj.left,mM,OW,<-KD];refine jk fun n _ hn=>?_;rw[Yx];simp[hn]
 obtain⟨F0,BK⟩:∃ pl,kX v.b.planes list=pl:=⟨_,rfl⟩
 obtain⟨pl2,I0⟩:∃ pl,(if more=[]then F0 else F0.set (aX list) (eG set1 []))=pl:=⟨_,rfl⟩
 obtain⟨pl3,Ci⟩:∃ pl,pl2.set 0 (eG (eG set2 own) [])=pl:=⟨_,rfl⟩
 have To:F0.length=8:=by rw[<-BK];simp[kX]
 have RW:pl2.length=8:=by rw[<-I0];split<;>simp[To]
 have Kp:pl3.length=8:=by rw[<-Ci];simp[RW]
 have Fp:pl3.getD 0 []=eG (eG set2 own) []:=by rw[<-Ci,mP (by omega),auT rfl]
 have yA:∀ r,1<=r->r<8->pl3.getD r []=if more≠[]/\r=aX list then eG set1 []else F0.getD r []:=by
  intro r h1 h8;rw[<-Ci,mP (by omega),auV (by omega),<-I0];by_cases h0:more=[]
  ·rw[auT h0,auV (fun h=>h.1 h0)]
  ·rw[auV h0];have sH:aX list<8:=by
    rcases hm.more with h'|⟨_,_,_,a4,_⟩
    ·exact absurd h' h0
    ·have:=eh a4;omega
   rw[mP (by omega)];by_cases hr:r=aX list
   ·rw[auT hr,auT ⟨h0,hr⟩]
   ·rw[auV hr,auV (fun h=>hr h.2)]
 have Kl:∀ r,r<8->1<=r->F0.getD r []=v.b.planes.getD r []\/F0.getD r []=[]:=by
  intro r h8 h1;rw[<-BK,nL _ _ _ h8];split
  ·exact .inl rfl
  ·exact .inr rfl
 obtain⟨mapped,t5,S5,e7,st5,g5,p5,q5,_⟩:=eK (t:=⟨t3.rd,q⟩) Sj (jg t3.rd) (fun _ h=>h.elim) (data:=ik pl3 v.blocks) (by rw[pk];omega) (by
  have:=gD [] (ik pl3 v.blocks);rw[pk]at this;show _<=q.left;omega)
 have ZX:∀ n:Nat,ai own n=false->t5.rd n=t3.rd n:=by
  intro n hn;refine g5.rd n fun m hme=>?_;obtain rfl:n=m:=by omega
  by_cases aK:n<v.blocks
  ·left;show ai q.used n=true;rw[Yx,hn];simp[aK]
  ·right
   cases hu:ai t5.pool.used n with
   |false=>rfl
   |true=>
    have:=g5.news n hu (by show ai q.used n=false;rw[Yx];simp[aK]);have h2:n<q.blocks:=this.2;omega
 have Fb:∀ n:Nat,ai t3.pool.used n=true->t5.rd n=t3.rd n:=fun n hn=>ZX n (by rw[qw,hn];simp);have aaR:∀ n:Nat,ai p.used n=true->t5.rd n=v.rd n:=fun n hn=>(Fb n (G3.used n hn)).trans (G3.keepRd hn);have aeJ:∀ n:Nat,ai t1.pool.used n=true->t5.rd n=t1.rd n:=fun n hn=>(Fb n (g3.used n (g2.used n hn))).trans (((g2.trans g3).keepRd hn));have SV:∀ n:Nat,ai t2.pool.used n=true->t5.rd n=t2.rd n:=fun n hn=>(Fb n (g3.used n hn)).trans (g3.keepRd hn);have zj:∀ n,S1 n\/S2 n->ai t2.pool.used n=true/\n<v.blocks:=by
  intro n hn;rcases hn with hn|hn
  ·have:=p1.grow g2 n hn;exact⟨this.1,by have:=this.2;rw[G2.blocks]at this;exact mY▸this⟩
  ·have:=p2 n hn;exact⟨this.1,by have:=this.2;rw[G2.blocks]at this;exact mY▸this⟩
 obtain⟨u,hu⟩:∃ u:Vs,u={ v with rd:=t5.rd,num:=v.num+1,recs:=[],b:=⟨table,snaps,mapped,p4.next,if more=[]then v.b.id else v.b.id+1,inos,l2,pl3,ar v.T⟩ }:=⟨_,rfl⟩
 have bh:bC v list more=.ok u:=by
  unfold bC;simp only[sS,e1,e2,e3,hx,lw,BK,I0,e4,e5,e6,FC,Ci,Wv,e7,bind,Except.bind];rw[hu]
 have Z0:u.b.planes=pl3:=by rw[hu]
 have huB:u.blocks=v.blocks:=by rw[hu]
 have kw:j5 t5.rd inos (ar v.T) table (fun n=>S1 n\/S2 n):=
  ⟨S1,S2,l1.turn fun n hn=>aeJ n (p1 n hn).1,st2.turn fun n hn=>SV n (p2 n hn).1,fun n=>Iff.rfl⟩
 have hold:∀ y∈list,∀ inos nodes C,j5 v.rd inos nodes y.table C->(∀ n,C n->ai (v.b.planes.getD y.plane.toNat []) n=true)->j5 t5.rd inos nodes y.table C:=by
  intro y hy inos nodes C hC hCn;have:=uT.plane y hy;exact hC.turn fun n hn=>aaR n (hU y.plane.toNat n (by omega) (hCn n hn)).1
 have Yd:∀ y∈list,u.b.planes.getD y.plane.toNat []=v.b.planes.getD y.plane.toNat []:=by
  intro y hy;have j8:=uT.plane y hy;rw[Z0,yA _ (by omega) (by omega),auV,<-BK,nL _ _ _ (by omega),auT]
  ·right
   rw[List.any_eq_true];exact⟨y,hy,by simp;omega⟩
  ·rintro⟨h0,he⟩;rcases hm.more with h'|⟨_,_,_,a4,_⟩
   ·exact absurd h' h0
   ·exact(eh a4).2.2 y hy (by omega)
 have SK:∀ r n,1<=r->r<8->ai (pl3.getD r []) n=true->ai t2.pool.used n=true/\n<v.blocks/\((S1 n\/S2 n)\/ai (v.b.planes.getD r []) n=true):=by
  intro r n h1 h8 hn;rw[yA r h1 h8]at hn;split at hn
  ·rw[jN,gI,Bool.or_false,yB]at hn;exact⟨(zj n hn).1,(zj n hn).2,.inl hn⟩
  ·rcases Kl r h8 h1 with e|e
   ·rw[e]at hn;have:=hU r n h8 hn;exact⟨G2.used n this.1,mY▸this.2,.inr hn⟩
   ·rw[e]at hn;cases hn
 have hP0:∀ n,ai (pl3.getD 0 []) n=true↔(S1 n\/S2 n)\/S3 n\/ai own n=true:=by
  intro n;rw[Fp,jN,jN,gI,Bool.or_false,au6,qe,yB,or_assoc]
 have Ww:∀ n,S3 n->ai t3.pool.used n=true/\n<v.blocks:=by
  intro n hn;have:=p3 n hn;exact⟨this.1,by have:=this.2;rw[uS]at this;exact this⟩
 have Sp:∀ n,Ss n\/ai tR n=true->¬(S1 n\/S2 n)/\∀ r,1<=r->r<8->ai (pl3.getD r []) n=false:=by
  intro n hn;obtain⟨d1,d2⟩:=WI n hn;have hnu:ai p.used n=true:=by
   rcases hn with hn|hn
   ·exact(zo n hn).1
   ·exact(hUo n hn).1
  have hS:¬(S1 n\/S2 n):=by
   rintro(h1|h1)
   ·rcases q1 n h1 with h2|h2
    ·exact d1 ((OK n).2 (.inl h2))
    ·rw[hnu]at h2;cases h2
   ·rcases q2 n h1 with h2|h2
    ·exact d1 ((OK n).2 (.inr h2))
    ·rw[g1.used n hnu]at h2;cases h2
  refine⟨hS,fun r h1 h8=>?_⟩
  cases hb:ai (pl3.getD r []) n with
  |false=>rfl
  |true=>
   rcases(SK r n h1 h8 hb).2.2 with h2|h2
   ·exact absurd h2 hS
   ·rw[d2 r h1 h8]at h2;cases h2
 have qz:bK u+1<=dt u:=by
  obtain⟨n0,Jd⟩:∃ n0,0<kv.length->Ss n0:=by
   by_cases h0:0<kv.length
   ·obtain⟨n0,Jd⟩:=hSs.any h0;exact⟨n0,fun _=>Jd⟩
   ·exact⟨0,fun h=>absurd h h0⟩
  have TA:=QL (a:=fun n=>!ai p4.used n) (b:=ai tR) (c:=fun n=>decide (kv≠kj l2/\0<kv.length)&&n==n0) (d:=fun n=>!ai (cW pl3) n) (blocks:=v.blocks) (by
   intro n h1 h2;have key:ai (cW pl3) n=true->ai p4.used n=true/\ai tR n=false/\¬((kv≠kj l2/\0<kv.length)/\n=n0):=by
    intro hn;obtain⟨r,h8,hr⟩:=(pp Kp n).1 hn;by_cases YG:r=0
    ·subst YG;rcases(hP0 n).1 hr with h3|h3|h3
     ·refine⟨g4.used n (g3.used n (zj n h3).1),?_,?_⟩
      ·cases ho:ai tR n with
       |false=>rfl
       |true=>exact absurd h3 (Sp n (.inr ho)).1
      ·rintro⟨⟨_,hz⟩,rfl⟩;exact(Sp n (.inl (Jd hz))).1 h3
     ·refine⟨g4.used n (Ww n h3).1,?_,?_⟩
      ·cases ho:ai tR n with
       |false=>rfl
       |true=>
        rcases q3 n h3 with h5|h5
        ·rw[Sc n h5]at ho;cases ho
        ·rw[G2.used n (hUo n ho).1]at h5;cases h5
      ·rintro⟨⟨dZ,hz⟩,rfl⟩;have:=Mu g2.ok SM AE.1 AE.2 Xp dZ (by unfold bK at uF;omega) e4 Sw n h3;rw[G2.used n (zo n (Jd hz)).1]at this;cases this
     ·rw[qw,au4,Bool.not_eq_true']at h3;refine⟨h3.1,?_,?_⟩
      ·cases ho:ai tR n with
       |false=>rfl
       |true=>rw[G3.used n (hUo n ho).1]at h3;cases h3.2
      ·rintro⟨⟨_,hz⟩,rfl⟩;rw[G3.used n (zo n (Jd hz)).1]at h3;cases h3.2
    ·have h5:=SK r n (by omega) h8 hr;refine⟨g4.used n (g3.used n h5.1),?_,?_⟩
     ·cases ho:ai tR n with
      |false=>rfl
      |true=>rw[(Sp n (.inr ho)).2 r (by omega) h8]at hr;cases hr
     ·rintro⟨⟨_,hz⟩,rfl⟩;rw[(Sp n (.inl (Jd hz))).2 r (by omega) h8]at hr;cases hr
   have k1:ai tR n=true->ai p4.used n=true:=fun h=>g4.used n (G3.used n (hUo n h).1);have k2:0<kv.length->n=n0->ai p4.used n=true/\ai tR n=false:=fun hz h=>by subst h;exact⟨g4.used n (G3.used n (zo n (Jd hz)).1),Sc n (Jd hz)⟩
   by_cases he:(kv≠kj l2/\0<kv.length)/\n=n0
   ·obtain⟨a1,a2⟩:=k2 he.1.2 he.2;obtain⟨a3,rfl⟩:=he;simp only[a1,a2,a3,Bool.not_true,beq_self_eq_true,Bool.and_true,Bool.false_eq_true,if_false]
    cases hd:ai (cW pl3) n with
    |false=>simp;split<;>omega
    |true=>exact absurd ⟨a3,rfl⟩ (key hd).2.2
   ·have:(decide (kv≠kj l2/\0<kv.length)&&n==n0)=false:=by
     rw[Bool.eq_false_iff];intro hx;simp only[au4,au9,avq]at hx;exact he hx
    simp only[this,Bool.false_eq_true,if_false]
    cases hd:ai (cW pl3) n with
    |true=>
     obtain⟨a1,a2,_⟩:=key hd;simp[a1,a2]
    |false=>
     cases ho:ai tR n with
     |false=>cases ai p4.used n<;>simp
     |true=>simp[k1 ho])
  rw[<-mM,<-mM]at TA;have hl4:p4.left=kV p4.used v.blocks:=by
   have:=g4.ok.left;rw[show p4.blocks=v.blocks from g4.blocks.trans uS]at this;exact this
  have hfu:dt u=kV (cW pl3) v.blocks:=by rw[hu];rfl
  have hhu:bK u=bK v:=by rw[hu];rfl
  rw[<-hl4]at TA;have hhv:bK v=aT v.blocks:=rfl;rcases XS with⟨aZ,hz⟩|hbig
  ·rw[aZ]at TA;by_cases he:kv=kj l2
   ·have:c3=0:=by rw[<-FA,he,kY _ (by omega)]
    rw[hfu,hhu];omega
   ·have:1<=jX (fun n=>decide (kv≠kj l2/\0<kv.length)&&n==n0) v.blocks:=by
     have h5:=zo n0 (Jd hz);exact QM (n:=n0) (hSs.lt (Jd hz)).1 (mY▸h5.2) (by simp[he,hz])
    rw[hfu,hhu];omega
  ·unfold bG at hbig;rw[AI,I4]at hbig;rw[hfu,hhu];omega
 have Xs:∀ y∈list,∀ nodes,qW v y nodes->qW u y nodes:=by
  rintro y hy nodes ⟨Wm,KN,hT'⟩;refine⟨Wm,KN,?_⟩;rw[Yd y hy,show u.rd=t5.rd by rw[hu]];exact hold y hy KN nodes _ hT' fun _ h=>h
 have Jo:more≠[]->iH (ar v.T)/\j5 u.rd inos (ar v.T) x.table (fun n=>ai (u.b.planes.getD x.plane.toNat []) n=true):=by
  intro h0;refine⟨h.told,?_⟩;rw[show u.rd=t5.rd by rw[hu]];rcases hm.more with h'|⟨_,_,_,a4,_⟩
  ·exact absurd h' h0
  ·have sH:=eh a4;rw[<-hx];refine kw.iff fun n=>?_;rw[Z0];simp only[avn];rw[yA _ sH.1 (by omega),auT ⟨h0,rfl⟩,jN,gI,Bool.or_false,yB]
 have afv:jY u:=by
  have huN:u.b.nodes=ar v.T:=by rw[hu]
  have huT:u.T=v.T:=by rw[hu]
  refine⟨by rw[huB];exact yY,?_,by rw[Z0];exact Kp,?_,?_,?_,?_,?_,by rw[huN];exact h.told.tokp,by rw[huT];exact h.told,?_⟩
  ·rw[huB,show u.b.next=p4.next by rw[hu]];have:=g4.ok;exact⟨this.lo,by have h6:=this.hi;rwa [show p4.blocks=v.blocks from g4.blocks.trans uS]at h6⟩
  ·intro r h8;rw[Z0,huB];by_cases hr:r=0
   ·subst hr;refine⟨by rw[Fp];exact iU _ _ _,fun n hn=>?_⟩;rcases(hP0 n).1 hn with(h3|h3)|h3|h3
    ·exact⟨(l1.lt n h3).1,(zj n (.inl h3)).2⟩
    ·exact⟨(st2.lt h3).1,(zj n (.inr h3)).2⟩
    ·exact⟨(Sw.lt h3).1,(Ww n h3).2⟩
    ·exact IW n h3
   ·refine⟨?_,fun n hn=>?_⟩
    ·rw[yA r (by omega) h8];split
     ·exact iU _ _ _
     ·rcases Kl r h8 (by omega)with e|e
      ·rw[e];exact(h.planes r h8).1
      ·rw[e];simp[ga]
    ·obtain⟨_,h3,h4⟩:=SK r n (by omega) h8 hn;rcases h4 with(h5|h5)|h5
     ·exact⟨(l1.lt n h5).1,h3⟩
     ·exact⟨(st2.lt h5).1,h3⟩
     ·exact⟨((h.planes r h8).2 n h5).1,h3⟩
  ·rw[show u.b.list=l2 by rw[hu],show u.b.id=if more=[]then v.b.id else v.b.id+1 by rw[hu]];exact AA
  ·intro r h1 h8 hr;rw[show u.b.list=l2 by rw[hu]]at hr;rw[Z0,yA r h1 h8,auV,<-BK,nL _ _ _ h8,auV]
   ·rintro(h3|h3)
    ·omega
    ·obtain⟨y,hy,he⟩:=List.any_eq_true.1 h3;have hyl:y∈l2:=by
      rw[<-lw];split
      ·exact hy
      ·exact List.mem_append_left _ hy
     exact hr y hyl (by simpa using he)
   ·rintro⟨h0,he⟩;have R5:x∈l2:=by rw[<-lw,auV h0];simp
    exact hr x R5 (by rw[<-hx,he])
  ·intro y hy;rw[show u.b.list=l2 by rw[hu]]at hy;rcases BW y hy with hy|⟨rfl,h0⟩
   ·obtain⟨KN,Tc,Wm,hT'⟩:=h.snaps y (hm.sub.subset hy);obtain⟨_,ac6,hT2⟩:=Xs y hy Tc ⟨Wm,KN,hT'⟩;exact⟨ac6,Tc,Wm,hT2⟩
   ·exact⟨inos,ar v.T,h.told,(Jo h0).2⟩
  ·refine⟨fun n=>S1 n\/S2 n,S3,S5,own,?_,?_,?_,?_,?_,?_,?_,?_⟩
   ·rw[hu];exact kw
   ·rw[hu];exact Sw.turn fun n hn=>Fb n (Ww n hn).1
   ·rw[hu];exact st5
   ·intro n hn;rcases q5 n hn with h3|h3
    ·exact h3.elim
    ·have h4:ai q.used n=false:=h3;have h5:=(p5 n hn).2;rw[g5.blocks]at h5;have h6:n<v.blocks:=by have h7:n<q.blocks:=h5;omega
     rw[Yx]at h4;simpa[h6]using h4
   ·rw[Z0];exact hP0
   ·rw[huB];exact KD
   ·intro n hn;rw[Z0];rcases hn with hn|hn
    ·rcases q3 n hn with h3|h3
     ·exact Sp n (.inl h3)
     ·refine⟨fun h4=>?_,fun r h1 h8=>?_⟩
      ·rw[(zj n h4).1]at h3;cases h3
      ·cases hb:ai (pl3.getD r []) n with
       |false=>rfl
       |true=>rw[(SK r n h1 h8 hb).1]at h3;cases h3
    ·rw[qw,au4,Bool.not_eq_true']at hn;refine⟨fun h4=>?_,fun r h1 h8=>?_⟩
     ·rw[g3.used n (zj n h4).1]at hn;cases hn.2
     ·cases hb:ai (pl3.getD r []) n with
      |false=>rfl
      |true=>rw[g3.used n (SK r n h1 h8 hb).1]at hn;cases hn.2
   ·intro n hn;rw[qw,(Ww n hn).1];simp
  ·rw[Ah (by rw[huN,huT]) (by rw[huT];exact h.told.tokp)];exact qz
 exact⟨u,bh,afv,huB,by rw[hu],by rw[hu],by rw[hu],by rw[hu],by rw[hu],by rw[hu],⟨x,by rw[<-hx],by rw[<-hx],by rw[<-hx,hu],by rw[hu];exact lw.symm,fun h0=>⟨(Jo h0).1,inos,(Jo h0).2⟩⟩,Xs,Ah (by rw[hu]) (by rw[hu];exact h.told.tokp),fun y hy=>⟨Yd y hy,fun n hn=>by rw[show u.rd=t5.rd by rw[hu]];exact aaR n (hU y.plane.toNat n (by have:=uT.plane y hy;omega) hn).1⟩⟩
theorem xC {v:Vs}{list:List Sn}{more:ay}(h:jY v)(hm:fL v list more):∃ u,J5 v list more u:=ur h.ready hm
section
theorem pY {s:ay}{k:Nat}(h:ga s)(hn:∀ n,ai s n=true->n<8*k):s.length<=k:=by
 rcases List.eq_nil_or_concat s with rfl|⟨r,b,rfl⟩
 ·simp
 ·have hb:b≠0:=by intro e;subst e;exact h (by simp)
  obtain⟨j,hj,ajU⟩:=CQ hb;have:=hn (8*r.length+j) (by rw[dY hj];simpa using ajU);simp;omega
structure qX (was:List fC)(br:Int->ay)(U:Pl)(mV:Nat->Prop)(r:List Nt)(t:gJ):Prop where
 all:∀ n,mV n->ai U.used n=true/\n<U.blocks
 ok:cG t.pool
 blocks:t.pool.blocks=U.blocks
 used:∀ n,ai U.used n=true->ai t.pool.used n=true
 each:∀ x∈r,x.data.length<=16384/\∃ A,aR t.rd (br x.num) (eg was x.num) A/\∀ n,A n->mV n
 cost:(r.map fun x=>dd (br x.num) x.data).sum<=t.pool.left
theorem qX.step {was:List fC}{br:Int->ay}{U:Pl}{mV:Nat->Prop}{x:Nt}{r:List Nt}{t:gJ}(h:qX was br U mV (x::r) t)(set:ay):
  ∃ b t1 s,dK t (eg was x.num) x.data=.ok (b,t1)/\dO t1.rd set b=.ok s/\(∃ S,aR t1.rd x.data b S)/\(∃ br S,aR t.rd br (eg was x.num) S)/\qX was br U mV r t1:=by
 have hc:=h.cost;rw[auJ,auK]at hc;obtain⟨hx,A,hA,hAs⟩:=h.each x (by simp);have hAp:jj t.pool A:=fun n hn=>⟨h.used n (h.all n (hAs n hn)).1,by rw[h.blocks];exact(h.all n (hAs n hn)).2⟩
 obtain⟨b,t1,S1,e1,h1,g1,p1,q1,k1⟩:=eK h.ok hA hAp hx (by omega);obtain⟨s,e2,lw,h2⟩:=h1.reached set;exact⟨b,t1,s,e1,e2,⟨S1,h1⟩,⟨_,A,hA⟩,⟨h.all,g1.ok,g1.blocks.trans h.blocks,fun n hn=>g1.used n (h.used n hn),fun y hy=>by
   obtain⟨hy1,B,hB,hBs⟩:=h.each y (by simp[hy]);exact⟨hy1,B,hB.turn fun n hn=>g1.keepRd (h.used n (h.all n (hBs n hn)).1),hBs⟩,by have:=g1.left;omega⟩⟩
structure gg where
 inos:List fC
 set:ay
 t1:gJ
 table:fQ
 t2:gJ
 set1:ay
 snaps:fQ
 t3:gJ
 set2:ay
 p4:Pl
 mapped:fQ
 t5:gJ
section
variable (r:gg)(v:Vs)(list:List Sn)(more:ay)
def gg.x:Sn:=⟨more,v.b.id,aX list,r.table⟩
def gg.l2:List Sn:=if more=[]then list else list++[r.x v list more]
def gg.pl2:List ay:=if more=[]then kX v.b.planes list else(kX v.b.planes list).set (aX list) (eG r.set1 [])
def gg.own:ay:=bZ r.p4.taken r.t3.pool.taken
def gg.pl3:List ay:=(r.pl2 v list more).set 0 (eG (eG r.set2 r.own) [])
def gg.q:Pl:=gA (bZ (iN (List.range v.blocks)) r.own) v.blocks r.t3.pool.next
def gg.out:Vs:={ v with rd:=r.t5.rd,num:=v.num+1,recs:=[],b:=⟨r.table,r.snaps,r.mapped,r.p4.next,if more=[]then v.b.id else v.b.id+1,r.inos,r.l2 v list more,r.pl3 v list more,ar v.T⟩ }
structure mQ (s:ay)(blocks:Nat):Prop where
 least:ga s
 range:∀ n,ai s n=true->1<=n/\n<blocks
structure Ep:Prop where
 lay:∃ br U mV,qX v.b.inodes br U mV (ar v.T) ⟨v.rd,gA (cW v.b.planes) v.blocks v.b.next⟩
 e1:mF v.b.inodes (ar v.T) [] ⟨v.rd,gA (cW v.b.planes) v.blocks v.b.next⟩=.ok (r.inos,r.set,r.t1)
 inok:qP r.inos=true
 inlen:r.inos.length<=60/\(kh r.inos).length<=722
 old2:∃ br S,aR r.t1.rd br v.b.table S
 e2:dK r.t1 v.b.table (kh r.inos)=.ok (r.table,r.t2)
 new2:∃ S,aR r.t2.rd (kh r.inos) r.table S
 e3:dO r.t2.rd r.set r.table=.ok r.set1
 set1:mQ r.set1 v.blocks
 snok:zJ (r.l2 v list more)=true
 snlen:(r.l2 v list more).length<=8/\(kj (r.l2 v list more)).length<=240
 old4:∃ br S,aR r.t2.rd br v.b.snaps S
 e4:dK r.t2 v.b.snaps (kj (r.l2 v list more))=.ok (r.snaps,r.t3)
 new4:∃ S,aR r.t3.rd (kj (r.l2 v list more)) r.snaps S
 e5:dO r.t3.rd r.set1 r.snaps=.ok r.set2
 e6:o8 (aT v.blocks) r.t3.pool=.ok r.p4
 pools:cG r.t1.pool/\cG r.t2.pool/\cG r.t3.pool/\cG r.p4
 blocks:r.t1.pool.blocks=v.blocks/\r.t2.pool.blocks=v.blocks/\r.t3.pool.blocks=v.blocks/\r.p4.blocks=v.blocks
 house:aT v.blocks<=r.t3.pool.left
 pset:mQ (eG r.set2 r.own) v.blocks
 e7:dK ⟨r.t3.rd,r.q v⟩ ⟨0,0⟩ (ik (r.pl3 v list more) v.blocks)=.ok (r.mapped,r.t5)
 new7:∃ S,aR r.t5.rd (ik (r.pl3 v list more) v.blocks) r.mapped S
 planes:∀ p,p<8->mQ ((r.pl3 v list more).getD p []) v.blocks
 eight:(r.pl3 v list more).length=8
end
theorem Ep.run {r:gg}{v:Vs}{list:List Sn}{more:ay}(h:Ep r v list more):bC v list more=.ok (r.out v list more):=by
 have e2:=h.e2;have e4:=h.e4;have e5:=h.e5;have e7:=h.e7;unfold gg.l2 gg.x at e4;unfold gg.q gg.pl3 gg.pl2 gg.own at e7;unfold bC;simp only[h.e1,h.e2,h.e3,e4,e5,h.e6,e7,bind,Except.bind];rfl
theorem Vf {rd:Rd}{inos:List fC}{nodes:List Nt}{S:Nat->Prop}(h:lC rd inos nodes S)(hn:kp nodes):qP inos=true:=by
 have key:∀ {was:Int} {inos:List fC} {nodes:List Nt} {S:Nat->Prop},lC rd inos nodes S->lW was nodes=true->(∀ x∈nodes,1<=x.links/\x.links<=3600)->yK was inos=true:=by
  intro was inos
  induction inos generalizing was with
  |nil=>intro nodes S _ _ _;rfl
  |cons y ys ih=>
   intro nodes S h h1 h2
   cases nodes with
   |nil=>exact h.elim
   |cons x xs=>
    obtain⟨⟨a1,a2,a3⟩,A,B,b1,b2,b3⟩:=h;simp only[lW,au4,au9]at h1;have h3:=h2 x (by simp);have:=ih (was:=y.num) b2 (by rw[a1];exact h1.2) fun z hz=>h2 z (by simp[hz]);simp only[yK,au4,au9];exact⟨⟨⟨⟨⟨by omega,by omega⟩,by omega⟩,by omega⟩,b1.may⟩,this⟩
 unfold qP;rw[key h hn.nums hn.links,Bool.and_true,au9];have:=h.len;have:=hn.many;omega
theorem Vg {l:List Sn}{id:Nat}(h:ju l id)(ht:∀ x∈l,x.table.ok=true):zJ l=true:=by
 have h1:∀ x∈l,0<x.id/\x.id<=1099511627776:=fun x hx=>by have:=h.idlo x hx;have:=h.top;omega
 have key:∀(l:List Sn) (was:Int),(∀ x∈l,was<x.id)->l.Pairwise (fun a b=>a.id<b.id)->(∀ x∈l,aG x.name=true/\1<=x.plane/\x.plane<=7/\x.table.ok=true/\x.id<=1099511627776)->TJ was l=true:=by
  intro l
  induction l with
  |nil=>intros;rfl
  |cons y ys ih=>
   intro was h1 h2 h3;obtain⟨h4,h5⟩:=avQ.1 h2;obtain⟨a1,a2,a3,a4,a5⟩:=h3 y (by simp);simp only[TJ,au4,au9];exact⟨⟨⟨⟨⟨⟨a1,h1 y (by simp)⟩,a5⟩,a2⟩,a3⟩,a4⟩,ih y.id h4 h5 fun x hx=>h3 x (by simp[hx])⟩
 unfold zJ;rw[key l 0 (fun x hx=>(h1 x hx).1) h.ids fun x hx=>⟨(h.name x hx).1,(h.plane x hx).1,(h.plane x hx).2,ht x hx,(h1 x hx).2⟩,Bool.and_true,au9];have:=h.many;omega
theorem Er {v:Vs}{list:List Sn}{more:ay}(h:mN v)(hm:fL v list more):∃ r:gg,Ep r v list more:=by
 obtain⟨A,B,Ss,tR,yf,kv,hA,hB,Ff,hSs,Xp,Jh,WI,Sc,XS⟩:=h.here;obtain⟨S,OK⟩:∃ S:Nat->Prop,∀ n,S n↔A n\/B n:=⟨fun n=>A n\/B n,fun _=>Iff.rfl⟩
 simp only[<-OK]at Jh WI;have lY:=h.room;have yY:=h.many;obtain⟨p,sS⟩:∃ p,gA (cW v.b.planes) v.blocks v.b.next=p:=⟨_,rfl⟩
 have hp:cG p:=sS▸so h.next.1 h.next.2 yY.2;have hpu:p.used=cW v.b.planes:=by rw[<-sS];rfl
 have OI:p.taken=[]:=by rw[<-sS];rfl
 have mY:p.blocks=v.blocks:=by rw[<-sS];rfl
 have j8:p.left=dt v:=by rw[<-sS];rfl
 have hU:∀ q n,q<8->ai (v.b.planes.getD q []) n=true->ai p.used n=true/\n<p.blocks:=by
  intro q n hq hn;rw[hpu,mY];exact⟨(pp h.eight n).2 ⟨q,hq,hn⟩,((h.planes q hq).2 n hn).2⟩
 have Z7:∀ n,S n->ai p.used n=true/\n<p.blocks:=fun n hn=>hU 0 n (by decide) ((Jh n).2 (.inl hn));have hUA:∀ n,A n->ai p.used n=true/\n<p.blocks:=fun n hn=>Z7 n ((OK n).2 (.inl hn));have hUB:∀ n,B n->ai p.used n=true/\n<p.blocks:=fun n hn=>Z7 n ((OK n).2 (.inr hn));have zo:∀ n,Ss n->ai p.used n=true/\n<p.blocks:=fun n hn=>hU 0 n (by decide) ((Jh n).2 (.inr (.inl hn)));have hUo:∀ n,ai tR n=true->ai p.used n=true/\n<p.blocks:=fun n hn=>hU 0 n (by decide) ((Jh n).2 (.inr (.inr hn)));obtain⟨tb,I4⟩:∃ tb,(if ar v.T=v.b.nodes then 0 else aT (2+12*(ar v.T).length))=tb:=⟨_,rfl⟩
 obtain⟨c1,AI⟩:∃ c1,((ar v.T).map fun x=>dd (cH v.b.nodes x.num) x.data).sum=c1:=⟨_,rfl⟩
 have uF:bK v+1+c1+tb<=p.left:=by
  rw[j8];unfold bG at lY;rw[AI,I4]at lY;exact lY
 obtain⟨inos,set,t1,S1,e1,l1,g1,p1,q1,ls1,sT,k1⟩:=xy v.b.inodes (cH v.b.nodes) p A hUA (ar v.T) [] ⟨v.rd,p⟩ hp rfl (fun _ h=>h)
  (fun x hx=>by
   obtain⟨br,C,h1,h2,h3⟩:=hA.find x.num;exact⟨h.told.data x hx,C,by rw[<-h3];exact h1,h2⟩) (by rw[AI];show c1<=p.left;omega) (by simp[ga])
 rw[AI]at g1;have KL:aR t1.rd (yf) v.b.table B:=hB.turn fun n hn=>g1.keepRd (hUB n hn).1;have aW:=Eo l1 h.told.tokp;have Cm:dd (yf) (kh inos)<=tb:=by
  by_cases he:ar v.T=v.b.nodes
  ·have:=(k1 fun x hx=>by rw[he]at hx;exact pn h.nodes.nums x hx).1;rw[this,Ff he,he,tA hA h.nodes.nums,kY _ (by rw[<-Ff he];exact hB.1)];exact avw _
  ·rw[auV he]at I4;rw[<-I4];exact auI (gD _ _) (wB aW.1 (by have:=h.told.many;omega))
 obtain⟨c2,Jk⟩:∃ c2,dd (yf) (kh inos)=c2:=⟨_,rfl⟩
 rw[Jk]at Cm;have aaz:t1.pool.left+c1=p.left:=g1.left;obtain⟨table,t2,S2,e2,st2,g2,p2,q2,_⟩:=eK (data:=kh inos) g1.ok KL (jj.grow (t:=⟨v.rd,p⟩) hUB g1) (by omega) (by rw[Jk];omega);rw[Jk]at g2;obtain⟨set1,e3,ls2,jv⟩:=st2.reached set;have ZT:t2.pool.left+c2=t1.pool.left:=g2.left;have G2:dr ⟨v.rd,p⟩ t2 (c1+c2):=g1.trans g2;have yB:∀ n,ai set1 n=true↔S1 n\/S2 n:=fun n=>by rw[jv,sT];simp[gI]
 obtain⟨x,hx⟩:∃ x:Sn,(⟨more,v.b.id,aX list,table⟩:Sn)=x:=⟨_,rfl⟩
 obtain⟨l2,lw⟩:∃ l2,(if more=[]then list else list++[x])=l2:=⟨_,rfl⟩
 have uT:=uo h.list hm.sub;have AA:ju l2 (if more=[]then v.b.id else v.b.id+1):=by
  rcases hm.more with h0|⟨a1,a2,a3,a4,a5⟩
  ·rw[auT h0]at lw ⊢;rw[<-lw];exact uT
  ·by_cases h0:more=[]
   ·rw[auT h0]at lw ⊢;rw[<-lw];exact uT
   ·rw[auV h0]at lw ⊢;rw[<-lw,<-hx];exact uq uT a4 a1 a2 a3 a5
 have BW:∀ y∈l2,y∈list\/(y=x/\more≠[]):=by
  intro y hy;by_cases h0:more=[]
  ·rw[auT h0]at lw;rw[<-lw]at hy;exact .inl hy
  ·rw[auV h0]at lw;rw[<-lw]at hy;rcases avP.1 hy with hy|hy
   ·exact .inl hy
   ·simp at hy;exact .inr ⟨hy,h0⟩
 have I6:∀ y∈v.b.list,y.table.ok=true:=by
  intro y hy;obtain⟨_,_,_,C,D,_,hD,_⟩:=h.snaps y hy;exact hD.may
 have Km:∀ y∈l2,y.table.ok=true:=by
  intro y hy;rcases BW y hy with hy|⟨rfl,_⟩
  ·exact I6 y (hm.sub.subset hy)
  ·rw[<-hx];exact st2.may
 have AE:=xB AA Km;have SM:aR t2.rd (kv) v.b.snaps Ss:=hSs.turn fun n hn=>G2.keepRd (zo n hn).1;obtain⟨c3,FA⟩:∃ c3,dd (kv) (kj l2)=c3:=⟨_,rfl⟩
 have hc3:c3<=1:=by rw[<-FA];exact auI (gD _ _) (mO AE.1)
 obtain⟨snaps,t3,S3,e4,Sw,g3,p3,q3,k3⟩:=eK (data:=kj l2) g2.ok SM (jj.grow (t:=⟨v.rd,p⟩) zo G2) (by omega) (by rw[FA];omega);rw[FA]at g3;have aax:t3.pool.left+c3=t2.pool.left:=g3.left;obtain⟨set2,e5,ls3,qe⟩:=Sw.reached set1;have G3:dr ⟨v.rd,p⟩ t3 (c1+c2+c3):=G2.trans g3;have uS:t3.pool.blocks=v.blocks:=G3.blocks.trans mY;obtain⟨p4,e6,g4⟩:=xz t3.rd (aT v.blocks) t3.pool G3.ok (by unfold bK at uF;omega);have aaH:p4.left+aT v.blocks=t3.pool.left:=g4.left;have G4:dr ⟨v.rd,p⟩ ⟨t3.rd,p4⟩ (c1+c2+c3+aT v.blocks):=G3.trans (b:=t3) g4;obtain⟨own,FC⟩:∃ own,bZ p4.taken t3.pool.taken=own:=⟨_,rfl⟩
 have qw:∀ n,ai own n=(ai p4.used n&&!ai t3.pool.used n):=by
  intro n;have a1:=g4.taken n;rw[<-FC,mw];simp only at a1;rw[a1];have a2:=G3.taken n;simp only[OI,gI,Bool.false_or]at a2;rw[a2]
  cases ai t3.pool.used n<;>cases ai p.used n<;>simp
 have KD:jX (ai own) v.blocks=aT v.blocks:=by
  have:=En g4 G3.ok;simp only[uS]at this;rw[<-this];exact jk fun n _ _=>qw n
 have IW:∀ n,ai own n=true->1<=n/\n<v.blocks:=by
  intro n hn;rw[qw,au4,Bool.not_eq_true']at hn;have:=g4.news n hn.1 hn.2;simp only[uS]at this;exact this
 obtain⟨q,Wv⟩:∃ q,gA (bZ (iN (List.range v.blocks)) own) v.blocks t3.pool.next=q:=⟨_,rfl⟩
 have Sj:cG q:=by
  have:=G3.ok;rw[<-Wv];exact so this.lo (by rw[<-uS];exact this.hi) yY.2
 have Yx:∀ n,ai q.used n=(decide (n<v.blocks)&&!ai own n):=by
  intro n;rw[<-Wv];show ai (bZ (iN (List.range v.blocks)) own) n=_;rw[mw,vH];simp
 have OW:q.blocks=v.blocks:=by rw[<-Wv];rfl
 have hql:q.left=aT v.blocks:=by
  rw[Sj.left,mM,OW,<-KD];refine jk fun n _ hn=>?_;rw[Yx];simp[hn]
 obtain⟨F0,BK⟩:∃ pl,kX v.b.planes list=pl:=⟨_,rfl⟩
 obtain⟨pl2,I0⟩:∃ pl,(if more=[]then F0 else F0.set (aX list) (eG set1 []))=pl:=⟨_,rfl⟩
 obtain⟨pl3,Ci⟩:∃ pl,pl2.set 0 (eG (eG set2 own) [])=pl:=⟨_,rfl⟩
 have To:F0.length=8:=by rw[<-BK];simp[kX]
 have RW:pl2.length=8:=by rw[<-I0];split<;>simp[To]
 have Kp:pl3.length=8:=by rw[<-Ci];simp[RW]
 have Fp:pl3.getD 0 []=eG (eG set2 own) []:=by rw[<-Ci,mP (by omega),auT rfl]
 have yA:∀ r,1<=r->r<8->pl3.getD r []=if more≠[]/\r=aX list then eG set1 []else F0.getD r []:=by
  intro r h1 h8;rw[<-Ci,mP (by omega),auV (by omega),<-I0];by_cases h0:more=[]
  ·rw[auT h0,auV (fun h=>h.1 h0)]
  ·rw[auV h0];have sH:aX list<8:=by
    rcases hm.more with h'|⟨_,_,_,a4,_⟩
    ·exact absurd h' h0
    ·have:=eh a4;omega
   rw[mP (by omega)];by_cases hr:r=aX list
   ·rw[auT hr,auT ⟨h0,hr⟩]
   ·rw[auV hr,auV (fun h=>hr h.2)]
 have Kl:∀ r,r<8->1<=r->F0.getD r []=v.b.planes.getD r []\/F0.getD r []=[]:=by
  intro r h8 h1;rw[<-BK,nL _ _ _ h8];split
  ·exact .inl rfl
  ·exact .inr rfl
 obtain⟨mapped,t5,S5,e7,st5,g5,p5,q5,_⟩:=eK (t:=⟨t3.rd,q⟩) Sj (jg t3.rd) (fun _ h=>h.elim) (data:=ik pl3 v.blocks) (by rw[pk];omega) (by
  have:=gD [] (ik pl3 v.blocks);rw[pk]at this;show _<=q.left;omega)
 have ZX:∀ n:Nat,ai own n=false->t5.rd n=t3.rd n:=by
  intro n hn;refine g5.rd n fun m hme=>?_;obtain rfl:n=m:=by omega
  by_cases aK:n<v.blocks
  ·left;show ai q.used n=true;rw[Yx,hn];simp[aK]
  ·right
   cases hu:ai t5.pool.used n with
   |false=>rfl
   |true=>
    have:=g5.news n hu (by show ai q.used n=false;rw[Yx];simp[aK]);have h2:n<q.blocks:=this.2;omega
 have Fb:∀ n:Nat,ai t3.pool.used n=true->t5.rd n=t3.rd n:=fun n hn=>ZX n (by rw[qw,hn];simp);have aaR:∀ n:Nat,ai p.used n=true->t5.rd n=v.rd n:=fun n hn=>(Fb n (G3.used n hn)).trans (G3.keepRd hn);have aeJ:∀ n:Nat,ai t1.pool.used n=true->t5.rd n=t1.rd n:=fun n hn=>(Fb n (g3.used n (g2.used n hn))).trans (((g2.trans g3).keepRd hn));have SV:∀ n:Nat,ai t2.pool.used n=true->t5.rd n=t2.rd n:=fun n hn=>(Fb n (g3.used n hn)).trans (g3.keepRd hn);have zj:∀ n,S1 n\/S2 n->ai t2.pool.used n=true/\n<v.blocks:=by
  intro n hn;rcases hn with hn|hn
  ·have:=p1.grow g2 n hn;exact⟨this.1,by have:=this.2;rw[G2.blocks]at this;exact mY▸this⟩
  ·have:=p2 n hn;exact⟨this.1,by have:=this.2;rw[G2.blocks]at this;exact mY▸this⟩
 have RU:∀ q,q<8->mQ (pl3.getD q []) v.blocks:=by
  have adt:∀ n,S1 n\/S2 n->1<=n/\n<v.blocks:=by
   intro n hn;refine⟨?_,(zj n hn).2⟩;rcases hn with hn|hn
   ·exact(l1.lt n hn).1
   ·exact(st2.lt hn).1
  intro q h8;by_cases h0:q=0
  ·subst h0;rw[Fp];refine⟨iU _ _ _,fun n hn=>?_⟩;rw[jN,jN,gI,Bool.or_false,au6,qe,yB]at hn;rcases hn with(hn|hn)|hn
   ·exact adt n hn
   ·exact⟨(Sw.lt hn).1,by have:=(p3 n hn).2;rw[uS]at this;exact this⟩
   ·exact IW n hn
  ·rw[yA q (by omega) h8];split
   ·refine⟨iU _ _ _,fun n hn=>?_⟩;rw[jN,gI,Bool.or_false,yB]at hn;exact adt n hn
   ·rcases Kl q h8 (by omega)with e|e
    ·rw[e];exact⟨(h.planes q h8).1,fun n hn=>(h.planes q h8).2 n hn⟩
    ·rw[e];exact⟨by simp[ga],fun n hn=>by cases hn⟩
 have F1:inos.length<=60:=by have:=l1.len;have:=h.told.many;omega
 have F2:l2.length<=8:=by have:=AA.many;omega
 have F3:aT v.blocks<=t3.pool.left:=by unfold bK at uF;omega
 have F4:c1<=p.left:=by omega
 subst Ci I0 BK Wv FC lw hx sS;exact⟨⟨inos,set,t1,table,t2,set1,snaps,t3,set2,p4,mapped,t5⟩,
  { lay:=⟨cH v.b.nodes,_,A,hUA,hp,rfl,fun _ h=>h,fun x hx=>by
     obtain⟨br,C,h1,h2,h3⟩:=hA.find x.num;exact⟨h.told.data x hx,C,by rw[<-h3];exact h1,h2⟩,by rw[AI];exact F4⟩
    e1:=e1,inok:=Vf l1 h.told.tokp,inlen:=⟨F1,aW.2⟩
    old2:=⟨_,_,KL⟩,e2:=e2,new2:=⟨_,st2⟩,e3:=e3
    set1:=⟨ls2,fun n hn=>by
     have hn:=(yB n).1 hn;refine⟨?_,(zj n hn).2⟩;rcases hn with hn|hn
     ·exact(l1.lt n hn).1
     ·exact(st2.lt hn).1⟩
    snok:=Vg AA Km,snlen:=⟨F2,AE.1⟩
    old4:=⟨_,_,SM⟩,e4:=e4,new4:=⟨_,Sw⟩,e5:=e5,e6:=e6
    pools:=⟨g1.ok,g2.ok,g3.ok,g4.ok⟩
    blocks:=⟨g1.blocks.trans mY,G2.blocks.trans mY,uS,G4.blocks.trans mY⟩
    house:=F3
    pset:=⟨iU _ _ _,fun n hn=>by
     have h0:=(RU 0 (by decide)).range n;rw[Fp,jN,gI,Bool.or_false]at h0;exact h0 hn⟩
    e7:=e7,new7:=⟨_,st5⟩,planes:=RU,eight:=Kp }⟩
end
end Go.Proofs.YtkghpdcloaiflaaGreatDoor
