import Derived.Test.YtkghpdcloaiflaaGreatDoorH27
set_option maxHeartbeats 2000000
namespace Go.Proofs.YtkghpdcloaiflaaGreatDoor
open _root_.Go.Proofs.Tryz
theorem mB {l:List ay}{i j:Nat}{s:ay}(hi:i<l.length):(l.set i s).getD j []=if j=i then s else l.getD j []:=by
 rw[List.getD,List.getElem?_set];by_cases h:i=j
 ·subst h;simp[hi]
 ·rw[awf h,awf (Ne.symm h)];rfl
theorem uo {v:Vs}{list:List Sn}{more:ay}(h:mw v)(hm:fE v list more):∃ u,Kl v list more u:=by
 obtain⟨A,B,Ss,tL,yn,j3,hA,hB,FL,hSs,X0,Tg,Xp,Uf,Yw⟩:=h.here;obtain⟨S,OQ⟩:∃ S:Nat->Prop,∀ n,S n↔A n\/B n:=⟨λn=>A n\/B n,λ_=>Iff.rfl⟩
 simp only[<-OQ]at Tg Xp;have lI:=h.room;have zo:=h.many;obtain⟨p,yD⟩:∃ p,gp (cT v.b.planes) v.blocks v.b.next=p:=⟨_,rfl⟩
 have hp:cE p:=yD▸rU h.next.1 h.next.2 zo.2;have hpu:p.used=cT v.b.planes:=by rw[<-yD];rfl
 have UJ:p.taken=[]:=by rw[<-yD];rfl
 have nX:p.blocks=v.blocks:=by rw[<-yD];rfl
 have nR:p.left=de v:=by rw[<-yD];rfl
 have hU:∀ q n,q<8->aq (v.b.planes.getD q []) n=true->aq p.used n=true/\n<p.blocks:=by
  intro q n hq hn;rw[hpu,nX];exact⟨(oU h.eight n).2 ⟨q,hq,hn⟩,((h.planes q hq).2 n hn).2⟩
 have hUS:∀ n,S n->aq p.used n=true/\n<p.blocks:=λn hn=>hU 0 n dc7 ((Tg n).2 (.inl hn));have hUA:∀ n,A n->aq p.used n=true/\n<p.blocks:=λn hn=>hUS n ((OQ n).2 (.inl hn));have hUB:∀ n,B n->aq p.used n=true/\n<p.blocks:=λn hn=>hUS n ((OQ n).2 (.inr hn));have zl:∀ n,Ss n->aq p.used n=true/\n<p.blocks:=λn hn=>hU 0 n dc7 ((Tg n).2 (.inr (.inl hn)));have hUo:∀ n,aq tL n=true->aq p.used n=true/\n<p.blocks:=λn hn=>hU 0 n dc7 ((Tg n).2 (.inr (.inr hn)));obtain⟨tb,JF⟩:∃ tb,(if aw v.T=v.b.nodes then 0 else aU (2+12*(aw v.T).length))=tb:=⟨_,rfl⟩
 obtain⟨c1,AH⟩:∃ c1,((aw v.T).map λx=>cY (cF v.b.nodes x.num) x.data).sum=c1:=⟨_,rfl⟩
 have uB:bP v+1+c1+tb<=p.left:=by
  rw[nR];unfold bI at lI;rw[AH,JF]at lI;exact lI
 obtain⟨inos,set,t1,S1,e1,l1,g1,p1,q1,ls1,oc,k1⟩:=xr v.b.inodes (cF v.b.nodes) p A hUA (aw v.T) [] ⟨v.rd,p⟩ hp rfl (λ_ h=>h)
  (λx hx=>by
   obtain⟨br,C,h1,h2,h3⟩:=hA.find x.num;exact⟨h.told.data x hx,C,by rw[<-h3];exact h1,h2⟩) (by rw[AH];show c1<=p.left;omega) (by simp[eP])
 rw[AH]at g1;have Yf:aW t1.rd (yn) v.b.table B:=hB.turn λn hn=>g1.keepRd (hUB n hn).1;have bt:=Ez l1 h.told.toNodesOk;have Ch:cY (yn) (jV inos)<=tb:=by
  by_cases he:aw v.T=v.b.nodes
  ·have:=(k1 λx hx=>by rw[he]at hx;exact oS h.nodes.nums x hx).1;rw[this,FL he,he,tl hA h.nodes.nums,kH _ (by rw[<-FL he];exact hB.1)];exact awP _
  ·rw[awf he]at JF;rw[<-JF];exact av2 (gq _ _) (wu bt.1 (by have:=h.told.many;omega))
 obtain⟨c2,Jv⟩:∃ c2,cY (yn) (jV inos)=c2:=⟨_,rfl⟩
 rw[Jv]at Ch;have ab8:t1.pool.left+c1=p.left:=g1.left;obtain⟨table,t2,S2,e2,st2,g2,p2,q2,_⟩:=eF (data:=jV inos) g1.ok Yf (i6.grow (t:=⟨v.rd,p⟩) hUB g1) J (by rw[Jv];omega);rw[Jv]at g2;obtain⟨set1,e3,ls2,j5⟩:=st2.reached set;have abY:t2.pool.left+c2=t1.pool.left:=g2.left;have G2:dd ⟨v.rd,p⟩ t2 (c1+c2):=g1.trans g2;have yt:∀ n,aq set1 n=true↔S1 n\/S2 n:=λn=>by rw[j5,oc];simp[fJ]
 obtain⟨x,hx⟩:∃ x:Sn,(⟨more,v.b.id,bf list,table⟩:Sn)=x:=⟨_,rfl⟩
 obtain⟨l2,kX⟩:∃ l2,(if more=[]then list else list++[x])=l2:=⟨_,rfl⟩
 have uJ:=um h.list hm.sub;have AK:jl l2 (if more=[]then v.b.id else v.b.id+1):=by
  rcases hm.more with h0|⟨a1,a2,a3,a4,a5⟩
  ·rw[awd h0]at kX ⊢;rw[<-kX];exact uJ
  ·by_cases h0:more=[]
   ·rw[awd h0]at kX ⊢;rw[<-kX];exact uJ
   ·rw[awf h0]at kX ⊢;rw[<-kX,<-hx];exact un uJ a4 a1 a2 a3 a5
 have Ci:∀ y∈l2,y∈list\/(y=x/\more≠[]):=by
  intro y hy;by_cases h0:more=[]
  ·rw[awd h0]at kX;rw[<-kX]at hy;exact .inl hy
  ·rw[awf h0]at kX;rw[<-kX]at hy;rcases aw8.1 hy with hy|hy
   ·exact .inl hy
   ·simp at hy;exact .inr ⟨hy,h0⟩
 have Js:∀ y∈v.b.list,y.table.ok=true:=by
  intro y hy;obtain⟨_,_,_,C,D,_,hD,_⟩:=h.snaps y hy;exact hD.may
 have KA:∀ y∈l2,y.table.ok=true:=by
  intro y hy;rcases Ci y hy with hy|⟨rfl,_⟩
  ·exact Js y (hm.sub.subset hy)
  ·rw[<-hx];exact st2.may
 have AD:=xw AK KA;have Tt:aW t2.rd (j3) v.b.snaps Ss:=hSs.turn λn hn=>G2.keepRd (zl n hn).1;obtain⟨c3,FQ⟩:∃ c3,cY (j3) (jW l2)=c3:=⟨_,rfl⟩
 have hc3:c3<=1:=by rw[<-FQ];exact av2 (gq _ _) (my AD.1)
 obtain⟨snaps,t3,S3,e4,SZ,g3,p3,q3,k3⟩:=eF (data:=jW l2) g2.ok Tt (i6.grow (t:=⟨v.rd,p⟩) zl G2) J (by rw[FQ];omega);rw[FQ]at g3;have ab4:t3.pool.left+c3=t2.pool.left:=g3.left;obtain⟨set2,e5,ls3,Cx⟩:=SZ.reached set1;have G3:dd ⟨v.rd,p⟩ t3 (c1+c2+c3):=G2.trans g3;have uL:t3.pool.blocks=v.blocks:=G3.blocks.trans nX;obtain⟨p4,e6,g4⟩:=xt t3.rd (aU v.blocks) t3.pool G3.ok (by unfold bP at uB;omega);have abN:p4.left+aU v.blocks=t3.pool.left:=g4.left;have G4:dd ⟨v.rd,p⟩ ⟨t3.rd,p4⟩ (c1+c2+c3+aU v.blocks):=G3.trans (b:=t3) g4;obtain⟨own,FD⟩:∃ own,bV p4.taken t3.pool.taken=own:=⟨_,rfl⟩
 have qr:∀ n,aq own n=(aq p4.used n&&!aq t3.pool.used n):=by
  intro n;have a1:=g4.taken n;rw[<-FD,pu];simp only at a1;rw[a1];have a2:=G3.taken n;simp only[UJ,fJ,Bool.false_or]at a2;rw[a2]
  cases aq t3.pool.used n<;>cases aq p.used n<;>simp
 have KJ:jM (aq own) v.blocks=aU v.blocks:=by
  have:=Ey g4 G3.ok;simp only[uL]at this;rw[<-this];exact i7 λn _ _=>qr n
 have JM:∀ n,aq own n=true->1<=n/\n<v.blocks:=by
  intro n hn;rw[qr,awo,Bool.not_eq_true']at hn;have:=g4.news n hn.1 hn.2;simp only[uL]at this;exact this
 obtain⟨q,WK⟩:∃ q,gp (bV (iE (List.range v.blocks)) own) v.blocks t3.pool.next=q:=⟨_,rfl⟩
 have Ta:cE q:=by
  have:=G3.ok;rw[<-WK];exact rU this.lo (by rw[<-uL];exact this.hi) zo.2
 have Y6:∀ n,aq q.used n=(decide (n<v.blocks)&&!aq own n):=by
  intro n;rw[<-WK];show aq (bV (iE (List.range v.blocks)) own) n=_;rw[pu,vA];simp
 have OG:q.blocks=v.blocks:=by rw[<-WK];rfl
 have hql:q.left=aU v.blocks:=by
  rw[Ta.left,mt,OG,<-KJ];refine i7 λn _ hn=>?_;rw[Y6];simp[hn]
 obtain⟨FV,Ck⟩:∃ pl,kG v.b.planes list=pl:=⟨_,rfl⟩
 obtain⟨pl2,Jt⟩:∃ pl,(if more=[]then FV else FV.set (bf list) (dZ set1 []))=pl:=⟨_,rfl⟩
 obtain⟨pl3,BY⟩:∃ pl,pl2.set 0 (dZ (dZ set2 own) [])=pl:=⟨_,rfl⟩
 have SI:FV.length=8:=by rw[<-Ck];simp[kG]
 have Ud:pl2.length=8:=by rw[<-Jt];split<;>simp[SI]
 have KB:pl3.length=8:=by rw[<-BY];simp[Ud]
 have Fx:pl3.getD 0 []=dZ (dZ set2 own) []:=by rw[<-BY,mB J,awd rfl]
 have yv:∀ r,1<=r->r<8->pl3.getD r []=if more≠[]/\r=bf list then dZ set1 []else FV.getD r []:=by
  intro r h1 h8;rw[<-BY,mB J,awf J,<-Jt];by_cases h0:more=[]
  ·rw[awd h0,awf (λh=>h.1 h0)]
  ·rw[awf h0];have hpo:bf list<8:=by
    rcases hm.more with h'|⟨_,_,_,a4,_⟩
    ·exact absurd h' h0
    ·have:=dS a4;omega
   rw[mB J];by_cases hr:r=bf list
   ·rw[awd hr,awd ⟨h0,hr⟩]
   ·rw[awf hr,awf (λh=>hr h.2)]
 have KI:∀ r,r<8->1<=r->FV.getD r []=v.b.planes.getD r []\/FV.getD r []=[]:=by
  intro r h8 h1;rw[<-Ck,ni _ _ _ h8];split
  ·exact .inl rfl
  ·exact .inr rfl
 obtain⟨mapped,t5,S5,e7,st5,g5,p5,q5,_⟩:=eF (t:=⟨t3.rd,q⟩) Ta (iY t3.rd) (λ_ h=>h.elim) (data:=gV pl3 v.blocks) (by rw[oR];omega) (by
  have:=gq [] (gV pl3 v.blocks);rw[oR]at this;show _<=q.left;omega)
 have ab3:∀ n:Nat,aq own n=false->t5.rd n=t3.rd n:=by
  intro n hn;refine g5.rd n λm hme=>?_;obtain rfl:n=m:=J
  by_cases aP:n<v.blocks
  ·left;show aq q.used n=true;rw[Y6,hn];simp[aP]
  ·right
   cases hu:aq t5.pool.used n with
   |false=>rfl
   |true=>
    have:=g5.news n hu (by show aq q.used n=false;rw[Y6];simp[aP]);have h2:n<q.blocks:=this.2;omega
 have Fu:∀ n:Nat,aq t3.pool.used n=true->t5.rd n=t3.rd n:=λn hn=>ab3 n (by rw[qr,hn];simp);have aa1:∀ n:Nat,aq p.used n=true->t5.rd n=v.rd n:=λn hn=>(Fu n (G3.used n hn)).trans (G3.keepRd hn);have aeL:∀ n:Nat,aq t1.pool.used n=true->t5.rd n=t1.rd n:=λn hn=>(Fu n (g3.used n (g2.used n hn))).trans (((g2.trans g3).keepRd hn));have Sg:∀ n:Nat,aq t2.pool.used n=true->t5.rd n=t2.rd n:=λn hn=>(Fu n (g3.used n hn)).trans (g3.keepRd hn);have yZ:∀ n,S1 n\/S2 n->aq t2.pool.used n=true/\n<v.blocks:=by
  intro n hn;rcases hn with hn|hn
  ·have:=p1.grow g2 n hn;exact⟨this.1,by have:=this.2;rw[G2.blocks]at this;exact nX▸this⟩
  ·have:=p2 n hn;exact⟨this.1,by have:=this.2;rw[G2.blocks]at this;exact nX▸this⟩
 obtain⟨u,hu⟩:∃ u:Vs,u={ v with rd:=t5.rd,num:=v.num+1,recs:=[],b:=⟨table,snaps,mapped,p4.next,if more=[]then v.b.id else v.b.id+1,inos,l2,pl3,aw v.T⟩ }:=⟨_,rfl⟩
 have bN:bF v list more=.ok u:=by
  unfold bF;simp only[yD,e1,e2,e3,hx,kX,Ck,Jt,e4,e5,e6,FD,BY,WK,e7,bind,Except.bind];rw[hu]
 have huP:u.b.planes=pl3:=by rw[hu]
 have huB:u.blocks=v.blocks:=by rw[hu]
 have j4:lz t5.rd inos (aw v.T) table (λn=>S1 n\/S2 n):=
  ⟨S1,S2,l1.turn λn hn=>aeL n (p1 n hn).1,st2.turn λn hn=>Sg n (p2 n hn).1,λn=>Iff.rfl⟩
 have hold:∀ y∈list,∀ inos nodes C,lz v.rd inos nodes y.table C->(∀ n,C n->aq (v.b.planes.getD y.plane.toNat []) n=true)->lz t5.rd inos nodes y.table C:=by
  intro y hy inos nodes C hC hCn;have:=uJ.plane y hy;exact hC.turn λn hn=>aa1 n (hU y.plane.toNat n J (hCn n hn)).1
 have Yv:∀ y∈list,u.b.planes.getD y.plane.toNat []=v.b.planes.getD y.plane.toNat []:=by
  intro y hy;have nR:=uJ.plane y hy;rw[huP,yv _ J J,awf,<-Ck,ni _ _ _ J,awd]
  ·right
   rw[List.any_eq_true];exact⟨y,hy,by simp;omega⟩
  ·rintro⟨h0,he⟩;rcases hm.more with h'|⟨_,_,_,a4,_⟩
   ·exact absurd h' h0
   ·exact(dS a4).2.2 y hy J
 have To:∀ r n,1<=r->r<8->aq (pl3.getD r []) n=true->aq t2.pool.used n=true/\n<v.blocks/\((S1 n\/S2 n)\/aq (v.b.planes.getD r []) n=true):=by
  intro r n h1 h8 hn;rw[yv r h1 h8]at hn;split at hn
  ·rw[iN,fJ,Bool.or_false,yt]at hn;exact⟨(yZ n hn).1,(yZ n hn).2,.inl hn⟩
  ·rcases KI r h8 h1 with e|e
   ·rw[e]at hn;have:=hU r n h8 hn;exact⟨G2.used n this.1,nX▸this.2,.inr hn⟩
   ·rw[e]at hn;cases hn
 have hP0:∀ n,aq (pl3.getD 0 []) n=true↔(S1 n\/S2 n)\/S3 n\/aq own n=true:=by
  intro n;rw[Fx,iN,iN,fJ,Bool.or_false,awq,Cx,yt,or_assoc]
 have Xq:∀ n,S3 n->aq t3.pool.used n=true/\n<v.blocks:=by
  intro n hn;have:=p3 n hn;exact⟨this.1,by have:=this.2;rw[uL]at this;exact this⟩
 have Sw:∀ n,Ss n\/aq tL n=true->¬(S1 n\/S2 n)/\∀ r,1<=r->r<8->aq (pl3.getD r []) n=false:=by
  intro n hn;obtain⟨d1,d2⟩:=Xp n hn;have CB:aq p.used n=true:=by
   rcases hn with hn|hn
   ·exact(zl n hn).1
   ·exact(hUo n hn).1
  have hS:¬(S1 n\/S2 n):=by
   rintro(h1|h1)
   ·rcases q1 n h1 with h2|h2
    ·exact d1 ((OQ n).2 (.inl h2))
    ·rw[CB]at h2;cases h2
   ·rcases q2 n h1 with h2|h2
    ·exact d1 ((OQ n).2 (.inr h2))
    ·rw[g1.used n CB]at h2;cases h2
  refine⟨hS,λr h1 h8=>?_⟩
  cases hb:aq (pl3.getD r []) n with
  |false=>rfl
  |true=>
   rcases(To r n h1 h8 hb).2.2 with h2|h2
   ·exact absurd h2 hS
   ·rw[d2 r h1 h8]at h2;cases h2
 have qu:bP u+1<=de u:=by
  obtain⟨n0,KZ⟩:∃ n0,0<j3.length->Ss n0:=by
   by_cases h0:0<j3.length
   ·obtain⟨n0,KZ⟩:=hSs.any h0;exact⟨n0,λ_=>KZ⟩
   ·exact⟨0,λh=>absurd h h0⟩
  have SX:=QZ (a:=λn=>!aq p4.used n) (b:=aq tL) (c:=λn=>decide (j3≠jW l2/\0<j3.length)&&n==n0) (d:=λn=>!aq (cT pl3) n) (blocks:=v.blocks) (by
   intro n h1 h2;have key:aq (cT pl3) n=true->aq p4.used n=true/\aq tL n=false/\¬((j3≠jW l2/\0<j3.length)/\n=n0):=by
    intro hn;obtain⟨r,h8,hr⟩:=(oU KB n).1 hn;by_cases O9:r=0
    ·subst O9;rcases(hP0 n).1 hr with h3|h3|h3
     ·refine⟨g4.used n (g3.used n (yZ n h3).1),?_,?_⟩
      ·cases ho:aq tL n with
       |false=>rfl
       |true=>exact absurd h3 (Sw n (.inr ho)).1
      ·rintro⟨⟨_,hz⟩,rfl⟩;exact(Sw n (.inl (KZ hz))).1 h3
     ·refine⟨g4.used n (Xq n h3).1,?_,?_⟩
      ·cases ho:aq tL n with
       |false=>rfl
       |true=>
        rcases q3 n h3 with h5|h5
        ·rw[Uf n h5]at ho;cases ho
        ·rw[G2.used n (hUo n ho).1]at h5;cases h5
      ·rintro⟨⟨eG,hz⟩,rfl⟩;have:=Mz g2.ok Tt AD.1 AD.2 X0 eG (by unfold bP at uB;omega) e4 SZ n h3;rw[G2.used n (zl n (KZ hz)).1]at this;cases this
     ·rw[qr,awo,Bool.not_eq_true']at h3;refine⟨h3.1,?_,?_⟩
      ·cases ho:aq tL n with
       |false=>rfl
       |true=>rw[G3.used n (hUo n ho).1]at h3;cases h3.2
      ·rintro⟨⟨_,hz⟩,rfl⟩;rw[G3.used n (zl n (KZ hz)).1]at h3;cases h3.2
    ·have h5:=To r n J h8 hr;refine⟨g4.used n (g3.used n h5.1),?_,?_⟩
     ·cases ho:aq tL n with
      |false=>rfl
      |true=>rw[(Sw n (.inr ho)).2 r J h8]at hr;cases hr
     ·rintro⟨⟨_,hz⟩,rfl⟩;rw[(Sw n (.inl (KZ hz))).2 r J h8]at hr;cases hr
   have k1:aq tL n=true->aq p4.used n=true:=λh=>g4.used n (G3.used n (hUo n h).1);have k2:0<j3.length->n=n0->aq p4.used n=true/\aq tL n=false:=λhz h=>by subst h;exact⟨g4.used n (G3.used n (zl n (KZ hz)).1),Uf n (KZ hz)⟩
   by_cases he:(j3≠jW l2/\0<j3.length)/\n=n0
   ·obtain⟨a1,a2⟩:=k2 he.1.2 he.2;obtain⟨a3,rfl⟩:=he;simp only[a1,a2,a3,Bool.not_true,beq_self_eq_true,Bool.and_true,Bool.false_eq_true,if_false]
    cases hd:aq (cT pl3) n with
    |false=>simp;split<;>omega
    |true=>exact absurd ⟨a3,rfl⟩ (key hd).2.2
   ·have:(decide (j3≠jW l2/\0<j3.length)&&n==n0)=false:=by
     rw[Bool.eq_false_iff];intro hx;simp only[awo,awt,awJ]at hx;exact he hx
    simp only[this,Bool.false_eq_true,if_false]
    cases hd:aq (cT pl3) n with
    |true=>
     obtain⟨a1,a2,_⟩:=key hd;simp[a1,a2]
    |false=>
     cases ho:aq tL n with
     |false=>cases aq p4.used n<;>simp
     |true=>simp[k1 ho])
  rw[<-mt,<-mt]at SX;have hl4:p4.left=kF p4.used v.blocks:=by
   have:=g4.ok.left;rw[show p4.blocks=v.blocks from g4.blocks.trans uL]at this;exact this
  have hfu:de u=kF (cT pl3) v.blocks:=by rw[hu];rfl
  have hhu:bP u=bP v:=by rw[hu];rfl
  rw[<-hl4]at SX;have hhv:bP v=aU v.blocks:=rfl;rcases Yw with⟨bC,hz⟩|hbig
  ·rw[bC]at SX;by_cases he:j3=jW l2
   ·have:c3=0:=by rw[<-FQ,he,kH _ J]
    rw[hfu,hhu];omega
   ·have:1<=jM (λn=>decide (j3≠jW l2/\0<j3.length)&&n==n0) v.blocks:=by
     have h5:=zl n0 (KZ hz);exact Q0 (n:=n0) (hSs.lt (KZ hz)).1 (nX▸h5.2) (by simp[he,hz])
    rw[hfu,hhu];omega
  ·unfold bI at hbig;rw[AH,JF]at hbig;rw[hfu,hhu];omega
 have YM:∀ y∈list,∀ nodes,qQ v y nodes->qQ u y nodes:=by
  rintro y hy nodes ⟨Zu,Kv,hT'⟩;refine⟨Zu,Kv,?_⟩;rw[Yv y hy,show u.rd=t5.rd by rw[hu]];exact hold y hy Kv nodes _ hT' λ_ h=>h
 have JC:more≠[]->iw (aw v.T)/\lz u.rd inos (aw v.T) x.table (λn=>aq (u.b.planes.getD x.plane.toNat []) n=true):=by
  intro h0;refine⟨h.told,?_⟩;rw[show u.rd=t5.rd by rw[hu]];rcases hm.more with h'|⟨_,_,_,a4,_⟩
  ·exact absurd h' h0
  ·have hpo:=dS a4;rw[<-hx];refine j4.iff λn=>?_;rw[huP];simp only[awH];rw[yv _ hpo.1 J,awd ⟨h0,rfl⟩,iN,fJ,Bool.or_false,yt]
 have agl:mu u:=by
  have huN:u.b.nodes=aw v.T:=by rw[hu]
  have huT:u.T=v.T:=by rw[hu]
  refine⟨by rw[huB];exact zo,?_,by rw[huP];exact KB,?_,?_,?_,?_,?_,by rw[huN];exact h.told.toNodesOk,by rw[huT];exact h.told,?_⟩
  ·rw[huB,show u.b.next=p4.next by rw[hu]];have:=g4.ok;exact⟨this.lo,by have h6:=this.hi;rwa [show p4.blocks=v.blocks from g4.blocks.trans uL]at h6⟩
  ·intro r h8;rw[huP,huB];by_cases hr:r=0
   ·subst hr;refine⟨by rw[Fx];exact gE _ _ _,λn hn=>?_⟩;rcases(hP0 n).1 hn with(h3|h3)|h3|h3
    ·exact⟨(l1.lt n h3).1,(yZ n (.inl h3)).2⟩
    ·exact⟨(st2.lt h3).1,(yZ n (.inr h3)).2⟩
    ·exact⟨(SZ.lt h3).1,(Xq n h3).2⟩
    ·exact JM n h3
   ·refine⟨?_,λn hn=>?_⟩
    ·rw[yv r J h8];split
     ·exact gE _ _ _
     ·rcases KI r h8 J with e|e
      ·rw[e];exact(h.planes r h8).1
      ·rw[e];simp[eP]
    ·obtain⟨_,h3,h4⟩:=To r n J h8 hn;rcases h4 with(h5|h5)|h5
     ·exact⟨(l1.lt n h5).1,h3⟩
     ·exact⟨(st2.lt h5).1,h3⟩
     ·exact⟨((h.planes r h8).2 n h5).1,h3⟩
  ·rw[show u.b.list=l2 by rw[hu],show u.b.id=if more=[]then v.b.id else v.b.id+1 by rw[hu]];exact AK
  ·intro r h1 h8 hr;rw[show u.b.list=l2 by rw[hu]]at hr;rw[huP,yv r h1 h8,awf,<-Ck,ni _ _ _ h8,awf]
   ·rintro(h3|h3)
    ·omega
    ·obtain⟨y,hy,he⟩:=List.any_eq_true.1 h3;have hyl:y∈l2:=by
      rw[<-kX];split
      ·exact hy
      ·exact List.mem_append_left _ hy
     exact hr y hyl (by simpa using he)
   ·rintro⟨h0,he⟩;have TZ:x∈l2:=by rw[<-kX,awf h0];simp
    exact hr x TZ (by rw[<-hx,he])
  ·intro y hy;rw[show u.b.list=l2 by rw[hu]]at hy;rcases Ci y hy with hy|⟨rfl,h0⟩
   ·obtain⟨Kv,Ue,Zu,hT'⟩:=h.snaps y (hm.sub.subset hy);obtain⟨_,aeP,hT2⟩:=YM y hy Ue ⟨Zu,Kv,hT'⟩;exact⟨aeP,Ue,Zu,hT2⟩
   ·exact⟨inos,aw v.T,h.told,(JC h0).2⟩
  ·refine⟨λn=>S1 n\/S2 n,S3,S5,own,?_,?_,?_,?_,?_,?_,?_,?_⟩
   ·rw[hu];exact j4
   ·rw[hu];exact SZ.turn λn hn=>Fu n (Xq n hn).1
   ·rw[hu];exact st5
   ·intro n hn;rcases q5 n hn with h3|h3
    ·exact h3.elim
    ·have h4:aq q.used n=false:=h3;have h5:=(p5 n hn).2;rw[g5.blocks]at h5;have h6:n<v.blocks:=by have h7:n<q.blocks:=h5;omega
     rw[Y6]at h4;simpa[h6]using h4
   ·rw[huP];exact hP0
   ·rw[huB];exact KJ
   ·intro n hn;rw[huP];rcases hn with hn|hn
    ·rcases q3 n hn with h3|h3
     ·exact Sw n (.inl h3)
     ·refine⟨λh4=>?_,λr h1 h8=>?_⟩
      ·rw[(yZ n h4).1]at h3;cases h3
      ·cases hb:aq (pl3.getD r []) n with
       |false=>rfl
       |true=>rw[(To r n h1 h8 hb).1]at h3;cases h3
    ·rw[qr,awo,Bool.not_eq_true']at hn;refine⟨λh4=>?_,λr h1 h8=>?_⟩
     ·rw[g3.used n (yZ n h4).1]at hn;cases hn.2
     ·cases hb:aq (pl3.getD r []) n with
      |false=>rfl
      |true=>rw[g3.used n (To r n h1 h8 hb).1]at hn;cases hn.2
   ·intro n hn;rw[qr,(Xq n hn).1];simp
  ·rw[Ae (by rw[huN,huT]) (by rw[huT];exact h.told.toNodesOk)];exact qu
 exact⟨u,bN,agl,huB,by rw[hu],by rw[hu],by rw[hu],by rw[hu],by rw[hu],by rw[hu],⟨x,by rw[<-hx],by rw[<-hx],by rw[<-hx,hu],by rw[hu];exact kX.symm,λh0=>⟨(JC h0).1,inos,(JC h0).2⟩⟩,YM,Ae (by rw[hu]) (by rw[hu];exact h.told.toNodesOk),λy hy=>⟨Yv y hy,λn hn=>by rw[show u.rd=t5.rd by rw[hu]];exact aa1 n (hU y.plane.toNat n (by have:=uJ.plane y hy;omega) hn).1⟩⟩
theorem xx {v:Vs}{list:List Sn}{more:ay}(h:mu v)(hm:fE v list more):∃ u,Kl v list more u:=uo h.ready hm
section
theorem pK {s:ay}{k:Nat}(h:eP s)(hn:∀ n,aq s n=true->n<8*k):s.length<=k:=by
 rcases List.eq_nil_or_concat s with rfl|⟨r,b,rfl⟩
 ·simp
 ·have hb:b≠0:=by intro e;subst e;exact h sp7
  obtain⟨j,hj,aja⟩:=vx hb;have:=hn (8*r.length+j) (by rw[dw hj];simpa using aja);simp;omega
structure qR (was:List fD)(br:Int->ay)(U:Pl)(mG:Nat->Prop)(r:List Nt)(t:gy):Prop where
 all:∀ n,mG n->aq U.used n=true/\n<U.blocks
 ok:cE t.pool
 blocks:t.pool.blocks=U.blocks
 used:∀ n,aq U.used n=true->aq t.pool.used n=true
 each:∀ x∈r,x.data.length<=16384/\∃ A,aW t.rd (br x.num) (dR was x.num) A/\∀ n,A n->mG n
 cost:(r.map λx=>cY (br x.num) x.data).sum<=t.pool.left
theorem qR.step {was:List fD}{br:Int->ay}{U:Pl}{mG:Nat->Prop}{x:Nt}{r:List Nt}{t:gy}(h:qR was br U mG (x::r) t)(set:ay):
  ∃ b t1 s,dz t (dR was x.num) x.data=.ok (b,t1)/\dD t1.rd set b=.ok s/\(∃ S,aW t1.rd x.data b S)/\(∃ br S,aW t.rd br (dR was x.num) S)/\qR was br U mG r t1:=by
 have hc:=h.cost;rw[av3,av4]at hc;obtain⟨hx,A,hA,hAs⟩:=h.each x sp7;have hAp:i6 t.pool A:=λn hn=>⟨h.used n (h.all n (hAs n hn)).1,by rw[h.blocks];exact(h.all n (hAs n hn)).2⟩
 obtain⟨b,t1,S1,e1,h1,g1,p1,q1,k1⟩:=eF h.ok hA hAp hx J;obtain⟨s,e2,kX,h2⟩:=h1.reached set;exact⟨b,t1,s,e1,e2,⟨S1,h1⟩,⟨_,A,hA⟩,⟨h.all,g1.ok,g1.blocks.trans h.blocks,λn hn=>g1.used n (h.used n hn),λy hy=>by
   obtain⟨hy1,B,hB,hBs⟩:=h.each y (by simp[hy]);exact⟨hy1,B,hB.turn λn hn=>g1.keepRd (h.used n (h.all n (hBs n hn)).1),hBs⟩,by have:=g1.left;omega⟩⟩
structure fU where
 inos:List fD
 set:ay
 t1:gy
 table:fI
 t2:gy
 set1:ay
 snaps:fI
 t3:gy
 set2:ay
 p4:Pl
 mapped:fI
 t5:gy
section
variable (r:fU)(v:Vs)(list:List Sn)(more:ay)
def fU.x:Sn:=⟨more,v.b.id,bf list,r.table⟩
def fU.l2:List Sn:=if more=[]then list else list++[r.x v list more]
def fU.pl2:List ay:=if more=[]then kG v.b.planes list else(kG v.b.planes list).set (bf list) (dZ r.set1 [])
def fU.own:ay:=bV r.p4.taken r.t3.pool.taken
def fU.pl3:List ay:=(r.pl2 v list more).set 0 (dZ (dZ r.set2 r.own) [])
def fU.q:Pl:=gp (bV (iE (List.range v.blocks)) r.own) v.blocks r.t3.pool.next
def fU.o:Vs:={ v with rd:=r.t5.rd,num:=v.num+1,recs:=[],b:=⟨r.table,r.snaps,r.mapped,r.p4.next,if more=[]then v.b.id else v.b.id+1,r.inos,r.l2 v list more,r.pl3 v list more,aw v.T⟩ }
structure mC (s:ay)(blocks:Nat):Prop where
 least:eP s
 range:∀ n,aq s n=true->1<=n/\n<blocks
structure EA:Prop where
 lay:∃ br U mG,qR v.b.inodes br U mG (aw v.T) ⟨v.rd,gp (cT v.b.planes) v.blocks v.b.next⟩
 e1:mj v.b.inodes (aw v.T) [] ⟨v.rd,gp (cT v.b.planes) v.blocks v.b.next⟩=.ok (r.inos,r.set,r.t1)
 inok:qJ r.inos=true
 inlen:r.inos.length<=60/\(jV r.inos).length<=722
 old2:∃ br S,aW r.t1.rd br v.b.table S
 e2:dz r.t1 v.b.table (jV r.inos)=.ok (r.table,r.t2)
 new2:∃ S,aW r.t2.rd (jV r.inos) r.table S
 e3:dD r.t2.rd r.set r.table=.ok r.set1
 set1:mC r.set1 v.blocks
 snok:zG (r.l2 v list more)=true
 snlen:(r.l2 v list more).length<=8/\(jW (r.l2 v list more)).length<=240
 old4:∃ br S,aW r.t2.rd br v.b.snaps S
 e4:dz r.t2 v.b.snaps (jW (r.l2 v list more))=.ok (r.snaps,r.t3)
 new4:∃ S,aW r.t3.rd (jW (r.l2 v list more)) r.snaps S
 e5:dD r.t3.rd r.set1 r.snaps=.ok r.set2
 e6:oJ (aU v.blocks) r.t3.pool=.ok r.p4
 pools:cE r.t1.pool/\cE r.t2.pool/\cE r.t3.pool/\cE r.p4
 blocks:r.t1.pool.blocks=v.blocks/\r.t2.pool.blocks=v.blocks/\r.t3.pool.blocks=v.blocks/\r.p4.blocks=v.blocks
 house:aU v.blocks<=r.t3.pool.left
 pset:mC (dZ r.set2 r.own) v.blocks
 e7:dz ⟨r.t3.rd,r.q v⟩ ⟨0,0⟩ (gV (r.pl3 v list more) v.blocks)=.ok (r.mapped,r.t5)
 new7:∃ S,aW r.t5.rd (gV (r.pl3 v list more) v.blocks) r.mapped S
 planes:∀ p,p<8->mC ((r.pl3 v list more).getD p []) v.blocks
 eight:(r.pl3 v list more).length=8
end
theorem EA.run {r:fU}{v:Vs}{list:List Sn}{more:ay}(h:EA r v list more):bF v list more=.ok (r.o v list more):=by
 have e2:=h.e2;have e4:=h.e4;have e5:=h.e5;have e7:=h.e7;unfold fU.l2 fU.x at e4;unfold fU.q fU.pl3 fU.pl2 fU.own at e7;unfold bF;simp only[h.e1,h.e2,h.e3,e4,e5,h.e6,e7,bind,Except.bind];rfl
theorem VX {rd:Rd}{inos:List fD}{nodes:List Nt}{S:Nat->Prop}(h:mn rd inos nodes S)(hn:NodesOk nodes):qJ inos=true:=by
 have key:∀ {was:Int} {inos:List fD} {nodes:List Nt} {S:Nat->Prop},mn rd inos nodes S->lD was nodes=true->(∀ x∈nodes,1<=x.links/\x.links<=3600)->yN was inos=true:=by
  intro was inos
  induction inos generalizing was with
  |nil=>intro nodes S _ _ _;rfl
  |cons y ys ih=>
   intro nodes S h h1 h2
   cases nodes with
   |nil=>exact h.elim
   |cons x xs=>
    obtain⟨⟨a1,a2,a3⟩,A,B,b1,b2,b3⟩:=h;simp only[lD,awo,awt]at h1;have h3:=h2 x sp7;have:=ih (was:=y.num) b2 (by rw[a1];exact h1.2) λz hz=>h2 z (by simp[hz]);simp only[yN,awo,awt];exact⟨⟨⟨⟨⟨by omega,J⟩,J⟩,J⟩,b1.may⟩,this⟩
 unfold qJ;rw[key h hn.nums hn.links,Bool.and_true,awt];have:=h.len;have:=hn.many;omega
theorem VY {l:List Sn}{id:Nat}(h:jl l id)(ht:∀ x∈l,x.table.ok=true):zG l=true:=by
 have h1:∀ x∈l,0<x.id/\x.id<=1099511627776:=λx hx=>by have:=h.idlo x hx;have:=h.top;omega
 have key:∀(l:List Sn) (was:Int),(∀ x∈l,was<x.id)->l.Pairwise (λa b=>a.id<b.id)->(∀ x∈l,aJ x.name=true/\1<=x.plane/\x.plane<=7/\x.table.ok=true/\x.id<=1099511627776)->Uk was l=true:=by
  intro l
  induction l with
  |nil=>intros;rfl
  |cons y ys ih=>
   intro was h1 h2 h3;obtain⟨h4,h5⟩:=aw9.1 h2;obtain⟨a1,a2,a3,a4,a5⟩:=h3 y sp7;simp only[Uk,awo,awt];exact⟨⟨⟨⟨⟨⟨a1,h1 y sp7⟩,a5⟩,a2⟩,a3⟩,a4⟩,ih y.id h4 h5 λx hx=>h3 x (by simp[hx])⟩
 unfold zG;rw[key l 0 (λx hx=>(h1 x hx).1) h.ids λx hx=>⟨(h.name x hx).1,(h.plane x hx).1,(h.plane x hx).2,ht x hx,(h1 x hx).2⟩,Bool.and_true,awt];have:=h.many;omega
theorem EC {v:Vs}{list:List Sn}{more:ay}(h:mw v)(hm:fE v list more):∃ r:fU,EA r v list more:=by
 obtain⟨A,B,Ss,tL,yn,j3,hA,hB,FL,hSs,X0,Tg,Xp,Uf,Yw⟩:=h.here;obtain⟨S,OQ⟩:∃ S:Nat->Prop,∀ n,S n↔A n\/B n:=⟨λn=>A n\/B n,λ_=>Iff.rfl⟩
 simp only[<-OQ]at Tg Xp;have lI:=h.room;have zo:=h.many;obtain⟨p,yD⟩:∃ p,gp (cT v.b.planes) v.blocks v.b.next=p:=⟨_,rfl⟩
 have hp:cE p:=yD▸rU h.next.1 h.next.2 zo.2;have hpu:p.used=cT v.b.planes:=by rw[<-yD];rfl
 have UJ:p.taken=[]:=by rw[<-yD];rfl
 have nX:p.blocks=v.blocks:=by rw[<-yD];rfl
 have nR:p.left=de v:=by rw[<-yD];rfl
 have hU:∀ q n,q<8->aq (v.b.planes.getD q []) n=true->aq p.used n=true/\n<p.blocks:=by
  intro q n hq hn;rw[hpu,nX];exact⟨(oU h.eight n).2 ⟨q,hq,hn⟩,((h.planes q hq).2 n hn).2⟩
 have hUS:∀ n,S n->aq p.used n=true/\n<p.blocks:=λn hn=>hU 0 n dc7 ((Tg n).2 (.inl hn));have hUA:∀ n,A n->aq p.used n=true/\n<p.blocks:=λn hn=>hUS n ((OQ n).2 (.inl hn));have hUB:∀ n,B n->aq p.used n=true/\n<p.blocks:=λn hn=>hUS n ((OQ n).2 (.inr hn));have zl:∀ n,Ss n->aq p.used n=true/\n<p.blocks:=λn hn=>hU 0 n dc7 ((Tg n).2 (.inr (.inl hn)));have hUo:∀ n,aq tL n=true->aq p.used n=true/\n<p.blocks:=λn hn=>hU 0 n dc7 ((Tg n).2 (.inr (.inr hn)));obtain⟨tb,JF⟩:∃ tb,(if aw v.T=v.b.nodes then 0 else aU (2+12*(aw v.T).length))=tb:=⟨_,rfl⟩
 obtain⟨c1,AH⟩:∃ c1,((aw v.T).map λx=>cY (cF v.b.nodes x.num) x.data).sum=c1:=⟨_,rfl⟩
 have uB:bP v+1+c1+tb<=p.left:=by
  rw[nR];unfold bI at lI;rw[AH,JF]at lI;exact lI
 obtain⟨inos,set,t1,S1,e1,l1,g1,p1,q1,ls1,oc,k1⟩:=xr v.b.inodes (cF v.b.nodes) p A hUA (aw v.T) [] ⟨v.rd,p⟩ hp rfl (λ_ h=>h)
  (λx hx=>by
   obtain⟨br,C,h1,h2,h3⟩:=hA.find x.num;exact⟨h.told.data x hx,C,by rw[<-h3];exact h1,h2⟩) (by rw[AH];show c1<=p.left;omega) (by simp[eP])
 rw[AH]at g1;have Yf:aW t1.rd (yn) v.b.table B:=hB.turn λn hn=>g1.keepRd (hUB n hn).1;have bt:=Ez l1 h.told.toNodesOk;have Ch:cY (yn) (jV inos)<=tb:=by
  by_cases he:aw v.T=v.b.nodes
  ·have:=(k1 λx hx=>by rw[he]at hx;exact oS h.nodes.nums x hx).1;rw[this,FL he,he,tl hA h.nodes.nums,kH _ (by rw[<-FL he];exact hB.1)];exact awP _
  ·rw[awf he]at JF;rw[<-JF];exact av2 (gq _ _) (wu bt.1 (by have:=h.told.many;omega))
 obtain⟨c2,Jv⟩:∃ c2,cY (yn) (jV inos)=c2:=⟨_,rfl⟩
 rw[Jv]at Ch;have ab8:t1.pool.left+c1=p.left:=g1.left;obtain⟨table,t2,S2,e2,st2,g2,p2,q2,_⟩:=eF (data:=jV inos) g1.ok Yf (i6.grow (t:=⟨v.rd,p⟩) hUB g1) J (by rw[Jv];omega);rw[Jv]at g2;obtain⟨set1,e3,ls2,j5⟩:=st2.reached set;have abY:t2.pool.left+c2=t1.pool.left:=g2.left;have G2:dd ⟨v.rd,p⟩ t2 (c1+c2):=g1.trans g2;have yt:∀ n,aq set1 n=true↔S1 n\/S2 n:=λn=>by rw[j5,oc];simp[fJ]
 obtain⟨x,hx⟩:∃ x:Sn,(⟨more,v.b.id,bf list,table⟩:Sn)=x:=⟨_,rfl⟩
 obtain⟨l2,kX⟩:∃ l2,(if more=[]then list else list++[x])=l2:=⟨_,rfl⟩
 have uJ:=um h.list hm.sub;have AK:jl l2 (if more=[]then v.b.id else v.b.id+1):=by
  rcases hm.more with h0|⟨a1,a2,a3,a4,a5⟩
  ·rw[awd h0]at kX ⊢;rw[<-kX];exact uJ
  ·by_cases h0:more=[]
   ·rw[awd h0]at kX ⊢;rw[<-kX];exact uJ
   ·rw[awf h0]at kX ⊢;rw[<-kX,<-hx];exact un uJ a4 a1 a2 a3 a5
 have Ci:∀ y∈l2,y∈list\/(y=x/\more≠[]):=by
  intro y hy;by_cases h0:more=[]
  ·rw[awd h0]at kX;rw[<-kX]at hy;exact .inl hy
  ·rw[awf h0]at kX;rw[<-kX]at hy;rcases aw8.1 hy with hy|hy
   ·exact .inl hy
   ·simp at hy;exact .inr ⟨hy,h0⟩
 have Js:∀ y∈v.b.list,y.table.ok=true:=by
  intro y hy;obtain⟨_,_,_,C,D,_,hD,_⟩:=h.snaps y hy;exact hD.may
 have KA:∀ y∈l2,y.table.ok=true:=by
  intro y hy;rcases Ci y hy with hy|⟨rfl,_⟩
  ·exact Js y (hm.sub.subset hy)
  ·rw[<-hx];exact st2.may
 have AD:=xw AK KA;have Tt:aW t2.rd (j3) v.b.snaps Ss:=hSs.turn λn hn=>G2.keepRd (zl n hn).1;obtain⟨c3,FQ⟩:∃ c3,cY (j3) (jW l2)=c3:=⟨_,rfl⟩
 have hc3:c3<=1:=by rw[<-FQ];exact av2 (gq _ _) (my AD.1)
 obtain⟨snaps,t3,S3,e4,SZ,g3,p3,q3,k3⟩:=eF (data:=jW l2) g2.ok Tt (i6.grow (t:=⟨v.rd,p⟩) zl G2) J (by rw[FQ];omega);rw[FQ]at g3;have ab4:t3.pool.left+c3=t2.pool.left:=g3.left;obtain⟨set2,e5,ls3,Cx⟩:=SZ.reached set1;have G3:dd ⟨v.rd,p⟩ t3 (c1+c2+c3):=G2.trans g3;have uL:t3.pool.blocks=v.blocks:=G3.blocks.trans nX;obtain⟨p4,e6,g4⟩:=xt t3.rd (aU v.blocks) t3.pool G3.ok (by unfold bP at uB;omega);have abN:p4.left+aU v.blocks=t3.pool.left:=g4.left;have G4:dd ⟨v.rd,p⟩ ⟨t3.rd,p4⟩ (c1+c2+c3+aU v.blocks):=G3.trans (b:=t3) g4;obtain⟨own,FD⟩:∃ own,bV p4.taken t3.pool.taken=own:=⟨_,rfl⟩
 have qr:∀ n,aq own n=(aq p4.used n&&!aq t3.pool.used n):=by
  intro n;have a1:=g4.taken n;rw[<-FD,pu];simp only at a1;rw[a1];have a2:=G3.taken n;simp only[UJ,fJ,Bool.false_or]at a2;rw[a2]
  cases aq t3.pool.used n<;>cases aq p.used n<;>simp
 have KJ:jM (aq own) v.blocks=aU v.blocks:=by
  have:=Ey g4 G3.ok;simp only[uL]at this;rw[<-this];exact i7 λn _ _=>qr n
 have JM:∀ n,aq own n=true->1<=n/\n<v.blocks:=by
  intro n hn;rw[qr,awo,Bool.not_eq_true']at hn;have:=g4.news n hn.1 hn.2;simp only[uL]at this;exact this
 obtain⟨q,WK⟩:∃ q,gp (bV (iE (List.range v.blocks)) own) v.blocks t3.pool.next=q:=⟨_,rfl⟩
 have Ta:cE q:=by
  have:=G3.ok;rw[<-WK];exact rU this.lo (by rw[<-uL];exact this.hi) zo.2
 have Y6:∀ n,aq q.used n=(decide (n<v.blocks)&&!aq own n):=by
  intro n;rw[<-WK];show aq (bV (iE (List.range v.blocks)) own) n=_;rw[pu,vA];simp
 have OG:q.blocks=v.blocks:=by rw[<-WK];rfl
 have hql:q.left=aU v.blocks:=by
  rw[Ta.left,mt,OG,<-KJ];refine i7 λn _ hn=>?_;rw[Y6];simp[hn]
 obtain⟨FV,Ck⟩:∃ pl,kG v.b.planes list=pl:=⟨_,rfl⟩
 obtain⟨pl2,Jt⟩:∃ pl,(if more=[]then FV else FV.set (bf list) (dZ set1 []))=pl:=⟨_,rfl⟩
 obtain⟨pl3,BY⟩:∃ pl,pl2.set 0 (dZ (dZ set2 own) [])=pl:=⟨_,rfl⟩
 have SI:FV.length=8:=by rw[<-Ck];simp[kG]
 have Ud:pl2.length=8:=by rw[<-Jt];split<;>simp[SI]
 have KB:pl3.length=8:=by rw[<-BY];simp[Ud]
 have Fx:pl3.getD 0 []=dZ (dZ set2 own) []:=by rw[<-BY,mB J,awd rfl]
 have yv:∀ r,1<=r->r<8->pl3.getD r []=if more≠[]/\r=bf list then dZ set1 []else FV.getD r []:=by
  intro r h1 h8;rw[<-BY,mB J,awf J,<-Jt];by_cases h0:more=[]
  ·rw[awd h0,awf (λh=>h.1 h0)]
  ·rw[awf h0];have hpo:bf list<8:=by
    rcases hm.more with h'|⟨_,_,_,a4,_⟩
    ·exact absurd h' h0
    ·have:=dS a4;omega
   rw[mB J];by_cases hr:r=bf list
   ·rw[awd hr,awd ⟨h0,hr⟩]
   ·rw[awf hr,awf (λh=>hr h.2)]
 have KI:∀ r,r<8->1<=r->FV.getD r []=v.b.planes.getD r []\/FV.getD r []=[]:=by
  intro r h8 h1;rw[<-Ck,ni _ _ _ h8];split
  ·exact .inl rfl
  ·exact .inr rfl
 obtain⟨mapped,t5,S5,e7,st5,g5,p5,q5,_⟩:=eF (t:=⟨t3.rd,q⟩) Ta (iY t3.rd) (λ_ h=>h.elim) (data:=gV pl3 v.blocks) (by rw[oR];omega) (by
  have:=gq [] (gV pl3 v.blocks);rw[oR]at this;show _<=q.left;omega)
 have ab3:∀ n:Nat,aq own n=false->t5.rd n=t3.rd n:=by
  intro n hn;refine g5.rd n λm hme=>?_;obtain rfl:n=m:=J
  by_cases aP:n<v.blocks
  ·left;show aq q.used n=true;rw[Y6,hn];simp[aP]
  ·right
   cases hu:aq t5.pool.used n with
   |false=>rfl
   |true=>
    have:=g5.news n hu (by show aq q.used n=false;rw[Y6];simp[aP]);have h2:n<q.blocks:=this.2;omega
 have Fu:∀ n:Nat,aq t3.pool.used n=true->t5.rd n=t3.rd n:=λn hn=>ab3 n (by rw[qr,hn];simp);have aa1:∀ n:Nat,aq p.used n=true->t5.rd n=v.rd n:=λn hn=>(Fu n (G3.used n hn)).trans (G3.keepRd hn);have aeL:∀ n:Nat,aq t1.pool.used n=true->t5.rd n=t1.rd n:=λn hn=>(Fu n (g3.used n (g2.used n hn))).trans (((g2.trans g3).keepRd hn));have Sg:∀ n:Nat,aq t2.pool.used n=true->t5.rd n=t2.rd n:=λn hn=>(Fu n (g3.used n hn)).trans (g3.keepRd hn);have yZ:∀ n,S1 n\/S2 n->aq t2.pool.used n=true/\n<v.blocks:=by
  intro n hn;rcases hn with hn|hn
  ·have:=p1.grow g2 n hn;exact⟨this.1,by have:=this.2;rw[G2.blocks]at this;exact nX▸this⟩
  ·have:=p2 n hn;exact⟨this.1,by have:=this.2;rw[G2.blocks]at this;exact nX▸this⟩
 have Su:∀ q,q<8->mC (pl3.getD q []) v.blocks:=by
  have agA:∀ n,S1 n\/S2 n->1<=n/\n<v.blocks:=by
   intro n hn;refine⟨?_,(yZ n hn).2⟩;rcases hn with hn|hn
   ·exact(l1.lt n hn).1
   ·exact(st2.lt hn).1
  intro q h8;by_cases h0:q=0
  ·subst h0;rw[Fx];refine⟨gE _ _ _,λn hn=>?_⟩;rw[iN,iN,fJ,Bool.or_false,awq,Cx,yt]at hn;rcases hn with(hn|hn)|hn
   ·exact agA n hn
   ·exact⟨(SZ.lt hn).1,by have:=(p3 n hn).2;rw[uL]at this;exact this⟩
   ·exact JM n hn
  ·rw[yv q J h8];split
   ·refine⟨gE _ _ _,λn hn=>?_⟩;rw[iN,fJ,Bool.or_false,yt]at hn;exact agA n hn
   ·rcases KI q h8 J with e|e
    ·rw[e];exact⟨(h.planes q h8).1,λn hn=>(h.planes q h8).2 n hn⟩
    ·rw[e];exact⟨by simp[eP],λn hn=>by cases hn⟩
 have F1:inos.length<=60:=by have:=l1.len;have:=h.told.many;omega
 have F2:l2.length<=8:=by have:=AK.many;omega
 have F3:aU v.blocks<=t3.pool.left:=by unfold bP at uB;omega
 have F4:c1<=p.left:=J
 subst BY Jt Ck WK FD kX hx yD;exact⟨⟨inos,set,t1,table,t2,set1,snaps,t3,set2,p4,mapped,t5⟩,
  { lay:=⟨cF v.b.nodes,_,A,hUA,hp,rfl,λ_ h=>h,λx hx=>by
     obtain⟨br,C,h1,h2,h3⟩:=hA.find x.num;exact⟨h.told.data x hx,C,by rw[<-h3];exact h1,h2⟩,by rw[AH];exact F4⟩
    e1:=e1,inok:=VX l1 h.told.toNodesOk,inlen:=⟨F1,bt.2⟩
    old2:=⟨_,_,Yf⟩,e2:=e2,new2:=⟨_,st2⟩,e3:=e3
    set1:=⟨ls2,λn hn=>by
     have hn:=(yt n).1 hn;refine⟨?_,(yZ n hn).2⟩;rcases hn with hn|hn
     ·exact(l1.lt n hn).1
     ·exact(st2.lt hn).1⟩
    snok:=VY AK KA,snlen:=⟨F2,AD.1⟩
    old4:=⟨_,_,Tt⟩,e4:=e4,new4:=⟨_,SZ⟩,e5:=e5,e6:=e6
    pools:=⟨g1.ok,g2.ok,g3.ok,g4.ok⟩
    blocks:=⟨g1.blocks.trans nX,G2.blocks.trans nX,uL,G4.blocks.trans nX⟩
    house:=F3
    pset:=⟨gE _ _ _,λn hn=>by
     have h0:=(Su 0 dc7).range n;rw[Fx,iN,fJ,Bool.or_false]at h0;exact h0 hn⟩
    e7:=e7,new7:=⟨_,st5⟩,planes:=Su,eight:=KB }⟩
end
end Go.Proofs.YtkghpdcloaiflaaGreatDoor
