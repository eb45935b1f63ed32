import Derived.Test.YtkghpdcloaiflaaGreatDoorC28
set_option maxHeartbeats 2000000
namespace Go.Proofs.YtkghpdcloaiflaaGreatDoor
open _root_.Go.Proofs.Tryz
theorem mH {l:List ay}{i j:Nat}{s:ay}(hi:i<l.length):(l.set i s).getD j []=if j=i then s else l.getD j []:=by
 rw[List.getD,List.getElem?_set];by_cases h:i=j
 ·subst h;simp[hi]
 ·rw[atR h,atR (Ne.symm h)];rfl
theorem t8 {v:Vs}{list:List Sn}{more:ay}(h:mF v)(hm:fG v list more):∃ u,JK v list more u:=by
 obtain⟨A,B,Ss,tA,xW,j6,hA,hB,EF,hSs,Wu,Iv,VW,Re,WB⟩:=h.here;obtain⟨S,Ou⟩:∃ S:Nat->Prop,∀ n,S n↔A n\/B n:=⟨fun n=>A n\/B n,fun _=>Iff.rfl⟩
 simp only[<-Ou]at Iv VW;have lR:=h.room;have yS:=h.many;obtain⟨p,sB⟩:∃ p,gm (cV v.b.planes) v.blocks v.b.next=p:=⟨_,rfl⟩
 have hp:cE p:=sB▸rL h.next.1 h.next.2 yS.2;have hpu:p.used=cV v.b.planes:=by rw[<-sB];rfl
 have Oi:p.taken=[]:=by rw[<-sB];rfl
 have mL:p.blocks=v.blocks:=by rw[<-sB];rfl
 have nI:p.left=dh v:=by rw[<-sB];rfl
 have hU:∀ q n,q<8->ak (v.b.planes.getD q []) n=true->ak p.used n=true/\n<p.blocks:=by
  intro q n hq hn;rw[hpu,mL];exact⟨(oZ h.eight n).2 ⟨q,hq,hn⟩,((h.planes q hq).2 n hn).2⟩
 have Y4:∀ n,S n->ak p.used n=true/\n<p.blocks:=fun n hn=>hU 0 n (by decide) ((Iv n).2 (.inl hn));have hUA:∀ n,A n->ak p.used n=true/\n<p.blocks:=fun n hn=>Y4 n ((Ou n).2 (.inl hn));have hUB:∀ n,B n->ak p.used n=true/\n<p.blocks:=fun n hn=>Y4 n ((Ou n).2 (.inr hn));have yT:∀ n,Ss n->ak p.used n=true/\n<p.blocks:=fun n hn=>hU 0 n (by decide) ((Iv n).2 (.inr (.inl hn)));have hUo:∀ n,ak tA n=true->ak p.used n=true/\n<p.blocks:=fun n hn=>hU 0 n (by decide) ((Iv n).2 (.inr (.inr hn)));obtain⟨tb,Ir⟩:∃ tb,(if ar v.T=v.b.nodes then 0 else aQ (2+12*(ar v.T).length))=tb:=⟨_,rfl⟩
 obtain⟨c1,Ak⟩:∃ c1,((ar v.T).map fun x=>da (cF v.b.nodes x.num) x.data).sum=c1:=⟨_,rfl⟩
 have uh:bL v+1+c1+tb<=p.left:=by
  rw[nI];unfold bF at lR;rw[Ak,Ir]at lR;exact lR
 obtain⟨inos,set,t1,S1,e1,l1,g1,p1,q1,ls1,uC,k1⟩:=xg v.b.inodes (cF v.b.nodes) p A hUA (ar v.T) [] ⟨v.rd,p⟩ hp rfl (fun _ h=>h)
  (fun x hx=>by
   obtain⟨bg,C,h1,h2,h3⟩:=hA.find x.num;exact⟨h.told.data x hx,C,by rw[<-h3];exact h1,h2⟩) (by rw[Ak];show c1<=p.left;omega) (by simp[eT])
 rw[Ak]at g1;have J7:aR t1.rd (xW) v.b.table B:=hB.turn fun n hn=>g1.keepRd (hUB n hn).1;have aU:=DU l1 h.told.tojZ;have BO:da (xW) (jT inos)<=tb:=by
  by_cases he:ar v.T=v.b.nodes
  ·have:=(k1 fun x hx=>by rw[he]at hx;exact oX h.nodes.nums x hx).1;rw[this,EF he,he,sV hA h.nodes.nums,kM _ (by rw[<-EF he];exact hB.1)];exact auw _
  ·rw[atR he]at Ir;rw[<-Ir];exact atE (gt _ _) (vV aU.1 (by have:=h.told.many;omega))
 obtain⟨c2,II⟩:∃ c2,da (xW) (jT inos)=c2:=⟨_,rfl⟩
 rw[II]at BO;have Zd:t1.pool.left+c1=p.left:=g1.left;obtain⟨table,t2,S2,e2,st2,g2,p2,q2,_⟩:=eC (data:=jT inos) g1.ok J7 (i1.grow (t:=⟨v.rd,p⟩) hUB g1) (by omega) (by rw[II];omega);rw[II]at g2;obtain⟨set1,e3,ls2,lh⟩:=st2.reached set;have Y6:t2.pool.left+c2=t1.pool.left:=g2.left;have G2:dg ⟨v.rd,p⟩ t2 (c1+c2):=g1.trans g2;have xO:∀ n,ak set1 n=true↔S1 n\/S2 n:=fun n=>by rw[lh,uC];simp[fK]
 obtain⟨x,hx⟩:∃ x:Sn,(⟨more,v.b.id,aV list,table⟩:Sn)=x:=⟨_,rfl⟩
 obtain⟨l2,lj⟩:∃ l2,(if more=[]then list else list++[x])=l2:=⟨_,rfl⟩
 have uB:=t6 h.list hm.sub;have Ap:ji l2 (if more=[]then v.b.id else v.b.id+1):=by
  rcases hm.more with h0|⟨a1,a2,a3,a4,a5⟩
  ·rw[atP h0]at lj ⊢;rw[<-lj];exact uB
  ·by_cases h0:more=[]
   ·rw[atP h0]at lj ⊢;rw[<-lj];exact uB
   ·rw[atR h0]at lj ⊢;rw[<-lj,<-hx];exact t7 uB a4 a1 a2 a3 a5
 have Bm:∀ y∈l2,y∈list\/(y=x/\more≠[]):=by
  intro y hy;by_cases h0:more=[]
  ·rw[atP h0]at lj;rw[<-lj]at hy;exact .inl hy
  ·rw[atR h0]at lj;rw[<-lj]at hy;rcases auP.1 hy with hy|hy
   ·exact .inl hy
   ·simp at hy;exact .inr ⟨hy,h0⟩
 have IV:∀ y∈v.b.list,y.table.ok=true:=by
  intro y hy;obtain⟨_,_,_,C,D,_,hD,_⟩:=h.snaps y hy;exact hD.may
 have J1:∀ y∈l2,y.table.ok=true:=by
  intro y hy;rcases Bm y hy with hy|⟨rfl,_⟩
  ·exact IV y (hm.sub.subset hy)
  ·rw[<-hx];exact st2.may
 have Ai:=xj Ap J1;have Rv:aR t2.rd (j6) v.b.snaps Ss:=hSs.turn fun n hn=>G2.keepRd (yT n hn).1;obtain⟨c3,E4⟩:∃ c3,da (j6) (jU l2)=c3:=⟨_,rfl⟩
 have hc3:c3<=1:=by rw[<-E4];exact atE (gt _ _) (mG Ai.1)
 obtain⟨snaps,t3,S3,e4,RL,g3,p3,q3,k3⟩:=eC (data:=jU l2) g2.ok Rv (i1.grow (t:=⟨v.rd,p⟩) yT G2) (by omega) (by rw[E4];omega);rw[E4]at g3;have aan:t3.pool.left+c3=t2.pool.left:=g3.left;obtain⟨set2,e5,ls3,rh⟩:=RL.reached set1;have G3:dg ⟨v.rd,p⟩ t3 (c1+c2+c3):=G2.trans g3;have ur:t3.pool.blocks=v.blocks:=G3.blocks.trans mL;obtain⟨p4,e6,g4⟩:=xh t3.rd (aQ v.blocks) t3.pool G3.ok (by unfold bL at uh;omega);have ZB:p4.left+aQ v.blocks=t3.pool.left:=g4.left;have G4:dg ⟨v.rd,p⟩ ⟨t3.rd,p4⟩ (c1+c2+c3+aQ v.blocks):=G3.trans (b:=t3) g4;obtain⟨own,EK⟩:∃ own,bK p4.taken t3.pool.taken=own:=⟨_,rfl⟩
 have qi:∀ n,ak own n=(ak p4.used n&&!ak t3.pool.used n):=by
  intro n;have a1:=g4.taken n;rw[<-EK,iM];simp only at a1;rw[a1];have a2:=G3.taken n;simp only[Oi,fK,Bool.false_or]at a2;rw[a2]
  cases ak t3.pool.used n<;>cases ak p.used n<;>simp
 have Kr:jJ (ak own) v.blocks=aQ v.blocks:=by
  have:=DT g4 G3.ok;simp only[ur]at this;rw[<-this];exact i6 fun n _ _=>qi n
 have I6:∀ n,ak own n=true->1<=n/\n<v.blocks:=by
  intro n hn;rw[qi,at2,Bool.not_eq_true']at hn;have:=g4.news n hn.1 hn.2;simp only[ur]at this;exact this
 obtain⟨q,Vu⟩:∃ q,gm (bK (iE (List.range v.blocks)) own) v.blocks t3.pool.next=q:=⟨_,rfl⟩
 have R0:cE q:=by
  have:=G3.ok;rw[<-Vu];exact rL this.lo (by rw[<-ur];exact this.hi) yS.2
 have WM:∀ n,ak q.used n=(decide (n<v.blocks)&&!ak own n):=by
  intro n;rw[<-Vu];show ak (bK (iE (List.range v.blocks)) own) n=_;rw[iM,vk];simp
 have Oq:q.blocks=v.blocks:=by rw[<-Vu];rfl
 have hql:q.left=aQ v.blocks:=by
  rw[R0.left,mE,Oq,<-Kr];refine i6 fun n _ hn=>?_;rw[WM];simp[hn]
 obtain⟨Fg,Bt⟩:∃ pl,kL v.b.planes list=pl:=⟨_,rfl⟩
 obtain⟨pl2,I8⟩:∃ pl,(if more=[]then Fg else Fg.set (aV list) (d6 set1 []))=pl:=⟨_,rfl⟩
 obtain⟨pl3,Bi⟩:∃ pl,pl2.set 0 (d6 (d6 set2 own) [])=pl:=⟨_,rfl⟩
 have Sk:Fg.length=8:=by rw[<-Bt];simp[kL]
 have Rq:pl2.length=8:=by rw[<-I8];split<;>simp[Sk]
 have Ka:pl3.length=8:=by rw[<-Bi];simp[Rq]
 have EU:pl3.getD 0 []=d6 (d6 set2 own) []:=by rw[<-Bi,mH (by omega),atP rfl]
 have xZ:∀ r,1<=r->r<8->pl3.getD r []=if more≠[]/\r=aV list then d6 set1 []else Fg.getD r []:=by
  intro r h1 h8;rw[<-Bi,mH (by omega),atR (by omega),<-I8];by_cases h0:more=[]
  ·rw[atP h0,atR (fun h=>h.1 h0)]
  ·rw[atR h0];have rV:aV list<8:=by
    rcases hm.more with h'|⟨_,_,_,a4,_⟩
    ·exact absurd h' h0
    ·have:=dY a4;omega
   rw[mH (by omega)];by_cases hr:r=aV list
   ·rw[atP hr,atP ⟨h0,hr⟩]
   ·rw[atR hr,atR (fun h=>hr h.2)]
 have JZ:∀ r,r<8->1<=r->Fg.getD r []=v.b.planes.getD r []\/Fg.getD r []=[]:=by
  intro r h8 h1;rw[<-Bt,nt _ _ _ h8];split
  ·exact .inl rfl
  ·exact .inr rfl
 obtain⟨mapped,t5,S5,e7,st5,g5,p5,q5,_⟩:=eC (t:=⟨t3.rd,q⟩) R0 (iY t3.rd) (fun _ h=>h.elim) (data:=gW pl3 v.blocks) (by rw[oW];omega) (by
  have:=gt [] (gW pl3 v.blocks);rw[oW]at this;show _<=q.left;omega)
 have Z9:∀ n:Nat,ak own n=false->t5.rd n=t3.rd n:=by
  intro n hn;refine g5.rd n fun m hme=>?_;obtain rfl:n=m:=by omega
  by_cases aM:n<v.blocks
  ·left;show ak q.used n=true;rw[WM,hn];simp[aM]
  ·right
   cases hu:ak t5.pool.used n with
   |false=>rfl
   |true=>
    have:=g5.news n hu (by show ak q.used n=false;rw[WM];simp[aM]);have h2:n<q.blocks:=this.2;omega
 have EZ:∀ n:Nat,ak t3.pool.used n=true->t5.rd n=t3.rd n:=fun n hn=>Z9 n (by rw[qi,hn];simp);have Zc:∀ n:Nat,ak p.used n=true->t5.rd n=v.rd n:=fun n hn=>(EZ n (G3.used n hn)).trans (G3.keepRd hn);have adk:∀ n:Nat,ak t1.pool.used n=true->t5.rd n=t1.rd n:=fun n hn=>(EZ n (g3.used n (g2.used n hn))).trans (((g2.trans g3).keepRd hn));have Sf:∀ n:Nat,ak t2.pool.used n=true->t5.rd n=t2.rd n:=fun n hn=>(EZ n (g3.used n hn)).trans (g3.keepRd hn);have yI:∀ n,S1 n\/S2 n->ak t2.pool.used n=true/\n<v.blocks:=by
  intro n hn;rcases hn with hn|hn
  ·have:=p1.grow g2 n hn;exact⟨this.1,by have:=this.2;rw[G2.blocks]at this;exact mL▸this⟩
  ·have:=p2 n hn;exact⟨this.1,by have:=this.2;rw[G2.blocks]at this;exact mL▸this⟩
 obtain⟨u,hu⟩:∃ u:Vs,u={ v with rd:=t5.rd,num:=v.num+1,recs:=[],b:=⟨table,snaps,mapped,p4.next,if more=[]then v.b.id else v.b.id+1,inos,l2,pl3,ar v.T⟩ }:=⟨_,rfl⟩
 have bh:bB v list more=.ok u:=by
  unfold bB;simp only[sB,e1,e2,e3,hx,lj,Bt,I8,e4,e5,e6,EK,Bi,Vu,e7,bind,Except.bind];rw[hu]
 have Y7:u.b.planes=pl3:=by rw[hu]
 have huB:u.blocks=v.blocks:=by rw[hu]
 have j4:lM t5.rd inos (ar v.T) table (fun n=>S1 n\/S2 n):=
  ⟨S1,S2,l1.turn fun n hn=>adk n (p1 n hn).1,st2.turn fun n hn=>Sf n (p2 n hn).1,fun n=>Iff.rfl⟩
 have hold:∀ y∈list,∀ inos nodes C,lM v.rd inos nodes y.table C->(∀ n,C n->ak (v.b.planes.getD y.plane.toNat []) n=true)->lM t5.rd inos nodes y.table C:=by
  intro y hy inos nodes C hC hCn;have:=uB.plane y hy;exact hC.turn fun n hn=>Zc n (hU y.plane.toNat n (by omega) (hCn n hn)).1
 have WV:∀ y∈list,u.b.planes.getD y.plane.toNat []=v.b.planes.getD y.plane.toNat []:=by
  intro y hy;have nI:=uB.plane y hy;rw[Y7,xZ _ (by omega) (by omega),atR,<-Bt,nt _ _ _ (by omega),atP]
  ·right
   rw[List.any_eq_true];exact⟨y,hy,by simp;omega⟩
  ·rintro⟨h0,he⟩;rcases hm.more with h'|⟨_,_,_,a4,_⟩
   ·exact absurd h' h0
   ·exact(dY a4).2.2 y hy (by omega)
 have Sg:∀ r n,1<=r->r<8->ak (pl3.getD r []) n=true->ak t2.pool.used n=true/\n<v.blocks/\((S1 n\/S2 n)\/ak (v.b.planes.getD r []) n=true):=by
  intro r n h1 h8 hn;rw[xZ r h1 h8]at hn;split at hn
  ·rw[iL,fK,Bool.or_false,xO]at hn;exact⟨(yI n hn).1,(yI n hn).2,.inl hn⟩
  ·rcases JZ r h8 h1 with e|e
   ·rw[e]at hn;have:=hU r n h8 hn;exact⟨G2.used n this.1,mL▸this.2,.inr hn⟩
   ·rw[e]at hn;cases hn
 have hP0:∀ n,ak (pl3.getD 0 []) n=true↔(S1 n\/S2 n)\/S3 n\/ak own n=true:=by
  intro n;rw[EU,iL,iL,fK,Bool.or_false,at5,rh,xO,or_assoc]
 have V0:∀ n,S3 n->ak t3.pool.used n=true/\n<v.blocks:=by
  intro n hn;have:=p3 n hn;exact⟨this.1,by have:=this.2;rw[ur]at this;exact this⟩
 have Ro:∀ n,Ss n\/ak tA n=true->¬(S1 n\/S2 n)/\∀ r,1<=r->r<8->ak (pl3.getD r []) n=false:=by
  intro n hn;obtain⟨d1,d2⟩:=VW n hn;have hnu:ak p.used n=true:=by
   rcases hn with hn|hn
   ·exact(yT n hn).1
   ·exact(hUo n hn).1
  have hS:¬(S1 n\/S2 n):=by
   rintro(h1|h1)
   ·rcases q1 n h1 with h2|h2
    ·exact d1 ((Ou n).2 (.inl h2))
    ·rw[hnu]at h2;cases h2
   ·rcases q2 n h1 with h2|h2
    ·exact d1 ((Ou n).2 (.inr h2))
    ·rw[g1.used n hnu]at h2;cases h2
  refine⟨hS,fun r h1 h8=>?_⟩
  cases hb:ak (pl3.getD r []) n with
  |false=>rfl
  |true=>
   rcases(Sg r n h1 h8 hb).2.2 with h2|h2
   ·exact absurd h2 hS
   ·rw[d2 r h1 h8]at h2;cases h2
 have qh:bL u+1<=dh u:=by
  obtain⟨n0,IU⟩:∃ n0,0<j6.length->Ss n0:=by
   by_cases h0:0<j6.length
   ·obtain⟨n0,IU⟩:=hSs.any h0;exact⟨n0,fun _=>IU⟩
   ·exact⟨0,fun h=>absurd h h0⟩
  have Sz:=Qj (a:=fun n=>!ak p4.used n) (b:=ak tA) (c:=fun n=>decide (j6≠jU l2/\0<j6.length)&&n==n0) (d:=fun n=>!ak (cV pl3) n) (blocks:=v.blocks) (by
   intro n h1 h2;have key:ak (cV pl3) n=true->ak p4.used n=true/\ak tA n=false/\¬((j6≠jU l2/\0<j6.length)/\n=n0):=by
    intro hn;obtain⟨r,h8,hr⟩:=(oZ Ka n).1 hn;by_cases XD:r=0
    ·subst XD;rcases(hP0 n).1 hr with h3|h3|h3
     ·refine⟨g4.used n (g3.used n (yI n h3).1),?_,?_⟩
      ·cases ho:ak tA n with
       |false=>rfl
       |true=>exact absurd h3 (Ro n (.inr ho)).1
      ·rintro⟨⟨_,hz⟩,rfl⟩;exact(Ro n (.inl (IU hz))).1 h3
     ·refine⟨g4.used n (V0 n h3).1,?_,?_⟩
      ·cases ho:ak tA n with
       |false=>rfl
       |true=>
        rcases q3 n h3 with h5|h5
        ·rw[Re n h5]at ho;cases ho
        ·rw[G2.used n (hUo n ho).1]at h5;cases h5
      ·rintro⟨⟨dZ,hz⟩,rfl⟩;have:=LZ g2.ok Rv Ai.1 Ai.2 Wu dZ (by unfold bL at uh;omega) e4 RL n h3;rw[G2.used n (yT n (IU hz)).1]at this;cases this
     ·rw[qi,at2,Bool.not_eq_true']at h3;refine⟨h3.1,?_,?_⟩
      ·cases ho:ak tA n with
       |false=>rfl
       |true=>rw[G3.used n (hUo n ho).1]at h3;cases h3.2
      ·rintro⟨⟨_,hz⟩,rfl⟩;rw[G3.used n (yT n (IU hz)).1]at h3;cases h3.2
    ·have h5:=Sg r n (by omega) h8 hr;refine⟨g4.used n (g3.used n h5.1),?_,?_⟩
     ·cases ho:ak tA n with
      |false=>rfl
      |true=>rw[(Ro n (.inr ho)).2 r (by omega) h8]at hr;cases hr
     ·rintro⟨⟨_,hz⟩,rfl⟩;rw[(Ro n (.inl (IU hz))).2 r (by omega) h8]at hr;cases hr
   have k1:ak tA n=true->ak p4.used n=true:=fun h=>g4.used n (G3.used n (hUo n h).1);have k2:0<j6.length->n=n0->ak p4.used n=true/\ak tA n=false:=fun hz h=>by subst h;exact⟨g4.used n (G3.used n (yT n (IU hz)).1),Re n (IU hz)⟩
   by_cases he:(j6≠jU l2/\0<j6.length)/\n=n0
   ·obtain⟨a1,a2⟩:=k2 he.1.2 he.2;obtain⟨a3,rfl⟩:=he;simp only[a1,a2,a3,Bool.not_true,beq_self_eq_true,Bool.and_true,Bool.false_eq_true,if_false]
    cases hd:ak (cV pl3) n with
    |false=>simp;split<;>omega
    |true=>exact absurd ⟨a3,rfl⟩ (key hd).2.2
   ·have:(decide (j6≠jU l2/\0<j6.length)&&n==n0)=false:=by
     rw[Bool.eq_false_iff];intro hx;simp only[at2,aua,auq]at hx;exact he hx
    simp only[this,Bool.false_eq_true,if_false]
    cases hd:ak (cV pl3) n with
    |true=>
     obtain⟨a1,a2,_⟩:=key hd;simp[a1,a2]
    |false=>
     cases ho:ak tA n with
     |false=>cases ak p4.used n<;>simp
     |true=>simp[k1 ho])
  rw[<-mE,<-mE]at Sz;have hl4:p4.left=kK p4.used v.blocks:=by
   have:=g4.ok.left;rw[show p4.blocks=v.blocks from g4.blocks.trans ur]at this;exact this
  have ZH:dh u=kK (cV pl3) v.blocks:=by rw[hu];rfl
  have hhu:bL u=bL v:=by rw[hu];rfl
  rw[<-hl4]at Sz;have hhv:bL v=aQ v.blocks:=rfl;rcases WB with⟨bt,hz⟩|hbig
  ·rw[bt]at Sz;by_cases he:j6=jU l2
   ·have:c3=0:=by rw[<-E4,he,kM _ (by omega)]
    rw[ZH,hhu];omega
   ·have:1<=jJ (fun n=>decide (j6≠jU l2/\0<j6.length)&&n==n0) v.blocks:=by
     have h5:=yT n0 (IU hz);exact Qk (n:=n0) (hSs.lt (IU hz)).1 (mL▸h5.2) (by simp[he,hz])
    rw[ZH,hhu];omega
  ·unfold bF at hbig;rw[Ak,Ir]at hbig;rw[ZH,hhu];omega
 have Xz:∀ y∈list,∀ nodes,qH v y nodes->qH u y nodes:=by
  rintro y hy nodes ⟨UZ,J8,hT'⟩;refine⟨UZ,J8,?_⟩;rw[WV y hy,show u.rd=t5.rd by rw[hu]];exact hold y hy J8 nodes _ hT' fun _ h=>h
 have Iw:more≠[]->iz (ar v.T)/\lM u.rd inos (ar v.T) x.table (fun n=>ak (u.b.planes.getD x.plane.toNat []) n=true):=by
  intro h0;refine⟨h.told,?_⟩;rw[show u.rd=t5.rd by rw[hu]];rcases hm.more with h'|⟨_,_,_,a4,_⟩
  ·exact absurd h' h0
  ·have rV:=dY a4;rw[<-hx];refine j4.iff fun n=>?_;rw[Y7];simp only[auo];rw[xZ _ rV.1 (by omega),atP ⟨h0,rfl⟩,iL,fK,Bool.or_false,xO]
 have acu:ma u:=by
  have huN:u.b.nodes=ar v.T:=by rw[hu]
  have huT:u.T=v.T:=by rw[hu]
  refine⟨by rw[huB];exact yS,?_,by rw[Y7];exact Ka,?_,?_,?_,?_,?_,by rw[huN];exact h.told.tojZ,by rw[huT];exact h.told,?_⟩
  ·rw[huB,show u.b.next=p4.next by rw[hu]];have:=g4.ok;exact⟨this.lo,by have h6:=this.hi;rwa [show p4.blocks=v.blocks from g4.blocks.trans ur]at h6⟩
  ·intro r h8;rw[Y7,huB];by_cases hr:r=0
   ·subst hr;refine⟨by rw[EU];exact gF _ _ _,fun n hn=>?_⟩;rcases(hP0 n).1 hn with(h3|h3)|h3|h3
    ·exact⟨(l1.lt n h3).1,(yI n (.inl h3)).2⟩
    ·exact⟨(st2.lt h3).1,(yI n (.inr h3)).2⟩
    ·exact⟨(RL.lt h3).1,(V0 n h3).2⟩
    ·exact I6 n h3
   ·refine⟨?_,fun n hn=>?_⟩
    ·rw[xZ r (by omega) h8];split
     ·exact gF _ _ _
     ·rcases JZ r h8 (by omega)with e|e
      ·rw[e];exact(h.planes r h8).1
      ·rw[e];simp[eT]
    ·obtain⟨_,h3,h4⟩:=Sg r n (by omega) h8 hn;rcases h4 with(h5|h5)|h5
     ·exact⟨(l1.lt n h5).1,h3⟩
     ·exact⟨(st2.lt h5).1,h3⟩
     ·exact⟨((h.planes r h8).2 n h5).1,h3⟩
  ·rw[show u.b.list=l2 by rw[hu],show u.b.id=if more=[]then v.b.id else v.b.id+1 by rw[hu]];exact Ap
  ·intro r h1 h8 hr;rw[show u.b.list=l2 by rw[hu]]at hr;rw[Y7,xZ r h1 h8,atR,<-Bt,nt _ _ _ h8,atR]
   ·rintro(h3|h3)
    ·omega
    ·obtain⟨y,hy,he⟩:=List.any_eq_true.1 h3;have hyl:y∈l2:=by
      rw[<-lj];split
      ·exact hy
      ·exact List.mem_append_left _ hy
     exact hr y hyl (by simpa using he)
   ·rintro⟨h0,he⟩;have Rp:x∈l2:=by rw[<-lj,atR h0];simp
    exact hr x Rp (by rw[<-hx,he])
  ·intro y hy;rw[show u.b.list=l2 by rw[hu]]at hy;rcases Bm y hy with hy|⟨rfl,h0⟩
   ·obtain⟨J8,Rz,UZ,hT'⟩:=h.snaps y (hm.sub.subset hy);obtain⟨_,ac4,hT2⟩:=Xz y hy Rz ⟨UZ,J8,hT'⟩;exact⟨ac4,Rz,UZ,hT2⟩
   ·exact⟨inos,ar v.T,h.told,(Iw h0).2⟩
  ·refine⟨fun n=>S1 n\/S2 n,S3,S5,own,?_,?_,?_,?_,?_,?_,?_,?_⟩
   ·rw[hu];exact j4
   ·rw[hu];exact RL.turn fun n hn=>EZ n (V0 n hn).1
   ·rw[hu];exact st5
   ·intro n hn;rcases q5 n hn with h3|h3
    ·exact h3.elim
    ·have h4:ak q.used n=false:=h3;have h5:=(p5 n hn).2;rw[g5.blocks]at h5;have h6:n<v.blocks:=by have h7:n<q.blocks:=h5;omega
     rw[WM]at h4;simpa[h6]using h4
   ·rw[Y7];exact hP0
   ·rw[huB];exact Kr
   ·intro n hn;rw[Y7];rcases hn with hn|hn
    ·rcases q3 n hn with h3|h3
     ·exact Ro n (.inl h3)
     ·refine⟨fun h4=>?_,fun r h1 h8=>?_⟩
      ·rw[(yI n h4).1]at h3;cases h3
      ·cases hb:ak (pl3.getD r []) n with
       |false=>rfl
       |true=>rw[(Sg r n h1 h8 hb).1]at h3;cases h3
    ·rw[qi,at2,Bool.not_eq_true']at hn;refine⟨fun h4=>?_,fun r h1 h8=>?_⟩
     ·rw[g3.used n (yI n h4).1]at hn;cases hn.2
     ·cases hb:ak (pl3.getD r []) n with
      |false=>rfl
      |true=>rw[g3.used n (Sg r n h1 h8 hb).1]at hn;cases hn.2
   ·intro n hn;rw[qi,(V0 n hn).1];simp
  ·rw[zR (by rw[huN,huT]) (by rw[huT];exact h.told.tojZ)];exact qh
 exact⟨u,bh,acu,huB,by rw[hu],by rw[hu],by rw[hu],by rw[hu],by rw[hu],by rw[hu],⟨x,by rw[<-hx],by rw[<-hx],by rw[<-hx,hu],by rw[hu];exact lj.symm,fun h0=>⟨(Iw h0).1,inos,(Iw h0).2⟩⟩,Xz,zR (by rw[hu]) (by rw[hu];exact h.told.tojZ),fun y hy=>⟨WV y hy,fun n hn=>by rw[show u.rd=t5.rd by rw[hu]];exact Zc n (hU y.plane.toNat n (by have:=uB.plane y hy;omega) hn).1⟩⟩
theorem xk {v:Vs}{list:List Sn}{more:ay}(h:ma v)(hm:fG v list more):∃ u,JK v list more u:=t8 h.ready hm
section
theorem pL {s:ay}{k:Nat}(h:eT s)(hn:∀ n,ak s n=true->n<8*k):s.length<=k:=by
 rcases List.eq_nil_or_concat s with rfl|⟨r,b,rfl⟩
 ·simp
 ·have hb:b≠0:=by intro e;subst e;exact h (by simp)
  obtain⟨j,hj,aiP⟩:=Ck hb;have:=hn (8*r.length+j) (by rw[dR hj];simpa using aiP);simp;omega
structure qI (was:List fF)(bg:Int->ay)(U:Pl)(mN:Nat->Prop)(r:List Nt)(t:gA):Prop where
 all:∀ n,mN n->ak U.used n=true/\n<U.blocks
 ok:cE t.pool
 blocks:t.pool.blocks=U.blocks
 used:∀ n,ak U.used n=true->ak t.pool.used n=true
 each:∀ x∈r,x.data.length<=16384/\∃ A,aR t.rd (bg x.num) (dX was x.num) A/\∀ n,A n->mN n
 cost:(r.map fun x=>da (bg x.num) x.data).sum<=t.pool.left
theorem qI.step {was:List fF}{bg:Int->ay}{U:Pl}{mN:Nat->Prop}{x:Nt}{r:List Nt}{t:gA}(h:qI was bg U mN (x::r) t)(set:ay):
  ∃ b t1 s,dE t (dX was x.num) x.data=.ok (b,t1)/\dI t1.rd set b=.ok s/\(∃ S,aR t1.rd x.data b S)/\(∃ bg S,aR t.rd bg (dX was x.num) S)/\qI was bg U mN r t1:=by
 have hc:=h.cost;rw[atF,atG]at hc;obtain⟨hx,A,hA,hAs⟩:=h.each x (by simp);have hAp:i1 t.pool A:=fun n hn=>⟨h.used n (h.all n (hAs n hn)).1,by rw[h.blocks];exact(h.all n (hAs n hn)).2⟩
 obtain⟨b,t1,S1,e1,h1,g1,p1,q1,k1⟩:=eC h.ok hA hAp hx (by omega);obtain⟨s,e2,lj,h2⟩:=h1.reached set;exact⟨b,t1,s,e1,e2,⟨S1,h1⟩,⟨_,A,hA⟩,⟨h.all,g1.ok,g1.blocks.trans h.blocks,fun n hn=>g1.used n (h.used n hn),fun y hy=>by
   obtain⟨hy1,B,hB,hBs⟩:=h.each y (by simp[hy]);exact⟨hy1,B,hB.turn fun n hn=>g1.keepRd (h.used n (h.all n (hBs n hn)).1),hBs⟩,by have:=g1.left;omega⟩⟩
structure fV where
 inos:List fF
 set:ay
 t1:gA
 table:fR
 t2:gA
 set1:ay
 snaps:fR
 t3:gA
 set2:ay
 p4:Pl
 mapped:fR
 t5:gA
section
variable (r:fV)(v:Vs)(list:List Sn)(more:ay)
def fV.x:Sn:=⟨more,v.b.id,aV list,r.table⟩
def fV.l2:List Sn:=if more=[]then list else list++[r.x v list more]
def fV.pl2:List ay:=if more=[]then kL v.b.planes list else(kL v.b.planes list).set (aV list) (d6 r.set1 [])
def fV.own:ay:=bK r.p4.taken r.t3.pool.taken
def fV.pl3:List ay:=(r.pl2 v list more).set 0 (d6 (d6 r.set2 r.own) [])
def fV.q:Pl:=gm (bK (iE (List.range v.blocks)) r.own) v.blocks r.t3.pool.next
def fV.out:Vs:={ v with rd:=r.t5.rd,num:=v.num+1,recs:=[],b:=⟨r.table,r.snaps,r.mapped,r.p4.next,if more=[]then v.b.id else v.b.id+1,r.inos,r.l2 v list more,r.pl3 v list more,ar v.T⟩ }
structure mI (s:ay)(blocks:Nat):Prop where
 least:eT s
 range:∀ n,ak s n=true->1<=n/\n<blocks
structure DV:Prop where
 lay:∃ bg U mN,qI v.b.inodes bg U mN (ar v.T) ⟨v.rd,gm (cV v.b.planes) v.blocks v.b.next⟩
 e1:mt v.b.inodes (ar v.T) [] ⟨v.rd,gm (cV v.b.planes) v.blocks v.b.next⟩=.ok (r.inos,r.set,r.t1)
 inok:qB r.inos=true
 inlen:r.inos.length<=60/\(jT r.inos).length<=722
 old2:∃ bg S,aR r.t1.rd bg v.b.table S
 e2:dE r.t1 v.b.table (jT r.inos)=.ok (r.table,r.t2)
 new2:∃ S,aR r.t2.rd (jT r.inos) r.table S
 e3:dI r.t2.rd r.set r.table=.ok r.set1
 set1:mI r.set1 v.blocks
 snok:zo (r.l2 v list more)=true
 snlen:(r.l2 v list more).length<=8/\(jU (r.l2 v list more)).length<=240
 old4:∃ bg S,aR r.t2.rd bg v.b.snaps S
 e4:dE r.t2 v.b.snaps (jU (r.l2 v list more))=.ok (r.snaps,r.t3)
 new4:∃ S,aR r.t3.rd (jU (r.l2 v list more)) r.snaps S
 e5:dI r.t3.rd r.set1 r.snaps=.ok r.set2
 e6:oP (aQ v.blocks) r.t3.pool=.ok r.p4
 pools:cE r.t1.pool/\cE r.t2.pool/\cE r.t3.pool/\cE r.p4
 blocks:r.t1.pool.blocks=v.blocks/\r.t2.pool.blocks=v.blocks/\r.t3.pool.blocks=v.blocks/\r.p4.blocks=v.blocks
 house:aQ v.blocks<=r.t3.pool.left
 pset:mI (d6 r.set2 r.own) v.blocks
 e7:dE ⟨r.t3.rd,r.q v⟩ ⟨0,0⟩ (gW (r.pl3 v list more) v.blocks)=.ok (r.mapped,r.t5)
 new7:∃ S,aR r.t5.rd (gW (r.pl3 v list more) v.blocks) r.mapped S
 planes:∀ p,p<8->mI ((r.pl3 v list more).getD p []) v.blocks
 eight:(r.pl3 v list more).length=8
end
theorem DV.run {r:fV}{v:Vs}{list:List Sn}{more:ay}(h:DV r v list more):bB v list more=.ok (r.out v list more):=by
 have e2:=h.e2;have e4:=h.e4;have e5:=h.e5;have e7:=h.e7;unfold fV.l2 fV.x at e4;unfold fV.q fV.pl3 fV.pl2 fV.own at e7;unfold bB;simp only[h.e1,h.e2,h.e3,e4,e5,h.e6,e7,bind,Except.bind];rfl
theorem Us {rd:Rd}{inos:List fF}{nodes:List Nt}{S:Nat->Prop}(h:mu rd inos nodes S)(hn:jZ nodes):qB inos=true:=by
 have key:∀ {was:Int} {inos:List fF} {nodes:List Nt} {S:Nat->Prop},mu rd inos nodes S->lP was nodes=true->(∀ x∈nodes,1<=x.links/\x.links<=3600)->yu was inos=true:=by
  intro was inos
  induction inos generalizing was with
  |nil=>intro nodes S _ _ _;rfl
  |cons y ys ih=>
   intro nodes S h h1 h2
   cases nodes with
   |nil=>exact h.elim
   |cons x xs=>
    obtain⟨⟨a1,a2,a3⟩,A,B,b1,b2,b3⟩:=h;simp only[lP,at2,aua]at h1;have h3:=h2 x (by simp);have:=ih (was:=y.num) b2 (by rw[a1];exact h1.2) fun z hz=>h2 z (by simp[hz]);simp only[yu,at2,aua];exact⟨⟨⟨⟨⟨by omega,by omega⟩,by omega⟩,by omega⟩,b1.may⟩,this⟩
 unfold qB;rw[key h hn.nums hn.links,Bool.and_true,aua];have:=h.len;have:=hn.many;omega
theorem Ut {l:List Sn}{id:Nat}(h:ji l id)(ht:∀ x∈l,x.table.ok=true):zo l=true:=by
 have h1:∀ x∈l,0<x.id/\x.id<=1099511627776:=fun x hx=>by have:=h.idlo x hx;have:=h.top;omega
 have key:∀(l:List Sn) (was:Int),(∀ x∈l,was<x.id)->l.Pairwise (fun a b=>a.id<b.id)->(∀ x∈l,aH x.name=true/\1<=x.plane/\x.plane<=7/\x.table.ok=true/\x.id<=1099511627776)->SI was l=true:=by
  intro l
  induction l with
  |nil=>intros;rfl
  |cons y ys ih=>
   intro was h1 h2 h3;obtain⟨h4,h5⟩:=auQ.1 h2;obtain⟨a1,a2,a3,a4,a5⟩:=h3 y (by simp);simp only[SI,at2,aua];exact⟨⟨⟨⟨⟨⟨a1,h1 y (by simp)⟩,a5⟩,a2⟩,a3⟩,a4⟩,ih y.id h4 h5 fun x hx=>h3 x (by simp[hx])⟩
 unfold zo;rw[key l 0 (fun x hx=>(h1 x hx).1) h.ids fun x hx=>⟨(h.name x hx).1,(h.plane x hx).1,(h.plane x hx).2,ht x hx,(h1 x hx).2⟩,Bool.and_true,aua];have:=h.many;omega
theorem DW {v:Vs}{list:List Sn}{more:ay}(h:mF v)(hm:fG v list more):∃ r:fV,DV r v list more:=by
 obtain⟨A,B,Ss,tA,xW,j6,hA,hB,EF,hSs,Wu,Iv,VW,Re,WB⟩:=h.here;obtain⟨S,Ou⟩:∃ S:Nat->Prop,∀ n,S n↔A n\/B n:=⟨fun n=>A n\/B n,fun _=>Iff.rfl⟩
 simp only[<-Ou]at Iv VW;have lR:=h.room;have yS:=h.many;obtain⟨p,sB⟩:∃ p,gm (cV v.b.planes) v.blocks v.b.next=p:=⟨_,rfl⟩
 have hp:cE p:=sB▸rL h.next.1 h.next.2 yS.2;have hpu:p.used=cV v.b.planes:=by rw[<-sB];rfl
 have Oi:p.taken=[]:=by rw[<-sB];rfl
 have mL:p.blocks=v.blocks:=by rw[<-sB];rfl
 have nI:p.left=dh v:=by rw[<-sB];rfl
 have hU:∀ q n,q<8->ak (v.b.planes.getD q []) n=true->ak p.used n=true/\n<p.blocks:=by
  intro q n hq hn;rw[hpu,mL];exact⟨(oZ h.eight n).2 ⟨q,hq,hn⟩,((h.planes q hq).2 n hn).2⟩
 have Y4:∀ n,S n->ak p.used n=true/\n<p.blocks:=fun n hn=>hU 0 n (by decide) ((Iv n).2 (.inl hn));have hUA:∀ n,A n->ak p.used n=true/\n<p.blocks:=fun n hn=>Y4 n ((Ou n).2 (.inl hn));have hUB:∀ n,B n->ak p.used n=true/\n<p.blocks:=fun n hn=>Y4 n ((Ou n).2 (.inr hn));have yT:∀ n,Ss n->ak p.used n=true/\n<p.blocks:=fun n hn=>hU 0 n (by decide) ((Iv n).2 (.inr (.inl hn)));have hUo:∀ n,ak tA n=true->ak p.used n=true/\n<p.blocks:=fun n hn=>hU 0 n (by decide) ((Iv n).2 (.inr (.inr hn)));obtain⟨tb,Ir⟩:∃ tb,(if ar v.T=v.b.nodes then 0 else aQ (2+12*(ar v.T).length))=tb:=⟨_,rfl⟩
 obtain⟨c1,Ak⟩:∃ c1,((ar v.T).map fun x=>da (cF v.b.nodes x.num) x.data).sum=c1:=⟨_,rfl⟩
 have uh:bL v+1+c1+tb<=p.left:=by
  rw[nI];unfold bF at lR;rw[Ak,Ir]at lR;exact lR
 obtain⟨inos,set,t1,S1,e1,l1,g1,p1,q1,ls1,uC,k1⟩:=xg v.b.inodes (cF v.b.nodes) p A hUA (ar v.T) [] ⟨v.rd,p⟩ hp rfl (fun _ h=>h)
  (fun x hx=>by
   obtain⟨bg,C,h1,h2,h3⟩:=hA.find x.num;exact⟨h.told.data x hx,C,by rw[<-h3];exact h1,h2⟩) (by rw[Ak];show c1<=p.left;omega) (by simp[eT])
 rw[Ak]at g1;have J7:aR t1.rd (xW) v.b.table B:=hB.turn fun n hn=>g1.keepRd (hUB n hn).1;have aU:=DU l1 h.told.tojZ;have BO:da (xW) (jT inos)<=tb:=by
  by_cases he:ar v.T=v.b.nodes
  ·have:=(k1 fun x hx=>by rw[he]at hx;exact oX h.nodes.nums x hx).1;rw[this,EF he,he,sV hA h.nodes.nums,kM _ (by rw[<-EF he];exact hB.1)];exact auw _
  ·rw[atR he]at Ir;rw[<-Ir];exact atE (gt _ _) (vV aU.1 (by have:=h.told.many;omega))
 obtain⟨c2,II⟩:∃ c2,da (xW) (jT inos)=c2:=⟨_,rfl⟩
 rw[II]at BO;have Zd:t1.pool.left+c1=p.left:=g1.left;obtain⟨table,t2,S2,e2,st2,g2,p2,q2,_⟩:=eC (data:=jT inos) g1.ok J7 (i1.grow (t:=⟨v.rd,p⟩) hUB g1) (by omega) (by rw[II];omega);rw[II]at g2;obtain⟨set1,e3,ls2,lh⟩:=st2.reached set;have Y6:t2.pool.left+c2=t1.pool.left:=g2.left;have G2:dg ⟨v.rd,p⟩ t2 (c1+c2):=g1.trans g2;have xO:∀ n,ak set1 n=true↔S1 n\/S2 n:=fun n=>by rw[lh,uC];simp[fK]
 obtain⟨x,hx⟩:∃ x:Sn,(⟨more,v.b.id,aV list,table⟩:Sn)=x:=⟨_,rfl⟩
 obtain⟨l2,lj⟩:∃ l2,(if more=[]then list else list++[x])=l2:=⟨_,rfl⟩
 have uB:=t6 h.list hm.sub;have Ap:ji l2 (if more=[]then v.b.id else v.b.id+1):=by
  rcases hm.more with h0|⟨a1,a2,a3,a4,a5⟩
  ·rw[atP h0]at lj ⊢;rw[<-lj];exact uB
  ·by_cases h0:more=[]
   ·rw[atP h0]at lj ⊢;rw[<-lj];exact uB
   ·rw[atR h0]at lj ⊢;rw[<-lj,<-hx];exact t7 uB a4 a1 a2 a3 a5
 have Bm:∀ y∈l2,y∈list\/(y=x/\more≠[]):=by
  intro y hy;by_cases h0:more=[]
  ·rw[atP h0]at lj;rw[<-lj]at hy;exact .inl hy
  ·rw[atR h0]at lj;rw[<-lj]at hy;rcases auP.1 hy with hy|hy
   ·exact .inl hy
   ·simp at hy;exact .inr ⟨hy,h0⟩
 have IV:∀ y∈v.b.list,y.table.ok=true:=by
  intro y hy;obtain⟨_,_,_,C,D,_,hD,_⟩:=h.snaps y hy;exact hD.may
 have J1:∀ y∈l2,y.table.ok=true:=by
  intro y hy;rcases Bm y hy with hy|⟨rfl,_⟩
  ·exact IV y (hm.sub.subset hy)
  ·rw[<-hx];exact st2.may
 have Ai:=xj Ap J1;have Rv:aR t2.rd (j6) v.b.snaps Ss:=hSs.turn fun n hn=>G2.keepRd (yT n hn).1;obtain⟨c3,E4⟩:∃ c3,da (j6) (jU l2)=c3:=⟨_,rfl⟩
 have hc3:c3<=1:=by rw[<-E4];exact atE (gt _ _) (mG Ai.1)
 obtain⟨snaps,t3,S3,e4,RL,g3,p3,q3,k3⟩:=eC (data:=jU l2) g2.ok Rv (i1.grow (t:=⟨v.rd,p⟩) yT G2) (by omega) (by rw[E4];omega);rw[E4]at g3;have aan:t3.pool.left+c3=t2.pool.left:=g3.left;obtain⟨set2,e5,ls3,rh⟩:=RL.reached set1;have G3:dg ⟨v.rd,p⟩ t3 (c1+c2+c3):=G2.trans g3;have ur:t3.pool.blocks=v.blocks:=G3.blocks.trans mL;obtain⟨p4,e6,g4⟩:=xh t3.rd (aQ v.blocks) t3.pool G3.ok (by unfold bL at uh;omega);have ZB:p4.left+aQ v.blocks=t3.pool.left:=g4.left;have G4:dg ⟨v.rd,p⟩ ⟨t3.rd,p4⟩ (c1+c2+c3+aQ v.blocks):=G3.trans (b:=t3) g4;obtain⟨own,EK⟩:∃ own,bK p4.taken t3.pool.taken=own:=⟨_,rfl⟩
 have qi:∀ n,ak own n=(ak p4.used n&&!ak t3.pool.used n):=by
  intro n;have a1:=g4.taken n;rw[<-EK,iM];simp only at a1;rw[a1];have a2:=G3.taken n;simp only[Oi,fK,Bool.false_or]at a2;rw[a2]
  cases ak t3.pool.used n<;>cases ak p.used n<;>simp
 have Kr:jJ (ak own) v.blocks=aQ v.blocks:=by
  have:=DT g4 G3.ok;simp only[ur]at this;rw[<-this];exact i6 fun n _ _=>qi n
 have I6:∀ n,ak own n=true->1<=n/\n<v.blocks:=by
  intro n hn;rw[qi,at2,Bool.not_eq_true']at hn;have:=g4.news n hn.1 hn.2;simp only[ur]at this;exact this
 obtain⟨q,Vu⟩:∃ q,gm (bK (iE (List.range v.blocks)) own) v.blocks t3.pool.next=q:=⟨_,rfl⟩
 have R0:cE q:=by
  have:=G3.ok;rw[<-Vu];exact rL this.lo (by rw[<-ur];exact this.hi) yS.2
 have WM:∀ n,ak q.used n=(decide (n<v.blocks)&&!ak own n):=by
  intro n;rw[<-Vu];show ak (bK (iE (List.range v.blocks)) own) n=_;rw[iM,vk];simp
 have Oq:q.blocks=v.blocks:=by rw[<-Vu];rfl
 have hql:q.left=aQ v.blocks:=by
  rw[R0.left,mE,Oq,<-Kr];refine i6 fun n _ hn=>?_;rw[WM];simp[hn]
 obtain⟨Fg,Bt⟩:∃ pl,kL v.b.planes list=pl:=⟨_,rfl⟩
 obtain⟨pl2,I8⟩:∃ pl,(if more=[]then Fg else Fg.set (aV list) (d6 set1 []))=pl:=⟨_,rfl⟩
 obtain⟨pl3,Bi⟩:∃ pl,pl2.set 0 (d6 (d6 set2 own) [])=pl:=⟨_,rfl⟩
 have Sk:Fg.length=8:=by rw[<-Bt];simp[kL]
 have Rq:pl2.length=8:=by rw[<-I8];split<;>simp[Sk]
 have Ka:pl3.length=8:=by rw[<-Bi];simp[Rq]
 have EU:pl3.getD 0 []=d6 (d6 set2 own) []:=by rw[<-Bi,mH (by omega),atP rfl]
 have xZ:∀ r,1<=r->r<8->pl3.getD r []=if more≠[]/\r=aV list then d6 set1 []else Fg.getD r []:=by
  intro r h1 h8;rw[<-Bi,mH (by omega),atR (by omega),<-I8];by_cases h0:more=[]
  ·rw[atP h0,atR (fun h=>h.1 h0)]
  ·rw[atR h0];have rV:aV list<8:=by
    rcases hm.more with h'|⟨_,_,_,a4,_⟩
    ·exact absurd h' h0
    ·have:=dY a4;omega
   rw[mH (by omega)];by_cases hr:r=aV list
   ·rw[atP hr,atP ⟨h0,hr⟩]
   ·rw[atR hr,atR (fun h=>hr h.2)]
 have JZ:∀ r,r<8->1<=r->Fg.getD r []=v.b.planes.getD r []\/Fg.getD r []=[]:=by
  intro r h8 h1;rw[<-Bt,nt _ _ _ h8];split
  ·exact .inl rfl
  ·exact .inr rfl
 obtain⟨mapped,t5,S5,e7,st5,g5,p5,q5,_⟩:=eC (t:=⟨t3.rd,q⟩) R0 (iY t3.rd) (fun _ h=>h.elim) (data:=gW pl3 v.blocks) (by rw[oW];omega) (by
  have:=gt [] (gW pl3 v.blocks);rw[oW]at this;show _<=q.left;omega)
 have Z9:∀ n:Nat,ak own n=false->t5.rd n=t3.rd n:=by
  intro n hn;refine g5.rd n fun m hme=>?_;obtain rfl:n=m:=by omega
  by_cases aM:n<v.blocks
  ·left;show ak q.used n=true;rw[WM,hn];simp[aM]
  ·right
   cases hu:ak t5.pool.used n with
   |false=>rfl
   |true=>
    have:=g5.news n hu (by show ak q.used n=false;rw[WM];simp[aM]);have h2:n<q.blocks:=this.2;omega
 have EZ:∀ n:Nat,ak t3.pool.used n=true->t5.rd n=t3.rd n:=fun n hn=>Z9 n (by rw[qi,hn];simp);have Zc:∀ n:Nat,ak p.used n=true->t5.rd n=v.rd n:=fun n hn=>(EZ n (G3.used n hn)).trans (G3.keepRd hn);have adk:∀ n:Nat,ak t1.pool.used n=true->t5.rd n=t1.rd n:=fun n hn=>(EZ n (g3.used n (g2.used n hn))).trans (((g2.trans g3).keepRd hn));have Sf:∀ n:Nat,ak t2.pool.used n=true->t5.rd n=t2.rd n:=fun n hn=>(EZ n (g3.used n hn)).trans (g3.keepRd hn);have yI:∀ n,S1 n\/S2 n->ak t2.pool.used n=true/\n<v.blocks:=by
  intro n hn;rcases hn with hn|hn
  ·have:=p1.grow g2 n hn;exact⟨this.1,by have:=this.2;rw[G2.blocks]at this;exact mL▸this⟩
  ·have:=p2 n hn;exact⟨this.1,by have:=this.2;rw[G2.blocks]at this;exact mL▸this⟩
 have Ru:∀ q,q<8->mI (pl3.getD q []) v.blocks:=by
  have aeR:∀ n,S1 n\/S2 n->1<=n/\n<v.blocks:=by
   intro n hn;refine⟨?_,(yI n hn).2⟩;rcases hn with hn|hn
   ·exact(l1.lt n hn).1
   ·exact(st2.lt hn).1
  intro q h8;by_cases h0:q=0
  ·subst h0;rw[EU];refine⟨gF _ _ _,fun n hn=>?_⟩;rw[iL,iL,fK,Bool.or_false,at5,rh,xO]at hn;rcases hn with(hn|hn)|hn
   ·exact aeR n hn
   ·exact⟨(RL.lt hn).1,by have:=(p3 n hn).2;rw[ur]at this;exact this⟩
   ·exact I6 n hn
  ·rw[xZ q (by omega) h8];split
   ·refine⟨gF _ _ _,fun n hn=>?_⟩;rw[iL,fK,Bool.or_false,xO]at hn;exact aeR n hn
   ·rcases JZ q h8 (by omega)with e|e
    ·rw[e];exact⟨(h.planes q h8).1,fun n hn=>(h.planes q h8).2 n hn⟩
    ·rw[e];exact⟨by simp[eT],fun n hn=>by cases hn⟩
 have F1:inos.length<=60:=by have:=l1.len;have:=h.told.many;omega
 have F2:l2.length<=8:=by have:=Ap.many;omega
 have F3:aQ v.blocks<=t3.pool.left:=by unfold bL at uh;omega
 have F4:c1<=p.left:=by omega
 subst Bi I8 Bt Vu EK lj hx sB;exact⟨⟨inos,set,t1,table,t2,set1,snaps,t3,set2,p4,mapped,t5⟩,
  { lay:=⟨cF v.b.nodes,_,A,hUA,hp,rfl,fun _ h=>h,fun x hx=>by
     obtain⟨bg,C,h1,h2,h3⟩:=hA.find x.num;exact⟨h.told.data x hx,C,by rw[<-h3];exact h1,h2⟩,by rw[Ak];exact F4⟩
    e1:=e1,inok:=Us l1 h.told.tojZ,inlen:=⟨F1,aU.2⟩
    old2:=⟨_,_,J7⟩,e2:=e2,new2:=⟨_,st2⟩,e3:=e3
    set1:=⟨ls2,fun n hn=>by
     have hn:=(xO n).1 hn;refine⟨?_,(yI n hn).2⟩;rcases hn with hn|hn
     ·exact(l1.lt n hn).1
     ·exact(st2.lt hn).1⟩
    snok:=Ut Ap J1,snlen:=⟨F2,Ai.1⟩
    old4:=⟨_,_,Rv⟩,e4:=e4,new4:=⟨_,RL⟩,e5:=e5,e6:=e6
    pools:=⟨g1.ok,g2.ok,g3.ok,g4.ok⟩
    blocks:=⟨g1.blocks.trans mL,G2.blocks.trans mL,ur,G4.blocks.trans mL⟩
    house:=F3
    pset:=⟨gF _ _ _,fun n hn=>by
     have h0:=(Ru 0 (by decide)).range n;rw[EU,iL,fK,Bool.or_false]at h0;exact h0 hn⟩
    e7:=e7,new7:=⟨_,st5⟩,planes:=Ru,eight:=Ka }⟩
end
end Go.Proofs.YtkghpdcloaiflaaGreatDoor
