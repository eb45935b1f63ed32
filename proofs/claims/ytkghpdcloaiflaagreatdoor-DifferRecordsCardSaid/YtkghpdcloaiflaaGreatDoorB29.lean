import Derived.Test.YtkghpdcloaiflaaGreatDoorB28
set_option maxHeartbeats 2000000
namespace Go.Proofs.YtkghpdcloaiflaaGreatDoor
open _root_.Go.Proofs.Tryz
theorem mO {l:List ay}{i j:Nat}{s:ay}(hi:i<l.length):(l.set i s).getD j []=if j=i then s else l.getD j []:=by
 rw[List.getD,List.getElem?_set];by_cases h:i=j
 ·subst h;simp[hi]
 ·rw[ava h,ava (Ne.symm h)];rfl
theorem uj {v:Vs}{list:List Sn}{more:ay}(h:mM v)(hm:fI v list more):∃ u,J9 v list more u:=by
 obtain⟨A,B,Ss,tG,yf,kh,hA,hB,Fz,hSs,XX,Ks,Wi,Sa,XL⟩:=h.here;obtain⟨S,OE⟩:∃ S:Nat->Prop,∀ n,S n↔A n\/B n:=⟨fun n=>A n\/B n,fun _=>Iff.rfl⟩
 simp only[<-OE]at Ks Wi;have lX:=h.room;have yY:=h.many;obtain⟨p,sJ⟩:∃ p,gp (cX v.b.planes) v.blocks v.b.next=p:=⟨_,rfl⟩
 have hp:cF p:=sJ▸rV h.next.1 h.next.2 yY.2;have hpu:p.used=cX v.b.planes:=by rw[<-sJ];rfl
 have OB:p.taken=[]:=by rw[<-sJ];rfl
 have mV:p.blocks=v.blocks:=by rw[<-sJ];rfl
 have nQ:p.left=dm v:=by rw[<-sJ];rfl
 have hU:∀ q n,q<8->am (v.b.planes.getD q []) n=true->am p.used n=true/\n<p.blocks:=by
  intro q n hq hn;rw[hpu,mV];exact⟨(ph h.eight n).2 ⟨q,hq,hn⟩,((h.planes q hq).2 n hn).2⟩
 have hUS:∀ n,S n->am p.used n=true/\n<p.blocks:=fun n hn=>hU 0 n (by decide) ((Ks n).2 (.inl hn));have hUA:∀ n,A n->am p.used n=true/\n<p.blocks:=fun n hn=>hUS n ((OE n).2 (.inl hn));have hUB:∀ n,B n->am p.used n=true/\n<p.blocks:=fun n hn=>hUS n ((OE n).2 (.inr hn));have yQ:∀ n,Ss n->am p.used n=true/\n<p.blocks:=fun n hn=>hU 0 n (by decide) ((Ks n).2 (.inr (.inl hn)));have hUo:∀ n,am tG n=true->am p.used n=true/\n<p.blocks:=fun n hn=>hU 0 n (by decide) ((Ks n).2 (.inr (.inr hn)));obtain⟨tb,I6⟩:∃ tb,(if ar v.T=v.b.nodes then 0 else aR (2+12*(ar v.T).length))=tb:=⟨_,rfl⟩
 obtain⟨c1,AF⟩:∃ c1,((ar v.T).map fun x=>db (cG v.b.nodes x.num) x.data).sum=c1:=⟨_,rfl⟩
 have uu:bM v+1+c1+tb<=p.left:=by
  rw[nQ];unfold bH at lX;rw[AF,I6]at lX;exact lX
 obtain⟨inos,set,t1,S1,e1,l1,g1,p1,q1,ls1,sM,k1⟩:=xp v.b.inodes (cG v.b.nodes) p A hUA (ar v.T) [] ⟨v.rd,p⟩ hp rfl (fun _ h=>h)
  (fun x hx=>by
   obtain⟨bg,C,h1,h2,h3⟩:=hA.find x.num;exact⟨h.told.data x hx,C,by rw[<-h3];exact h1,h2⟩) (by rw[AF];show c1<=p.left;omega) (by simp[fT])
 rw[AF]at g1;have Yq:aS t1.rd (yf) v.b.table B:=hB.turn fun n hn=>g1.keepRd (hUB n hn).1;have bA:=Ej l1 h.told.tokc;have BJ:db (yf) (j7 inos)<=tb:=by
  by_cases he:ar v.T=v.b.nodes
  ·have:=(k1 fun x hx=>by rw[he]at hx;exact pf h.nodes.nums x hx).1;rw[this,Fz he,he,ti hA h.nodes.nums,kV _ (by rw[<-Fz he];exact hB.1)];exact avL _
  ·rw[ava he]at I6;rw[<-I6];exact auX (gw _ _) (wj bA.1 (by have:=h.told.many;omega))
 obtain⟨c2,Jo⟩:∃ c2,db (yf) (j7 inos)=c2:=⟨_,rfl⟩
 rw[Jo]at BJ;have abl:t1.pool.left+c1=p.left:=g1.left;obtain⟨table,t2,S2,e2,st2,g2,p2,q2,_⟩:=eH (data:=j7 inos) g1.ok Yq (jc.grow (t:=⟨v.rd,p⟩) hUB g1) (by omega) (by rw[Jo];omega);rw[Jo]at g2;obtain⟨set1,e3,ls2,jH⟩:=st2.reached set;have aaL:t2.pool.left+c2=t1.pool.left:=g2.left;have G2:dj ⟨v.rd,p⟩ t2 (c1+c2):=g1.trans g2;have yy:∀ n,am set1 n=true↔S1 n\/S2 n:=fun n=>by rw[jH,sM];simp[gB]
 obtain⟨x,hx⟩:∃ x:Sn,(⟨more,v.b.id,aW list,table⟩:Sn)=x:=⟨_,rfl⟩
 obtain⟨l2,ls⟩:∃ l2,(if more=[]then list else list++[x])=l2:=⟨_,rfl⟩
 have uI:=uh h.list hm.sub;have Ay:jp l2 (if more=[]then v.b.id else v.b.id+1):=by
  rcases hm.more with h0|⟨a1,a2,a3,a4,a5⟩
  ·rw[au8 h0]at ls ⊢;rw[<-ls];exact uI
  ·by_cases h0:more=[]
   ·rw[au8 h0]at ls ⊢;rw[<-ls];exact uI
   ·rw[ava h0]at ls ⊢;rw[<-ls,<-hx];exact ui uI a4 a1 a2 a3 a5
 have BZ:∀ y∈l2,y∈list\/(y=x/\more≠[]):=by
  intro y hy;by_cases h0:more=[]
  ·rw[au8 h0]at ls;rw[<-ls]at hy;exact .inl hy
  ·rw[ava h0]at ls;rw[<-ls]at hy;rcases av4.1 hy with hy|hy
   ·exact .inl hy
   ·simp at hy;exact .inr ⟨hy,h0⟩
 have Jd:∀ y∈v.b.list,y.table.ok=true:=by
  intro y hy;obtain⟨_,_,_,C,D,_,hD,_⟩:=h.snaps y hy;exact hD.may
 have Ki:∀ y∈l2,y.table.ok=true:=by
  intro y hy;rcases BZ y hy with hy|⟨rfl,_⟩
  ·exact Jd y (hm.sub.subset hy)
  ·rw[<-hx];exact st2.may
 have AA:=xu Ay Ki;have RW:aS t2.rd (kh) v.b.snaps Ss:=hSs.turn fun n hn=>G2.keepRd (yQ n hn).1;obtain⟨c3,Fw⟩:∃ c3,db (kh) (j8 l2)=c3:=⟨_,rfl⟩
 have hc3:c3<=1:=by rw[<-Fw];exact auX (gw _ _) (mN AA.1)
 obtain⟨snaps,t3,S3,e4,Ta,g3,p3,q3,k3⟩:=eH (data:=j8 l2) g2.ok RW (jc.grow (t:=⟨v.rd,p⟩) yQ G2) (by omega) (by rw[Fw];omega);rw[Fw]at g3;have ZX:t3.pool.left+c3=t2.pool.left:=g3.left;obtain⟨set2,e5,ls3,qu⟩:=Ta.reached set1;have G3:dj ⟨v.rd,p⟩ t3 (c1+c2+c3):=G2.trans g3;have uF:t3.pool.blocks=v.blocks:=G3.blocks.trans mV;obtain⟨p4,e6,g4⟩:=xr t3.rd (aR v.blocks) t3.pool G3.ok (by unfold bM at uu;omega);have aaw:p4.left+aR v.blocks=t3.pool.left:=g4.left;have G4:dj ⟨v.rd,p⟩ ⟨t3.rd,p4⟩ (c1+c2+c3+aR v.blocks):=G3.trans (b:=t3) g4;obtain⟨own,E8⟩:∃ own,bV p4.taken t3.pool.taken=own:=⟨_,rfl⟩
 have qr:∀ n,am own n=(am p4.used n&&!am t3.pool.used n):=by
  intro n;have a1:=g4.taken n;rw[<-E8,pF];simp only at a1;rw[a1];have a2:=G3.taken n;simp only[OB,gB,Bool.false_or]at a2;rw[a2]
  cases am t3.pool.used n<;>cases am p.used n<;>simp
 have Kp:jT (am own) v.blocks=aR v.blocks:=by
  have:=Ei g4 G3.ok;simp only[uF]at this;rw[<-this];exact jd fun n _ _=>qr n
 have I7:∀ n,am own n=true->1<=n/\n<v.blocks:=by
  intro n hn;rw[qr,avj,Bool.not_eq_true']at hn;have:=g4.news n hn.1 hn.2;simp only[uF]at this;exact this
 obtain⟨q,Ww⟩:∃ q,gp (bV (iK (List.range v.blocks)) own) v.blocks t3.pool.next=q:=⟨_,rfl⟩
 have Tn:cF q:=by
  have:=G3.ok;rw[<-Ww];exact rV this.lo (by rw[<-uF];exact this.hi) yY.2
 have XA:∀ n,am q.used n=(decide (n<v.blocks)&&!am own n):=by
  intro n;rw[<-Ww];show am (bV (iK (List.range v.blocks)) own) n=_;rw[pF,vz];simp
 have OJ:q.blocks=v.blocks:=by rw[<-Ww];rfl
 have hql:q.left=aR v.blocks:=by
  rw[Tn.left,mJ,OJ,<-Kp];refine jd fun n _ hn=>?_;rw[XA];simp[hn]
 obtain⟨FM,BU⟩:∃ pl,kU v.b.planes list=pl:=⟨_,rfl⟩
 obtain⟨pl2,I1⟩:∃ pl,(if more=[]then FM else FM.set (aW list) (eC set1 []))=pl:=⟨_,rfl⟩
 obtain⟨pl3,BK⟩:∃ pl,pl2.set 0 (eC (eC set2 own) [])=pl:=⟨_,rfl⟩
 have Sl:FM.length=8:=by rw[<-BU];simp[kU]
 have Tk:pl2.length=8:=by rw[<-I1];split<;>simp[Sl]
 have KH:pl3.length=8:=by rw[<-BK];simp[Tk]
 have Fy:pl3.getD 0 []=eC (eC set2 own) []:=by rw[<-BK,mO (by omega),au8 rfl]
 have yi:∀ r,1<=r->r<8->pl3.getD r []=if more≠[]/\r=aW list then eC set1 []else FM.getD r []:=by
  intro r h1 h8;rw[<-BK,mO (by omega),ava (by omega),<-I1];by_cases h0:more=[]
  ·rw[au8 h0,ava (fun h=>h.1 h0)]
  ·rw[ava h0];have sr:aW list<8:=by
    rcases hm.more with h'|⟨_,_,_,a4,_⟩
    ·exact absurd h' h0
    ·have:=d5 a4;omega
   rw[mO (by omega)];by_cases hr:r=aW list
   ·rw[au8 hr,au8 ⟨h0,hr⟩]
   ·rw[ava hr,ava (fun h=>hr h.2)]
 have Kz:∀ r,r<8->1<=r->FM.getD r []=v.b.planes.getD r []\/FM.getD r []=[]:=by
  intro r h8 h1;rw[<-BU,nJ _ _ _ h8];split
  ·exact .inl rfl
  ·exact .inr rfl
 obtain⟨mapped,t5,S5,e7,st5,g5,p5,q5,_⟩:=eH (t:=⟨t3.rd,q⟩) Tn (ja t3.rd) (fun _ h=>h.elim) (data:=gY pl3 v.blocks) (by rw[pa];omega) (by
  have:=gw [] (gY pl3 v.blocks);rw[pa]at this;show _<=q.left;omega)
 have aav:∀ n:Nat,am own n=false->t5.rd n=t3.rd n:=by
  intro n hn;refine g5.rd n fun m hme=>?_;obtain rfl:n=m:=by omega
  by_cases aL:n<v.blocks
  ·left;show am q.used n=true;rw[XA,hn];simp[aL]
  ·right
   cases hu:am t5.pool.used n with
   |false=>rfl
   |true=>
    have:=g5.news n hu (by show am q.used n=false;rw[XA];simp[aL]);have h2:n<q.blocks:=this.2;omega
 have FD:∀ n:Nat,am t3.pool.used n=true->t5.rd n=t3.rd n:=fun n hn=>aav n (by rw[qr,hn];simp);have abj:∀ n:Nat,am p.used n=true->t5.rd n=v.rd n:=fun n hn=>(FD n (G3.used n hn)).trans (G3.keepRd hn);have aeO:∀ n:Nat,am t1.pool.used n=true->t5.rd n=t1.rd n:=fun n hn=>(FD n (g3.used n (g2.used n hn))).trans (((g2.trans g3).keepRd hn));have SZ:∀ n:Nat,am t2.pool.used n=true->t5.rd n=t2.rd n:=fun n hn=>(FD n (g3.used n hn)).trans (g3.keepRd hn);have zm:∀ n,S1 n\/S2 n->am t2.pool.used n=true/\n<v.blocks:=by
  intro n hn;rcases hn with hn|hn
  ·have:=p1.grow g2 n hn;exact⟨this.1,by have:=this.2;rw[G2.blocks]at this;exact mV▸this⟩
  ·have:=p2 n hn;exact⟨this.1,by have:=this.2;rw[G2.blocks]at this;exact mV▸this⟩
 obtain⟨u,hu⟩:∃ u:Vs,u={ v with rd:=t5.rd,num:=v.num+1,recs:=[],b:=⟨table,snaps,mapped,p4.next,if more=[]then v.b.id else v.b.id+1,inos,l2,pl3,ar v.T⟩ }:=⟨_,rfl⟩
 have bh:bD v list more=.ok u:=by
  unfold bD;simp only[sJ,e1,e2,e3,hx,ls,BU,I1,e4,e5,e6,E8,BK,Ww,e7,bind,Except.bind];rw[hu]
 have huP:u.b.planes=pl3:=by rw[hu]
 have huB:u.blocks=v.blocks:=by rw[hu]
 have kj:lM t5.rd inos (ar v.T) table (fun n=>S1 n\/S2 n):=
  ⟨S1,S2,l1.turn fun n hn=>aeO n (p1 n hn).1,st2.turn fun n hn=>SZ n (p2 n hn).1,fun n=>Iff.rfl⟩
 have hold:∀ y∈list,∀ inos nodes C,lM v.rd inos nodes y.table C->(∀ n,C n->am (v.b.planes.getD y.plane.toNat []) n=true)->lM t5.rd inos nodes y.table C:=by
  intro y hy inos nodes C hC hCn;have:=uI.plane y hy;exact hC.turn fun n hn=>abj n (hU y.plane.toNat n (by omega) (hCn n hn)).1
 have YF:∀ y∈list,u.b.planes.getD y.plane.toNat []=v.b.planes.getD y.plane.toNat []:=by
  intro y hy;have nQ:=uI.plane y hy;rw[huP,yi _ (by omega) (by omega),ava,<-BU,nJ _ _ _ (by omega),au8]
  ·right
   rw[List.any_eq_true];exact⟨y,hy,by simp;omega⟩
  ·rintro⟨h0,he⟩;rcases hm.more with h'|⟨_,_,_,a4,_⟩
   ·exact absurd h' h0
   ·exact(d5 a4).2.2 y hy (by omega)
 have SC:∀ r n,1<=r->r<8->am (pl3.getD r []) n=true->am t2.pool.used n=true/\n<v.blocks/\((S1 n\/S2 n)\/am (v.b.planes.getD r []) n=true):=by
  intro r n h1 h8 hn;rw[yi r h1 h8]at hn;split at hn
  ·rw[jJ,gB,Bool.or_false,yy]at hn;exact⟨(zm n hn).1,(zm n hn).2,.inl hn⟩
  ·rcases Kz r h8 h1 with e|e
   ·rw[e]at hn;have:=hU r n h8 hn;exact⟨G2.used n this.1,mV▸this.2,.inr hn⟩
   ·rw[e]at hn;cases hn
 have hP0:∀ n,am (pl3.getD 0 []) n=true↔(S1 n\/S2 n)\/S3 n\/am own n=true:=by
  intro n;rw[Fy,jJ,jJ,gB,Bool.or_false,avl,qu,yy,or_assoc]
 have Wt:∀ n,S3 n->am t3.pool.used n=true/\n<v.blocks:=by
  intro n hn;have:=p3 n hn;exact⟨this.1,by have:=this.2;rw[uF]at this;exact this⟩
 have SA:∀ n,Ss n\/am tG n=true->¬(S1 n\/S2 n)/\∀ r,1<=r->r<8->am (pl3.getD r []) n=false:=by
  intro n hn;obtain⟨d1,d2⟩:=Wi n hn;have hnu:am p.used n=true:=by
   rcases hn with hn|hn
   ·exact(yQ n hn).1
   ·exact(hUo n hn).1
  have hS:¬(S1 n\/S2 n):=by
   rintro(h1|h1)
   ·rcases q1 n h1 with h2|h2
    ·exact d1 ((OE n).2 (.inl h2))
    ·rw[hnu]at h2;cases h2
   ·rcases q2 n h1 with h2|h2
    ·exact d1 ((OE n).2 (.inr h2))
    ·rw[g1.used n hnu]at h2;cases h2
  refine⟨hS,fun r h1 h8=>?_⟩
  cases hb:am (pl3.getD r []) n with
  |false=>rfl
  |true=>
   rcases(SC r n h1 h8 hb).2.2 with h2|h2
   ·exact absurd h2 hS
   ·rw[d2 r h1 h8]at h2;cases h2
 have qw:bM u+1<=dm u:=by
  obtain⟨n0,FZ⟩:∃ n0,0<kh.length->Ss n0:=by
   by_cases h0:0<kh.length
   ·obtain⟨n0,FZ⟩:=hSs.any h0;exact⟨n0,fun _=>FZ⟩
   ·exact⟨0,fun h=>absurd h h0⟩
  have Sz:=QD (a:=fun n=>!am p4.used n) (b:=am tG) (c:=fun n=>decide (kh≠j8 l2/\0<kh.length)&&n==n0) (d:=fun n=>!am (cX pl3) n) (blocks:=v.blocks) (by
   intro n h1 h2;have key:am (cX pl3) n=true->am p4.used n=true/\am tG n=false/\¬((kh≠j8 l2/\0<kh.length)/\n=n0):=by
    intro hn;obtain⟨r,h8,hr⟩:=(ph KH n).1 hn;by_cases hr0:r=0
    ·subst hr0;rcases(hP0 n).1 hr with h3|h3|h3
     ·refine⟨g4.used n (g3.used n (zm n h3).1),?_,?_⟩
      ·cases ho:am tG n with
       |false=>rfl
       |true=>exact absurd h3 (SA n (.inr ho)).1
      ·rintro⟨⟨_,hz⟩,rfl⟩;exact(SA n (.inl (FZ hz))).1 h3
     ·refine⟨g4.used n (Wt n h3).1,?_,?_⟩
      ·cases ho:am tG n with
       |false=>rfl
       |true=>
        rcases q3 n h3 with h5|h5
        ·rw[Sa n h5]at ho;cases ho
        ·rw[G2.used n (hUo n ho).1]at h5;cases h5
      ·rintro⟨⟨dV,hz⟩,rfl⟩;have:=Mq g2.ok RW AA.1 AA.2 XX dV (by unfold bM at uu;omega) e4 Ta n h3;rw[G2.used n (yQ n (FZ hz)).1]at this;cases this
     ·rw[qr,avj,Bool.not_eq_true']at h3;refine⟨h3.1,?_,?_⟩
      ·cases ho:am tG n with
       |false=>rfl
       |true=>rw[G3.used n (hUo n ho).1]at h3;cases h3.2
      ·rintro⟨⟨_,hz⟩,rfl⟩;rw[G3.used n (yQ n (FZ hz)).1]at h3;cases h3.2
    ·have h5:=SC r n (by omega) h8 hr;refine⟨g4.used n (g3.used n h5.1),?_,?_⟩
     ·cases ho:am tG n with
      |false=>rfl
      |true=>rw[(SA n (.inr ho)).2 r (by omega) h8]at hr;cases hr
     ·rintro⟨⟨_,hz⟩,rfl⟩;rw[(SA n (.inl (FZ hz))).2 r (by omega) h8]at hr;cases hr
   have k1:am tG n=true->am p4.used n=true:=fun h=>g4.used n (G3.used n (hUo n h).1);have k2:0<kh.length->n=n0->am p4.used n=true/\am tG n=false:=fun hz h=>by subst h;exact⟨g4.used n (G3.used n (yQ n (FZ hz)).1),Sa n (FZ hz)⟩
   by_cases he:(kh≠j8 l2/\0<kh.length)/\n=n0
   ·obtain⟨a1,a2⟩:=k2 he.1.2 he.2;obtain⟨a3,rfl⟩:=he;simp only[a1,a2,a3,Bool.not_true,beq_self_eq_true,Bool.and_true,Bool.false_eq_true,if_false]
    cases hd:am (cX pl3) n with
    |false=>simp;split<;>omega
    |true=>exact absurd ⟨a3,rfl⟩ (key hd).2.2
   ·have:(decide (kh≠j8 l2/\0<kh.length)&&n==n0)=false:=by
     rw[Bool.eq_false_iff];intro hx;simp only[avj,avo,avF]at hx;exact he hx
    simp only[this,Bool.false_eq_true,if_false]
    cases hd:am (cX pl3) n with
    |true=>
     obtain⟨a1,a2,_⟩:=key hd;simp[a1,a2]
    |false=>
     cases ho:am tG n with
     |false=>cases am p4.used n<;>simp
     |true=>simp[k1 ho])
  rw[<-mJ,<-mJ]at Sz;have hl4:p4.left=kT p4.used v.blocks:=by
   have:=g4.ok.left;rw[show p4.blocks=v.blocks from g4.blocks.trans uF]at this;exact this
  have hfu:dm u=kT (cX pl3) v.blocks:=by rw[hu];rfl
  have hhu:bM u=bM v:=by rw[hu];rfl
  rw[<-hl4]at Sz;have hhv:bM v=aR v.blocks:=rfl;rcases XL with⟨bu,hz⟩|hbig
  ·rw[bu]at Sz;by_cases he:kh=j8 l2
   ·have:c3=0:=by rw[<-Fw,he,kV _ (by omega)]
    rw[hfu,hhu];omega
   ·have:1<=jT (fun n=>decide (kh≠j8 l2/\0<kh.length)&&n==n0) v.blocks:=by
     have h5:=yQ n0 (FZ hz);exact QE (n:=n0) (hSs.lt (FZ hz)).1 (mV▸h5.2) (by simp[he,hz])
    rw[hfu,hhu];omega
  ·unfold bH at hbig;rw[AF,I6]at hbig;rw[hfu,hhu];omega
 have Yr:∀ y∈list,∀ nodes,qV v y nodes->qV u y nodes:=by
  rintro y hy nodes ⟨Xt,KI,hT'⟩;refine⟨Xt,KI,?_⟩;rw[YF y hy,show u.rd=t5.rd by rw[hu]];exact hold y hy KI nodes _ hT' fun _ h=>h
 have Jr:more≠[]->iE (ar v.T)/\lM u.rd inos (ar v.T) x.table (fun n=>am (u.b.planes.getD x.plane.toNat []) n=true):=by
  intro h0;refine⟨h.told,?_⟩;rw[show u.rd=t5.rd by rw[hu]];rcases hm.more with h'|⟨_,_,_,a4,_⟩
  ·exact absurd h' h0
  ·have sr:=d5 a4;rw[<-hx];refine kj.iff fun n=>?_;rw[huP];simp only[avD];rw[yi _ sr.1 (by omega),au8 ⟨h0,rfl⟩,jJ,gB,Bool.or_false,yy]
 have afp:mL u:=by
  have huN:u.b.nodes=ar v.T:=by rw[hu]
  have huT:u.T=v.T:=by rw[hu]
  refine⟨by rw[huB];exact yY,?_,by rw[huP];exact KH,?_,?_,?_,?_,?_,by rw[huN];exact h.told.tokc,by rw[huT];exact h.told,?_⟩
  ·rw[huB,show u.b.next=p4.next by rw[hu]];have:=g4.ok;exact⟨this.lo,by have h6:=this.hi;rwa [show p4.blocks=v.blocks from g4.blocks.trans uF]at h6⟩
  ·intro r h8;rw[huP,huB];by_cases hr:r=0
   ·subst hr;refine⟨by rw[Fy];exact iR _ _ _,fun n hn=>?_⟩;rcases(hP0 n).1 hn with(h3|h3)|h3|h3
    ·exact⟨(l1.lt n h3).1,(zm n (.inl h3)).2⟩
    ·exact⟨(st2.lt h3).1,(zm n (.inr h3)).2⟩
    ·exact⟨(Ta.lt h3).1,(Wt n h3).2⟩
    ·exact I7 n h3
   ·refine⟨?_,fun n hn=>?_⟩
    ·rw[yi r (by omega) h8];split
     ·exact iR _ _ _
     ·rcases Kz r h8 (by omega)with e|e
      ·rw[e];exact(h.planes r h8).1
      ·rw[e];simp[fT]
    ·obtain⟨_,h3,h4⟩:=SC r n (by omega) h8 hn;rcases h4 with(h5|h5)|h5
     ·exact⟨(l1.lt n h5).1,h3⟩
     ·exact⟨(st2.lt h5).1,h3⟩
     ·exact⟨((h.planes r h8).2 n h5).1,h3⟩
  ·rw[show u.b.list=l2 by rw[hu],show u.b.id=if more=[]then v.b.id else v.b.id+1 by rw[hu]];exact Ay
  ·intro r h1 h8 hr;rw[show u.b.list=l2 by rw[hu]]at hr;rw[huP,yi r h1 h8,ava,<-BU,nJ _ _ _ h8,ava]
   ·rintro(h3|h3)
    ·omega
    ·obtain⟨y,hy,he⟩:=List.any_eq_true.1 h3;have hyl:y∈l2:=by
      rw[<-ls];split
      ·exact hy
      ·exact List.mem_append_left _ hy
     exact hr y hyl (by simpa using he)
   ·rintro⟨h0,he⟩;have Ti:x∈l2:=by rw[<-ls,ava h0];simp
    exact hr x Ti (by rw[<-hx,he])
  ·intro y hy;rw[show u.b.list=l2 by rw[hu]]at hy;rcases BZ y hy with hy|⟨rfl,h0⟩
   ·obtain⟨KI,Tp,Xt,hT'⟩:=h.snaps y (hm.sub.subset hy);obtain⟨_,afb,hT2⟩:=Yr y hy Tp ⟨Xt,KI,hT'⟩;exact⟨afb,Tp,Xt,hT2⟩
   ·exact⟨inos,ar v.T,h.told,(Jr h0).2⟩
  ·refine⟨fun n=>S1 n\/S2 n,S3,S5,own,?_,?_,?_,?_,?_,?_,?_,?_⟩
   ·rw[hu];exact kj
   ·rw[hu];exact Ta.turn fun n hn=>FD n (Wt n hn).1
   ·rw[hu];exact st5
   ·intro n hn;rcases q5 n hn with h3|h3
    ·exact h3.elim
    ·have h4:am q.used n=false:=h3;have h5:=(p5 n hn).2;rw[g5.blocks]at h5;have h6:n<v.blocks:=by have h7:n<q.blocks:=h5;omega
     rw[XA]at h4;simpa[h6]using h4
   ·rw[huP];exact hP0
   ·rw[huB];exact Kp
   ·intro n hn;rw[huP];rcases hn with hn|hn
    ·rcases q3 n hn with h3|h3
     ·exact SA n (.inl h3)
     ·refine⟨fun h4=>?_,fun r h1 h8=>?_⟩
      ·rw[(zm n h4).1]at h3;cases h3
      ·cases hb:am (pl3.getD r []) n with
       |false=>rfl
       |true=>rw[(SC r n h1 h8 hb).1]at h3;cases h3
    ·rw[qr,avj,Bool.not_eq_true']at hn;refine⟨fun h4=>?_,fun r h1 h8=>?_⟩
     ·rw[g3.used n (zm n h4).1]at hn;cases hn.2
     ·cases hb:am (pl3.getD r []) n with
      |false=>rfl
      |true=>rw[g3.used n (SC r n h1 h8 hb).1]at hn;cases hn.2
   ·intro n hn;rw[qr,(Wt n hn).1];simp
  ·rw[Ag (by rw[huN,huT]) (by rw[huT];exact h.told.tokc)];exact qw
 exact⟨u,bh,afp,huB,by rw[hu],by rw[hu],by rw[hu],by rw[hu],by rw[hu],by rw[hu],⟨x,by rw[<-hx],by rw[<-hx],by rw[<-hx,hu],by rw[hu];exact ls.symm,fun h0=>⟨(Jr h0).1,inos,(Jr h0).2⟩⟩,Yr,Ag (by rw[hu]) (by rw[hu];exact h.told.tokc),fun y hy=>⟨YF y hy,fun n hn=>by rw[show u.rd=t5.rd by rw[hu]];exact abj n (hU y.plane.toNat n (by have:=uI.plane y hy;omega) hn).1⟩⟩
theorem xw {v:Vs}{list:List Sn}{more:ay}(h:mL v)(hm:fI v list more):∃ u,J9 v list more u:=uj h.ready hm
section
theorem pV {s:ay}{k:Nat}(h:fT s)(hn:∀ n,am s n=true->n<8*k):s.length<=k:=by
 rcases List.eq_nil_or_concat s with rfl|⟨r,b,rfl⟩
 ·simp
 ·have hb:b≠0:=by intro e;subst e;exact h (by simp)
  obtain⟨j,hj,aiu⟩:=CI hb;have:=hn (8*r.length+j) (by rw[dS hj];simpa using aiu);simp;omega
structure qW (was:List fH)(bg:Int->ay)(U:Pl)(mW:Nat->Prop)(r:List Nt)(t:gC):Prop where
 all:∀ n,mW n->am U.used n=true/\n<U.blocks
 ok:cF t.pool
 blocks:t.pool.blocks=U.blocks
 used:∀ n,am U.used n=true->am t.pool.used n=true
 each:∀ x∈r,x.data.length<=16384/\∃ A,aS t.rd (bg x.num) (dZ was x.num) A/\∀ n,A n->mW n
 cost:(r.map fun x=>db (bg x.num) x.data).sum<=t.pool.left
theorem qW.step {was:List fH}{bg:Int->ay}{U:Pl}{mW:Nat->Prop}{x:Nt}{r:List Nt}{t:gC}(h:qW was bg U mW (x::r) t)(set:ay):
  ∃ b t1 s,dG t (dZ was x.num) x.data=.ok (b,t1)/\dK t1.rd set b=.ok s/\(∃ S,aS t1.rd x.data b S)/\(∃ bg S,aS t.rd bg (dZ was x.num) S)/\qW was bg U mW r t1:=by
 have hc:=h.cost;rw[auY,auZ]at hc;obtain⟨hx,A,hA,hAs⟩:=h.each x (by simp);have hAp:jc t.pool A:=fun n hn=>⟨h.used n (h.all n (hAs n hn)).1,by rw[h.blocks];exact(h.all n (hAs n hn)).2⟩
 obtain⟨b,t1,S1,e1,h1,g1,p1,q1,k1⟩:=eH h.ok hA hAp hx (by omega);obtain⟨s,e2,ls,h2⟩:=h1.reached set;exact⟨b,t1,s,e1,e2,⟨S1,h1⟩,⟨_,A,hA⟩,⟨h.all,g1.ok,g1.blocks.trans h.blocks,fun n hn=>g1.used n (h.used n hn),fun y hy=>by
   obtain⟨hy1,B,hB,hBs⟩:=h.each y (by simp[hy]);exact⟨hy1,B,hB.turn fun n hn=>g1.keepRd (h.used n (h.all n (hBs n hn)).1),hBs⟩,by have:=g1.left;omega⟩⟩
structure fY where
 inos:List fH
 set:ay
 t1:gC
 table:fU
 t2:gC
 set1:ay
 snaps:fU
 t3:gC
 set2:ay
 p4:Pl
 mapped:fU
 t5:gC
section
variable (r:fY)(v:Vs)(list:List Sn)(more:ay)
def fY.x:Sn:=⟨more,v.b.id,aW list,r.table⟩
def fY.l2:List Sn:=if more=[]then list else list++[r.x v list more]
def fY.pl2:List ay:=if more=[]then kU v.b.planes list else(kU v.b.planes list).set (aW list) (eC r.set1 [])
def fY.own:ay:=bV r.p4.taken r.t3.pool.taken
def fY.pl3:List ay:=(r.pl2 v list more).set 0 (eC (eC r.set2 r.own) [])
def fY.q:Pl:=gp (bV (iK (List.range v.blocks)) r.own) v.blocks r.t3.pool.next
def fY.out:Vs:={ v with rd:=r.t5.rd,num:=v.num+1,recs:=[],b:=⟨r.table,r.snaps,r.mapped,r.p4.next,if more=[]then v.b.id else v.b.id+1,r.inos,r.l2 v list more,r.pl3 v list more,ar v.T⟩ }
structure mP (s:ay)(blocks:Nat):Prop where
 least:fT s
 range:∀ n,am s n=true->1<=n/\n<blocks
structure Ek:Prop where
 lay:∃ bg U mW,qW v.b.inodes bg U mW (ar v.T) ⟨v.rd,gp (cX v.b.planes) v.blocks v.b.next⟩
 e1:mw v.b.inodes (ar v.T) [] ⟨v.rd,gp (cX v.b.planes) v.blocks v.b.next⟩=.ok (r.inos,r.set,r.t1)
 inok:qN r.inos=true
 inlen:r.inos.length<=60/\(j7 r.inos).length<=722
 old2:∃ bg S,aS r.t1.rd bg v.b.table S
 e2:dG r.t1 v.b.table (j7 r.inos)=.ok (r.table,r.t2)
 new2:∃ S,aS r.t2.rd (j7 r.inos) r.table S
 e3:dK r.t2.rd r.set r.table=.ok r.set1
 set1:mP r.set1 v.blocks
 snok:zI (r.l2 v list more)=true
 snlen:(r.l2 v list more).length<=8/\(j8 (r.l2 v list more)).length<=240
 old4:∃ bg S,aS r.t2.rd bg v.b.snaps S
 e4:dG r.t2 v.b.snaps (j8 (r.l2 v list more))=.ok (r.snaps,r.t3)
 new4:∃ S,aS r.t3.rd (j8 (r.l2 v list more)) r.snaps S
 e5:dK r.t3.rd r.set1 r.snaps=.ok r.set2
 e6:oX (aR v.blocks) r.t3.pool=.ok r.p4
 pools:cF r.t1.pool/\cF r.t2.pool/\cF r.t3.pool/\cF r.p4
 blocks:r.t1.pool.blocks=v.blocks/\r.t2.pool.blocks=v.blocks/\r.t3.pool.blocks=v.blocks/\r.p4.blocks=v.blocks
 house:aR v.blocks<=r.t3.pool.left
 pset:mP (eC r.set2 r.own) v.blocks
 e7:dG ⟨r.t3.rd,r.q v⟩ ⟨0,0⟩ (gY (r.pl3 v list more) v.blocks)=.ok (r.mapped,r.t5)
 new7:∃ S,aS r.t5.rd (gY (r.pl3 v list more) v.blocks) r.mapped S
 planes:∀ p,p<8->mP ((r.pl3 v list more).getD p []) v.blocks
 eight:(r.pl3 v list more).length=8
end
theorem Ek.run {r:fY}{v:Vs}{list:List Sn}{more:ay}(h:Ek r v list more):bD v list more=.ok (r.out v list more):=by
 have e2:=h.e2;have e4:=h.e4;have e5:=h.e5;have e7:=h.e7;unfold fY.l2 fY.x at e4;unfold fY.q fY.pl3 fY.pl2 fY.own at e7;unfold bD;simp only[h.e1,h.e2,h.e3,e4,e5,h.e6,e7,bind,Except.bind];rfl
theorem U6 {rd:Rd}{inos:List fH}{nodes:List Nt}{S:Nat->Prop}(h:my rd inos nodes S)(hn:kc nodes):qN inos=true:=by
 have key:∀ {was:Int} {inos:List fH} {nodes:List Nt} {S:Nat->Prop},my rd inos nodes S->lR was nodes=true->(∀ x∈nodes,1<=x.links/\x.links<=3600)->yJ was inos=true:=by
  intro was inos
  induction inos generalizing was with
  |nil=>intro nodes S _ _ _;rfl
  |cons y ys ih=>
   intro nodes S h h1 h2
   cases nodes with
   |nil=>exact h.elim
   |cons x xs=>
    obtain⟨⟨a1,a2,a3⟩,A,B,b1,b2,b3⟩:=h;simp only[lR,avj,avo]at h1;have h3:=h2 x (by simp);have:=ih (was:=y.num) b2 (by rw[a1];exact h1.2) fun z hz=>h2 z (by simp[hz]);simp only[yJ,avj,avo];exact⟨⟨⟨⟨⟨by omega,by omega⟩,by omega⟩,by omega⟩,b1.may⟩,this⟩
 unfold qN;rw[key h hn.nums hn.links,Bool.and_true,avo];have:=h.len;have:=hn.many;omega
theorem U7 {l:List Sn}{id:Nat}(h:jp l id)(ht:∀ x∈l,x.table.ok=true):zI l=true:=by
 have h1:∀ x∈l,0<x.id/\x.id<=1099511627776:=fun x hx=>by have:=h.idlo x hx;have:=h.top;omega
 have key:∀(l:List Sn) (was:Int),(∀ x∈l,was<x.id)->l.Pairwise (fun a b=>a.id<b.id)->(∀ x∈l,aK x.name=true/\1<=x.plane/\x.plane<=7/\x.table.ok=true/\x.id<=1099511627776)->TB was l=true:=by
  intro l
  induction l with
  |nil=>intros;rfl
  |cons y ys ih=>
   intro was h1 h2 h3;obtain⟨h4,h5⟩:=av5.1 h2;obtain⟨a1,a2,a3,a4,a5⟩:=h3 y (by simp);simp only[TB,avj,avo];exact⟨⟨⟨⟨⟨⟨a1,h1 y (by simp)⟩,a5⟩,a2⟩,a3⟩,a4⟩,ih y.id h4 h5 fun x hx=>h3 x (by simp[hx])⟩
 unfold zI;rw[key l 0 (fun x hx=>(h1 x hx).1) h.ids fun x hx=>⟨(h.name x hx).1,(h.plane x hx).1,(h.plane x hx).2,ht x hx,(h1 x hx).2⟩,Bool.and_true,avo];have:=h.many;omega
theorem El {v:Vs}{list:List Sn}{more:ay}(h:mM v)(hm:fI v list more):∃ r:fY,Ek r v list more:=by
 obtain⟨A,B,Ss,tG,yf,kh,hA,hB,Fz,hSs,XX,Ks,Wi,Sa,XL⟩:=h.here;obtain⟨S,OE⟩:∃ S:Nat->Prop,∀ n,S n↔A n\/B n:=⟨fun n=>A n\/B n,fun _=>Iff.rfl⟩
 simp only[<-OE]at Ks Wi;have lX:=h.room;have yY:=h.many;obtain⟨p,sJ⟩:∃ p,gp (cX v.b.planes) v.blocks v.b.next=p:=⟨_,rfl⟩
 have hp:cF p:=sJ▸rV h.next.1 h.next.2 yY.2;have hpu:p.used=cX v.b.planes:=by rw[<-sJ];rfl
 have OB:p.taken=[]:=by rw[<-sJ];rfl
 have mV:p.blocks=v.blocks:=by rw[<-sJ];rfl
 have nQ:p.left=dm v:=by rw[<-sJ];rfl
 have hU:∀ q n,q<8->am (v.b.planes.getD q []) n=true->am p.used n=true/\n<p.blocks:=by
  intro q n hq hn;rw[hpu,mV];exact⟨(ph h.eight n).2 ⟨q,hq,hn⟩,((h.planes q hq).2 n hn).2⟩
 have hUS:∀ n,S n->am p.used n=true/\n<p.blocks:=fun n hn=>hU 0 n (by decide) ((Ks n).2 (.inl hn));have hUA:∀ n,A n->am p.used n=true/\n<p.blocks:=fun n hn=>hUS n ((OE n).2 (.inl hn));have hUB:∀ n,B n->am p.used n=true/\n<p.blocks:=fun n hn=>hUS n ((OE n).2 (.inr hn));have yQ:∀ n,Ss n->am p.used n=true/\n<p.blocks:=fun n hn=>hU 0 n (by decide) ((Ks n).2 (.inr (.inl hn)));have hUo:∀ n,am tG n=true->am p.used n=true/\n<p.blocks:=fun n hn=>hU 0 n (by decide) ((Ks n).2 (.inr (.inr hn)));obtain⟨tb,I6⟩:∃ tb,(if ar v.T=v.b.nodes then 0 else aR (2+12*(ar v.T).length))=tb:=⟨_,rfl⟩
 obtain⟨c1,AF⟩:∃ c1,((ar v.T).map fun x=>db (cG v.b.nodes x.num) x.data).sum=c1:=⟨_,rfl⟩
 have uu:bM v+1+c1+tb<=p.left:=by
  rw[nQ];unfold bH at lX;rw[AF,I6]at lX;exact lX
 obtain⟨inos,set,t1,S1,e1,l1,g1,p1,q1,ls1,sM,k1⟩:=xp v.b.inodes (cG v.b.nodes) p A hUA (ar v.T) [] ⟨v.rd,p⟩ hp rfl (fun _ h=>h)
  (fun x hx=>by
   obtain⟨bg,C,h1,h2,h3⟩:=hA.find x.num;exact⟨h.told.data x hx,C,by rw[<-h3];exact h1,h2⟩) (by rw[AF];show c1<=p.left;omega) (by simp[fT])
 rw[AF]at g1;have Yq:aS t1.rd (yf) v.b.table B:=hB.turn fun n hn=>g1.keepRd (hUB n hn).1;have bA:=Ej l1 h.told.tokc;have BJ:db (yf) (j7 inos)<=tb:=by
  by_cases he:ar v.T=v.b.nodes
  ·have:=(k1 fun x hx=>by rw[he]at hx;exact pf h.nodes.nums x hx).1;rw[this,Fz he,he,ti hA h.nodes.nums,kV _ (by rw[<-Fz he];exact hB.1)];exact avL _
  ·rw[ava he]at I6;rw[<-I6];exact auX (gw _ _) (wj bA.1 (by have:=h.told.many;omega))
 obtain⟨c2,Jo⟩:∃ c2,db (yf) (j7 inos)=c2:=⟨_,rfl⟩
 rw[Jo]at BJ;have abl:t1.pool.left+c1=p.left:=g1.left;obtain⟨table,t2,S2,e2,st2,g2,p2,q2,_⟩:=eH (data:=j7 inos) g1.ok Yq (jc.grow (t:=⟨v.rd,p⟩) hUB g1) (by omega) (by rw[Jo];omega);rw[Jo]at g2;obtain⟨set1,e3,ls2,jH⟩:=st2.reached set;have aaL:t2.pool.left+c2=t1.pool.left:=g2.left;have G2:dj ⟨v.rd,p⟩ t2 (c1+c2):=g1.trans g2;have yy:∀ n,am set1 n=true↔S1 n\/S2 n:=fun n=>by rw[jH,sM];simp[gB]
 obtain⟨x,hx⟩:∃ x:Sn,(⟨more,v.b.id,aW list,table⟩:Sn)=x:=⟨_,rfl⟩
 obtain⟨l2,ls⟩:∃ l2,(if more=[]then list else list++[x])=l2:=⟨_,rfl⟩
 have uI:=uh h.list hm.sub;have Ay:jp l2 (if more=[]then v.b.id else v.b.id+1):=by
  rcases hm.more with h0|⟨a1,a2,a3,a4,a5⟩
  ·rw[au8 h0]at ls ⊢;rw[<-ls];exact uI
  ·by_cases h0:more=[]
   ·rw[au8 h0]at ls ⊢;rw[<-ls];exact uI
   ·rw[ava h0]at ls ⊢;rw[<-ls,<-hx];exact ui uI a4 a1 a2 a3 a5
 have BZ:∀ y∈l2,y∈list\/(y=x/\more≠[]):=by
  intro y hy;by_cases h0:more=[]
  ·rw[au8 h0]at ls;rw[<-ls]at hy;exact .inl hy
  ·rw[ava h0]at ls;rw[<-ls]at hy;rcases av4.1 hy with hy|hy
   ·exact .inl hy
   ·simp at hy;exact .inr ⟨hy,h0⟩
 have Jd:∀ y∈v.b.list,y.table.ok=true:=by
  intro y hy;obtain⟨_,_,_,C,D,_,hD,_⟩:=h.snaps y hy;exact hD.may
 have Ki:∀ y∈l2,y.table.ok=true:=by
  intro y hy;rcases BZ y hy with hy|⟨rfl,_⟩
  ·exact Jd y (hm.sub.subset hy)
  ·rw[<-hx];exact st2.may
 have AA:=xu Ay Ki;have RW:aS t2.rd (kh) v.b.snaps Ss:=hSs.turn fun n hn=>G2.keepRd (yQ n hn).1;obtain⟨c3,Fw⟩:∃ c3,db (kh) (j8 l2)=c3:=⟨_,rfl⟩
 have hc3:c3<=1:=by rw[<-Fw];exact auX (gw _ _) (mN AA.1)
 obtain⟨snaps,t3,S3,e4,Ta,g3,p3,q3,k3⟩:=eH (data:=j8 l2) g2.ok RW (jc.grow (t:=⟨v.rd,p⟩) yQ G2) (by omega) (by rw[Fw];omega);rw[Fw]at g3;have ZX:t3.pool.left+c3=t2.pool.left:=g3.left;obtain⟨set2,e5,ls3,qu⟩:=Ta.reached set1;have G3:dj ⟨v.rd,p⟩ t3 (c1+c2+c3):=G2.trans g3;have uF:t3.pool.blocks=v.blocks:=G3.blocks.trans mV;obtain⟨p4,e6,g4⟩:=xr t3.rd (aR v.blocks) t3.pool G3.ok (by unfold bM at uu;omega);have aaw:p4.left+aR v.blocks=t3.pool.left:=g4.left;have G4:dj ⟨v.rd,p⟩ ⟨t3.rd,p4⟩ (c1+c2+c3+aR v.blocks):=G3.trans (b:=t3) g4;obtain⟨own,E8⟩:∃ own,bV p4.taken t3.pool.taken=own:=⟨_,rfl⟩
 have qr:∀ n,am own n=(am p4.used n&&!am t3.pool.used n):=by
  intro n;have a1:=g4.taken n;rw[<-E8,pF];simp only at a1;rw[a1];have a2:=G3.taken n;simp only[OB,gB,Bool.false_or]at a2;rw[a2]
  cases am t3.pool.used n<;>cases am p.used n<;>simp
 have Kp:jT (am own) v.blocks=aR v.blocks:=by
  have:=Ei g4 G3.ok;simp only[uF]at this;rw[<-this];exact jd fun n _ _=>qr n
 have I7:∀ n,am own n=true->1<=n/\n<v.blocks:=by
  intro n hn;rw[qr,avj,Bool.not_eq_true']at hn;have:=g4.news n hn.1 hn.2;simp only[uF]at this;exact this
 obtain⟨q,Ww⟩:∃ q,gp (bV (iK (List.range v.blocks)) own) v.blocks t3.pool.next=q:=⟨_,rfl⟩
 have Tn:cF q:=by
  have:=G3.ok;rw[<-Ww];exact rV this.lo (by rw[<-uF];exact this.hi) yY.2
 have XA:∀ n,am q.used n=(decide (n<v.blocks)&&!am own n):=by
  intro n;rw[<-Ww];show am (bV (iK (List.range v.blocks)) own) n=_;rw[pF,vz];simp
 have OJ:q.blocks=v.blocks:=by rw[<-Ww];rfl
 have hql:q.left=aR v.blocks:=by
  rw[Tn.left,mJ,OJ,<-Kp];refine jd fun n _ hn=>?_;rw[XA];simp[hn]
 obtain⟨FM,BU⟩:∃ pl,kU v.b.planes list=pl:=⟨_,rfl⟩
 obtain⟨pl2,I1⟩:∃ pl,(if more=[]then FM else FM.set (aW list) (eC set1 []))=pl:=⟨_,rfl⟩
 obtain⟨pl3,BK⟩:∃ pl,pl2.set 0 (eC (eC set2 own) [])=pl:=⟨_,rfl⟩
 have Sl:FM.length=8:=by rw[<-BU];simp[kU]
 have Tk:pl2.length=8:=by rw[<-I1];split<;>simp[Sl]
 have KH:pl3.length=8:=by rw[<-BK];simp[Tk]
 have Fy:pl3.getD 0 []=eC (eC set2 own) []:=by rw[<-BK,mO (by omega),au8 rfl]
 have yi:∀ r,1<=r->r<8->pl3.getD r []=if more≠[]/\r=aW list then eC set1 []else FM.getD r []:=by
  intro r h1 h8;rw[<-BK,mO (by omega),ava (by omega),<-I1];by_cases h0:more=[]
  ·rw[au8 h0,ava (fun h=>h.1 h0)]
  ·rw[ava h0];have sr:aW list<8:=by
    rcases hm.more with h'|⟨_,_,_,a4,_⟩
    ·exact absurd h' h0
    ·have:=d5 a4;omega
   rw[mO (by omega)];by_cases hr:r=aW list
   ·rw[au8 hr,au8 ⟨h0,hr⟩]
   ·rw[ava hr,ava (fun h=>hr h.2)]
 have Kz:∀ r,r<8->1<=r->FM.getD r []=v.b.planes.getD r []\/FM.getD r []=[]:=by
  intro r h8 h1;rw[<-BU,nJ _ _ _ h8];split
  ·exact .inl rfl
  ·exact .inr rfl
 obtain⟨mapped,t5,S5,e7,st5,g5,p5,q5,_⟩:=eH (t:=⟨t3.rd,q⟩) Tn (ja t3.rd) (fun _ h=>h.elim) (data:=gY pl3 v.blocks) (by rw[pa];omega) (by
  have:=gw [] (gY pl3 v.blocks);rw[pa]at this;show _<=q.left;omega)
 have aav:∀ n:Nat,am own n=false->t5.rd n=t3.rd n:=by
  intro n hn;refine g5.rd n fun m hme=>?_;obtain rfl:n=m:=by omega
  by_cases aL:n<v.blocks
  ·left;show am q.used n=true;rw[XA,hn];simp[aL]
  ·right
   cases hu:am t5.pool.used n with
   |false=>rfl
   |true=>
    have:=g5.news n hu (by show am q.used n=false;rw[XA];simp[aL]);have h2:n<q.blocks:=this.2;omega
 have FD:∀ n:Nat,am t3.pool.used n=true->t5.rd n=t3.rd n:=fun n hn=>aav n (by rw[qr,hn];simp);have abj:∀ n:Nat,am p.used n=true->t5.rd n=v.rd n:=fun n hn=>(FD n (G3.used n hn)).trans (G3.keepRd hn);have aeO:∀ n:Nat,am t1.pool.used n=true->t5.rd n=t1.rd n:=fun n hn=>(FD n (g3.used n (g2.used n hn))).trans (((g2.trans g3).keepRd hn));have SZ:∀ n:Nat,am t2.pool.used n=true->t5.rd n=t2.rd n:=fun n hn=>(FD n (g3.used n hn)).trans (g3.keepRd hn);have zm:∀ n,S1 n\/S2 n->am t2.pool.used n=true/\n<v.blocks:=by
  intro n hn;rcases hn with hn|hn
  ·have:=p1.grow g2 n hn;exact⟨this.1,by have:=this.2;rw[G2.blocks]at this;exact mV▸this⟩
  ·have:=p2 n hn;exact⟨this.1,by have:=this.2;rw[G2.blocks]at this;exact mV▸this⟩
 have Sk:∀ q,q<8->mP (pl3.getD q []) v.blocks:=by
  have adq:∀ n,S1 n\/S2 n->1<=n/\n<v.blocks:=by
   intro n hn;refine⟨?_,(zm n hn).2⟩;rcases hn with hn|hn
   ·exact(l1.lt n hn).1
   ·exact(st2.lt hn).1
  intro q h8;by_cases h0:q=0
  ·subst h0;rw[Fy];refine⟨iR _ _ _,fun n hn=>?_⟩;rw[jJ,jJ,gB,Bool.or_false,avl,qu,yy]at hn;rcases hn with(hn|hn)|hn
   ·exact adq n hn
   ·exact⟨(Ta.lt hn).1,by have:=(p3 n hn).2;rw[uF]at this;exact this⟩
   ·exact I7 n hn
  ·rw[yi q (by omega) h8];split
   ·refine⟨iR _ _ _,fun n hn=>?_⟩;rw[jJ,gB,Bool.or_false,yy]at hn;exact adq n hn
   ·rcases Kz q h8 (by omega)with e|e
    ·rw[e];exact⟨(h.planes q h8).1,fun n hn=>(h.planes q h8).2 n hn⟩
    ·rw[e];exact⟨by simp[fT],fun n hn=>by cases hn⟩
 have F1:inos.length<=60:=by have:=l1.len;have:=h.told.many;omega
 have F2:l2.length<=8:=by have:=Ay.many;omega
 have F3:aR v.blocks<=t3.pool.left:=by unfold bM at uu;omega
 have F4:c1<=p.left:=by omega
 subst BK I1 BU Ww E8 ls hx sJ;exact⟨⟨inos,set,t1,table,t2,set1,snaps,t3,set2,p4,mapped,t5⟩,
  { lay:=⟨cG v.b.nodes,_,A,hUA,hp,rfl,fun _ h=>h,fun x hx=>by
     obtain⟨bg,C,h1,h2,h3⟩:=hA.find x.num;exact⟨h.told.data x hx,C,by rw[<-h3];exact h1,h2⟩,by rw[AF];exact F4⟩
    e1:=e1,inok:=U6 l1 h.told.tokc,inlen:=⟨F1,bA.2⟩
    old2:=⟨_,_,Yq⟩,e2:=e2,new2:=⟨_,st2⟩,e3:=e3
    set1:=⟨ls2,fun n hn=>by
     have hn:=(yy n).1 hn;refine⟨?_,(zm n hn).2⟩;rcases hn with hn|hn
     ·exact(l1.lt n hn).1
     ·exact(st2.lt hn).1⟩
    snok:=U7 Ay Ki,snlen:=⟨F2,AA.1⟩
    old4:=⟨_,_,RW⟩,e4:=e4,new4:=⟨_,Ta⟩,e5:=e5,e6:=e6
    pools:=⟨g1.ok,g2.ok,g3.ok,g4.ok⟩
    blocks:=⟨g1.blocks.trans mV,G2.blocks.trans mV,uF,G4.blocks.trans mV⟩
    house:=F3
    pset:=⟨iR _ _ _,fun n hn=>by
     have h0:=(Sk 0 (by decide)).range n;rw[Fy,jJ,gB,Bool.or_false]at h0;exact h0 hn⟩
    e7:=e7,new7:=⟨_,st5⟩,planes:=Sk,eight:=KH }⟩
end
end Go.Proofs.YtkghpdcloaiflaaGreatDoor
