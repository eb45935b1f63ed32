import Derived.Test.YtkghpdcloaiflaaGreatDoorE37
set_option maxHeartbeats 8000000
set_option maxRecDepth 100000
namespace Go.Proofs.YtkghpdcloaiflaaGreatDoor
open _root_.Go.Proofs.Tryz
section
open Go.RowKit
structure Ve (w:World)(p:Nat)(v:Vs)(a:eF)(u:Vs)(a':eF)(w':World):Prop where
 at_:kg w' p u a'
 foot:∀ g,a'.foot p g->a.foot p g\/w.heap.size<=g
 mod:ah (a.foot p) w w'
 text:a.text=ge v.b->a'.text=ge u.b
theorem eg.did {w w':World}{p:Nat}{v u:Vs}{a a':eF}(h:eg w p v a u a' w'):Ve w p v a u a' w':=⟨h.at_,h.foot,h.mod,h.text⟩
theorem Ri (recs:List az):2*recs.length<=(lB recs).length:=by
 unfold lB
 induction recs with
 |nil=>simp
 |cons r l ih=>simp only[avg,auS,auA]at ih ⊢;simp only[avK];omega
theorem uB (d:Dk)(gen used:Nat):(eA d gen used).size=d.size:=by unfold eA;rw[dF,fF]
theorem M0 (d:Dk)(gen:Nat)(old qh:az):bG (LX d gen old qh)=bG d:=by
 have key:∀(x:Dk) (g u:Nat),x.size=d.size->bG (eA x.sync g u)=bG d:=fun x g u e=>by
  unfold bG;rw[uB,dF,e]
 exact key _ _ _ (kB _ _ _ _)
theorem Vf {w w1:World}{p:Nat}{v:Vs}{a:eF}(h:kg w p v a){dl:Dk}{recs:List az}{F:Nat->Prop}(hl:le w1 a.pl dl v.num recs F)(kl:d6 a.Fl F w w1)(hh:bG dl=bG a.dl)
  {q tb:Nat} {A M:Int->Nat} {role:Nat->cT} {T:Tr} {d:Int->Nat} (ht:aI w q T tb A M role) (hw:WF T d) (nT:∀ b,role b≠.none->a.role b≠.none\/¬ a.foot p b):
  kg (w1.setCell ⟨p,14,none⟩ (aq q)) p { v with T:=T,recs:=recs } { a with pt:=q,dl:=dl,role:=role,Fl:=F }/\ah (a.foot p) w (w1.setCell ⟨p,14,none⟩ (aq q)):=by
 have hp:=ai h.own;have m0:ah (fun g=>a.Fl g\/g=p) w w1:=kl.mod.mono fun _ _ h=>.inl h;have m:ah (fun g=>a.Fl g\/g=p) w (w1.setCell ⟨p,14,none⟩ (aq q)):=m0.setCell (p:=⟨p,14,none⟩) (.inl (.inr rfl)) _;have hb1:=ab kl.mod h.own h.nl;have Ce:p<w1.heap.size:=ai hb1;have m1:ah (fun g=>g=p) w1 (w1.setCell ⟨p,14,none⟩ (aq q)):=(ah.refl (fun g=>g=p) w1).setCell (p:=⟨p,14,none⟩) (.inl rfl) _;have hFp:¬ F p:=fun hf=>(kl.foot p hf).elim h.nl (fun h1=>by omega);have SX:∀ b,a.still b->¬(fun g=>a.Fl g\/g=p) b:=fun b hb hh=>by
  have hs:=h.stays b hb;exact hh.elim hs.2.1 hs.2.2
 have rs:∀ b,role b≠.none->¬ a.Fv b/\¬ a.Fl b/\b≠p:=fun b hb=>(nT b hb).elim (fun h1=>h.stays b (.inr (.inl h1))) (fun h1=>⟨fun h2=>h1 (.inr (.inl h2)),fun h2=>h1 (.inr (.inr (.inl h2))),fun h2=>h1 (.inl h2)⟩);have hFn:∀ b,b<w.heap.size->¬ a.Fl b->¬ F b:=fun b hb hn hf=>(kl.foot b hf).elim hn (fun h1=>by omega);refine⟨⟨ag hb1 14 (aq q),h.vol.same (m.on fun g hg hh=>hh.elim (h.apart g hg) (fun e=>h.nv (e▸hg))) m.size,h.rd,h.size,hl.same (m1.on fun g hg e=>hFp (e▸hg)) m1.size,?_,?_,?_,?_,?_,?_,⟨d,hw⟩,?_,h.nv,hFp,?_⟩,m.mono fun g _ hh=>hh.elim (fun h=>.inr (.inr (.inl h))) .inl⟩
 ·show bG dl*64=v.half;rw[hh];exact h.half
 ·exact aA h.inos fun g hg=>m.block g (eh h.inos hg) (SX g (.inr (.inr (.inl hg))))
 ·exact aA h.list fun g hg=>m.block g (eh h.list hg) (SX g (.inr (.inr (.inr (.inl hg)))))
 ·exact aA h.nodes fun g hg=>m.block g (eh h.nodes hg) (SX g (.inr (.inr (.inr (.inr hg)))))
 ·exact h.map.mod m (SX a.pm (.inl rfl))
 ·exact⟨tb,A,M,ht.same (m.on fun b hb hh=>hh.elim (rs b hb).2.1 (rs b hb).2.2) m.size⟩
 ·exact fun b hb hf=>(kl.foot b hf).elim (h.apart b hb) (fun h1=>by have:=h.vol.lt b hb;omega)
 ·intro b hb;have key:b<w.heap.size/\¬ a.Fv b/\¬ a.Fl b/\b≠p:=by
   rcases hb with hb|hb|hb|hb|hb
   ·exact⟨by rw[show b=a.pm from hb];exact h.map.lt,h.stays b (.inl hb)⟩
   ·exact⟨ht.lt b hb,rs b hb⟩
   ·exact⟨eh h.inos hb,h.stays b (.inr (.inr (.inl hb)))⟩
   ·exact⟨eh h.list hb,h.stays b (.inr (.inr (.inr (.inl hb))))⟩
   ·exact⟨eh h.nodes hb,h.stays b (.inr (.inr (.inr (.inr hb))))⟩
  exact⟨key.2.1,hFn b key.1 key.2.2.1,key.2.2.2⟩
theorem ER {v:Vs}{c:bP}{x:Int}(h:ly v c=.error x):x≠0/\yP v c=.ok (x,v):=by
 unfold ly at h;by_cases cq:c.ok=false
 ·rw[auI cq]at h;injection h with h;subst h;exact⟨by decide,by unfold yP;rw[auI cq]⟩
 ·rw[auK cq]at h;refine⟨?_,by unfold yP;rw[auK cq,h]⟩;unfold nB at h;split at h
  ·injection h with h;omega
  ·split at h
   ·injection h with h;omega
   ·split at h
    ·injection h with h;omega
    ·split at h
     ·cases h
     ·split at h
      ·cases h
      ·injection h with h;subst h;assumption
theorem Kb {v:Vs}{c:bP}{T:Tr}(h:ly v c=.ok T):c.ok=true/\nB v c=.ok T/\(T=v.T\/T=(qN v.T c).1):=by
 unfold ly at h;by_cases cq:c.ok=false
 ·rw[auI cq]at h;cases h
 ·rw[auK cq]at h;refine⟨by simpa using cq,h,?_⟩;unfold nB at h;split at h
  ·cases h
  ·split at h
   ·cases h
   ·split at h
    ·cases h
    ·split at h
     ·injection h with h;exact .inl h.symm
     ·split at h
      ·injection h with h;exact .inr h.symm
      ·cases h
theorem xV {v:Vs}{c:bP}{T:Tr}(h:nB v c=.ok T)(h7:c.kind=7):du v c.path=none/\v.b.list.length<7/\v.b.id<1099511627777:=by
 unfold nB at h;split at h
 ·cases h
 ·rename_i h1
  split at h
  ·cases h
  ·rename_i h2
   refine⟨?_,?_,?_⟩
   ·cases hn:du v c.path with
    |none=>rfl
    |some i=>exact absurd ⟨h7,by rw[hn];rfl⟩ h1
   ·apply avv;intro hc;exact h2 ⟨h7,.inl (by omega)⟩
   ·apply avv;intro hc;exact h2 ⟨h7,.inr (by omega)⟩
theorem IJ {v:Vs}{c:bP}{T:Tr}(h:nB v c=.ok T)(h8:c.kind=8):∃ i,du v c.path=some i:=by
 cases hn:du v c.path with
 |some i=>exact⟨i,rfl⟩
 |none=>
  unfold nB at h;rw[auK (fun hh=>by have:=hh.1;omega),auK (fun hh=>by have:=hh.1;omega),auI ⟨h8,by rw[hn];rfl⟩]at h
  cases h
theorem ES {v u:Vs}(h:io v){T:Tr}{kind:Int}{b:Bool}(e:mG v T kind=.ok (b,u)):im v u/\u.num<=v.num+1/\(u.recs=v.recs\/u.recs=[]):=by
 unfold mG at e;split at e
 ·injection e with e;injection e with _ e;subst e;exact⟨im.refl h,by omega,.inl rfl⟩
 ·split at e
  ·simp only[Except.map]at e;injection e with e;injection e with _ e;subst e;exact⟨im.refl h,by omega,.inl rfl⟩
  ·obtain⟨x,hx,hs,_,hr,hn⟩:=fM h;rw[hx]at e;simp only[Except.map]at e;injection e with e;injection e with _ e;subst e;exact⟨hs,by omega,.inr hr⟩
theorem Kc {v v1 u:Vs}{c:bP}{T:Tr}{b:Bool}(cq:c.ok=true)(hm:nB v c=.ok T)
  (e1:(if(c.kind=7\/c.kind=8)\/c.line.length+2<=cl v then(.ok v:Except Int Vs)else bB v v.b.list [])=.ok v1) (e2:mG v1 T c.kind=.ok (b,u)):
  yP v c=if b=false then .ok (151,u)else
   if c.kind=7 then(bB u u.b.list c.path).map fun u=>(0,u)
   else if c.kind=8 then(bB u (u.b.list.eraseIdx ((du u c.path).getD 0)) []).map fun u=>(0,u)
   else if cl u<c.line.length+2 then .ok (72,u)
   else .ok (0,{ u with T:=T,recs:=u.recs++[c.line] }):=by
 unfold yP;rw[auK (by rw[cq];decide),hm];simp only;rw[e1];simp only;rw[e2]
 cases b<;>rfl
theorem EU {w w':World}{p:Nat}{v u:Vs}{a a':eF}(k:eg w p v a u a' w'){q tb:Nat}{A M:Int->Nat}{role:Nat->cT}{T:Tr}(ht:aI w q T tb A M role)(nT:∀ b,role b≠.none->a.role b≠.none\/¬ a.foot p b):
  ∀ b,role b≠.none->a'.role b≠.none\/¬ a'.foot p b:=fun b hb=>(nT b hb).imp (fun h1=>by rw[k.role];exact h1) (fun h1 hf=>(k.foot b hf).elim h1 (fun h2=>by have:=ht.lt b hb;omega))
end
section
open Go.RowKit
attribute [local go_sem] auv
def Rj:Prop:=∀(l:List Sn) (i:Nat) (v:Value) (w:World) (base:Nat),dU oC 5 85 w base v l->i<l.length->l.length<=1000->
 Calls prog 67 #[v,.int .i64 (i:Int),.int .i64 ((i:Int)+1)] w fun e w'=>∃ v',e=.returned v'/\dU oC 5 85 w' base v' (l.eraseIdx i)/\ah (fun g=>v.ownBlock=some g) w w'
structure Y1 (v:Vs)(c:bP):Prop where
 good:io v
 id:v.b.id<=1099511627777
 num:v.num+3<=1099511627776
 small:c.Small
 line:c.ok=true->c.line.length+2<=v.half/\c.line.length<=1300
 nodes:iI (ar (qN v.T c).1)
 name:c.ok=true->c.kind=7->aG c.path=true/\c.path.length<=16/\c.path≠[]
theorem Kd {w:World}{p:Nat}{v:Vs}{a:eF}(h:kg w p v a)(he:tr w){c:bP}(hd:Y1 v c)(RP:c.kind=8->Rj)(nR:QD c):
  Calls prog 25 #[aq p,gt c] w fun e w'=>∃ r u a',yP v c=.ok (r,u)/\e=.returned (.int .i64 r)/\Ve w p v a u a' w':=by
 have dE:af w (w.alloc (.cells (bL c) 55)):=(ah.refl _ w).alloc _;have iM:World.blk (w.alloc (.cells (bL c) 55)) w.heap.size (bL c) 55:=aw _ _ _;have H:=hd0 h;have HE:=hd0 he;have HD:=hd0 hd;have aji:=hd0 RP;have dO:=hd0 dE;have nU:=hd0 iM;have MY:=hd0 (MV (h.keep dE) (he.keep dE) c hd.small hd.good.list.many hd.id nR);obtain⟨cb,Kp⟩:∃ cb,w.heap.size=cb:=⟨_,rfl⟩
 have Hcb:=hd0 Kp;have sI:Hid (∀ g,a.foot p g->g<cb):=hd0 (fun g hg=>by rw[<-Kp];exact h.lt hg);clear h he hd RP dE iM nR;go_enter func25,ntmps25;unfold gt bL;go_wp2_with fail;refine MY.out.mono ?_;rintro e w1 ⟨k1,hm⟩;have bU:=hd0 (dO.out.keep k1);have jp:=hd0 (ab k1 nU.out id);rw[Kp]at jp;clear k1 MY nU
 try rw[Kp]
 clear Kp
 cases hX:ly v c with
 |error x=>
  rw[hX]at hm;simp only at hm;subst hm;obtain⟨sX,nR⟩:=ER hX;have HDO:=hd0 nR;have hx:(x==0)=false:=by simpa using sX
  clear hX nR sX;go_wp2;go_ret;exact⟨x,v,a,HDO.out,rfl,((eg.refl H.out).keep bU.out).did⟩
 |ok T=>
  rw[hX]at hm;simp only at hm;obtain⟨q,tb,A,M,role,d,rfl,ht,hw,Xk⟩:=hm;obtain⟨cq,Jy,hT⟩:=Kb hX;have FJ:=hd0 cq;have Z3:=hd0 Jy;have HTR:=hd0 ht;have HWF:=hd0 hw;have HNT:Hid (iI (ar T)):=hd0 (by
   rcases hT with rfl|rfl
   ·exact HD.out.good.told
   ·exact HD.out.nodes)
  have HAP:Hid (∀ b,role b≠.none->a.role b≠.none\/¬ a.foot p b):=hd0 (fun b hb=>by
   rcases Xk with⟨_,e⟩|h1
   ·exact .inl (by rw[<-e];exact hb)
   ·exact .inr (fun hf=>by have:=sI.out b hf;have:=h1 b hb;have:=dO.out.size;have:=Hcb.out;omega))
  have HRO:Hid (∀ b,role b≠.none->a.role b≠.none\/w.heap.size<=b):=hd0 (fun b hb=>by
   rcases Xk with⟨_,e⟩|h1
   ·exact .inl (by rw[<-e];exact hb)
   ·exact .inr (aux dO.out.size (h1 b hb)))
  have PR:=tD c w1 (HE.out.keep bU.out) HD.out.small;unfold lh at PR;rw[auI cq]at PR;have PR:=hd0 PR;clear hX ht hw Xk cq Jy hT HE;obtain⟨c0,c1,c2,c3,c4⟩:=cE jp.out;go_wp2_with fail;unfold gt bL at PR;refine PR.out.mono ?_;rintro e w2 ⟨rfl,k2⟩;have bu:=hd0 (bU.out.keep k2);have jI:=hd0 (ab k2 jp.out id);have adU:=hd0 (HTR.out.keep k2);clear k2 PR c0 c1 c2 c3 c4 jp HTR bU;obtain⟨c0,c1,c2,c3,c4⟩:=cE jI.out;obtain⟨sb,hsb⟩:∃ sb:Bool,decide (c.kind=7\/c.kind=8)=sb:=⟨_,rfl⟩
  have Hsb:=hd0 hsb;clear hsb
  go_upto_region 5 with fail
  go_cut [9]from 15 to 121 (fun x wx=>x=.bool sb/\wx=w2)
  case first=>
   by_cases h7:c.kind=7
   ·have e:sb=true:=by rw[<-Hsb.out,decide_eq_true (Or.inl h7)]
    rw[h7]at c0;clear h7;go_wp2_with fail;go_meet
    case rel=>exact⟨by rw[e],rfl⟩
   ·have b7:(c.kind==7)=false:=by simpa using h7
    by_cases h8:c.kind=8
    ·have e:sb=true:=by rw[<-Hsb.out,decide_eq_true (Or.inr h8)]
     rw[h8]at c0;clear h7 h8 b7;go_wp2_with fail;go_meet
     case rel=>exact⟨by rw[e],rfl⟩
    ·have b8:(c.kind==8)=false:=by simpa using h8
     have e:sb=false:=by rw[<-Hsb.out,auJ (fun h=>h.elim h7 h8)]
     clear h7 h8;go_wp2_with fail;go_meet
     case rel=>exact⟨by rw[e];try simp[b7,b8],rfl⟩
  case rest=>
   obtain⟨rfl,hwc⟩:=hcut;rw[hwc];clear hwc;have KI:=hd0 (H.out.keep bu.out);obtain⟨rb,SZ⟩:∃ rb:Bool,(!sb&&decide (cl v<c.line.length+2))=rb:=⟨_,rfl⟩
   have KH:=hd0 SZ;have HLN:Hid (c.line.length+2<=v.half/\c.line.length<=1300):=hd0 (HD.out.line FJ.out);clear SZ
   go_upto_region 6 with fail
   go_cut [48]from 15 to 121 (fun x wx=>x=.bool rb/\af w2 wx)
   case first=>
    cases sb with
    |true=>
     have e:rb=false:=by rw[<-KH.out];rfl
     go_wp2_with fail;go_meet
     case rel=>exact⟨by rw[e],ah.refl _ _⟩
    |false=>
     have c1':w2.cell? ⟨p,1,none⟩=some (aq a.pl):=aa KI.out.own 1;have RM:=zV KI.out.log;have hrt:bG a.dl*64-(lB v.recs).length=cl v:=by unfold cl;rw[<-KI.out.half]
     rw[hrt]at RM;have RM:=hd0 RM;have E9:(c.line.length:Int)<=1300:=by have:=HLN.out.2;omega
     have e:rb=decide (cl v<c.line.length+2):=by rw[<-KH.out];simp
     have e2:decide (((cl v:Nat):Int)<(c.line.length:Int)+2)=decide (cl v<c.line.length+2):=by rw[avh];simp only[auY];omega
     rw[<-e2]at e;have HEe:=hd0 e;clear hrt e e2;go_wp2_with fail;refine RM.out.mono ?_;rintro e w3 ⟨rfl,k3⟩;have dZ:=hd0 k3;clear k3;go_wp2_with fail;go_meet
     case rel=>exact⟨by rw[HEe.out],dZ.out⟩
   case rest=>
    obtain⟨rfl,hkc⟩:=hcut;have Fg:=hd0 hkc;clear hkc c0 c1 c2 c3 c4
    go_upto_if 48 with fail
    go_cut []from 15 to 121 (fun wx=>∃ v1 a1,(if(c.kind=7\/c.kind=8)\/c.line.length+2<=cl v then(.ok v:Except Int Vs)else bB v v.b.list [])=.ok v1/\im v v1/\(v1.num<=v.num+1/\(v1.recs=v.recs\/v1.recs=[]))/\eg w2 p v a v1 a1 wx)
    case first=>
     cases rb with
     |false=>
      have SK:Hid ((if(c.kind=7\/c.kind=8)\/c.line.length+2<=cl v then(.ok v:Except Int Vs)else bB v v.b.list [])=.ok v):=hd0 (auI (by
       have h1:=KH.out;have h2:=Hsb.out
       cases sb with
       |true=>exact .inl (of_decide_eq_true h2)
       |false=>
        have h3:decide (cl v<c.line.length+2)=false:=by simpa using h1
        have:=of_decide_eq_false h3;exact .inr (by omega)))
      go_wp2_with fail;go_meet
      case rel=>exact⟨v,a,SK.out,im.refl HD.out.good,⟨by omega,.inl rfl⟩,(eg.refl KI.out).keep Fg.out⟩
     |true=>
      have SK:Hid ((if(c.kind=7\/c.kind=8)\/c.line.length+2<=cl v then(.ok v:Except Int Vs)else bB v v.b.list [])=bB v v.b.list []):=hd0 (auK (by
       have h1:=KH.out;have h2:=Hsb.out
       cases sb with
       |true=>cases h1
       |false=>
        have h3:decide (cl v<c.line.length+2)=true:=by simpa using h1
        have:=of_decide_eq_true h3;exact fun hh=>hh.elim (of_decide_eq_false h2) (fun hh=>by omega)))
      have HVC:=hd0 (KI.out.keep Fg.out);have XZ:wc.cell? ⟨p,11,none⟩=some a.sv:=aa HVC.out.own 11;have PO:=hd0 (kh (tO HVC.out) HD.out.good.ready (eS v) HD.out.id (by have:=HD.out.num;omega));go_wp2_with fail;refine PO.out.mono ?_;rintro e wP ⟨rfl,u,a',hu,gW⟩;have HS:Hid (im v u/\u.num<=v.num+1/\(u.recs=v.recs\/u.recs=[])):=hd0 (by
       obtain⟨u',h1,h2,_,h4,h5⟩:=fM HD.out.good;rw[h1]at hu;injection hu with hu;subst hu;exact⟨h2,by omega,.inr h4⟩)
      have HPT:=hd0 hu;have yZ:=hd0 (eg.ahead Fg.out gW);clear hu gW PO XZ;go_wp2_with fail;go_meet
      case rel=>exact⟨u,a',SK.out.trans HPT.out,HS.out.1,HS.out.2,yZ.out⟩
    case rest=>
     obtain⟨v1,a1,he1,dg,dC,gW⟩:=hcut;have SK:=hd0 he1;have rB:=hd0 dg;have HNU:=hd0 dC;have yZ:=hd0 gW;have ox:=hd0 (ab gW.mod jI.out (fun hf=>by have:=sI.out cb hf;omega));have VX:=hd0 (gW.tree adU.out HAP.out);have V0:=hd0 (EU gW adU.out HAP.out);have FI:=hd0 (MZ gW.at_ dg.good (by rw[dg.id];exact HD.out.id) (by have:=HD.out.num;omega) VX.out HWF.out HNT.out.toNodesOk V0.out c.kind);have I2:=hd0 (ai jI.out);clear he1 dg dC gW jI Fg KH KI;obtain⟨c0,c1,c2,c3,c4⟩:=cE ox.out;go_wp2_with fail;refine FI.out.mono ?_;rintro e w4 ⟨b,u,a2,hf,rfl,NG⟩;have RJ:=ES rB.out.good hf;have HF:=hd0 hf;have HFN:=hd0 RJ;have aj8:=hd0 NG;have HDV:=hd0 (Kc FJ.out Z3.out SK.out hf);have FG:=hd0 (ab NG.mod ox.out (fun hf=>(yZ.out.foot cb hf).elim (fun h1=>by have:=sI.out cb h1;omega) (fun h1=>by have:=I2.out;omega)));have ahO:=hd0 (NG.tree VX.out V0.out);have ah2:=hd0 (EU NG VX.out V0.out);have Xs:Hid (eg w p v a u a2 w4):=hd0 (eg.ahead bu.out (yZ.out.trans NG));clear hf RJ NG FI c0 c1 c2 c3 c4 ox VX V0;obtain⟨c0,c1,c2,c3,c4⟩:=cE FG.out
     cases b with
     |false=>
      have HDO:Hid (yP v c=.ok (151,u)):=hd0 (by rw[HDV.out,auI rfl]);go_wp2;go_ret;exact⟨151,u,a2,HDO.out,rfl,Xs.out.did⟩
     |true=>
      have HDW:Hid (yP v c=if c.kind=7 then(bB u u.b.list c.path).map fun u=>(0,u)
       else if c.kind=8 then(bB u (u.b.list.eraseIdx ((du u c.path).getD 0)) []).map fun u=>(0,u)
       else if cl u<c.line.length+2 then .ok (72,u)
       else .ok (0,{ u with T:=T,recs:=u.recs++[c.line] })):=hd0 (by rw[HDV.out,auK (by decide)])
      have HS:=hd0 (rB.out.trans HFN.out.1);have Wm:Hid (u.b.id<=1099511627777/\u.num<1099511627776):=hd0 ⟨by rw[HS.out.id];exact HD.out.id,by have:=HD.out.num;have:=HFN.out.2.1;have:=HNU.out.1;omega⟩;have Jo:=hd0 aj8.out.at_;by_cases h7:c.kind=7
      ·have HR:Hid (yP v c=(bB u u.b.list c.path).map fun u=>(0,u)):=hd0 (by rw[HDW.out,auI h7]);have Xw:Hid (dX u u.b.list c.path):=hd0 (by
        obtain⟨h1,h2,h3⟩:=xV Z3.out h7;obtain⟨h4,h5,_⟩:=HD.out.name FJ.out h7;exact⟨List.Sublist.refl _,.inr ⟨h4,h5,fun x hx=>by rw[HS.out.list]at hx;exact re h1 x hx,by rw[HS.out.list];exact h2,by rw[HS.out.id];omega⟩⟩)
       rw[h7]at c0;have XZ:w4.cell? ⟨p,11,none⟩=some a2.sv:=aa Jo.out.own 11;have PO:Hid (∀ W,af w4 W->Calls prog 64 #[aq p,a2.sv,aC c.path] W fun e w'=>e=.returned (.int .i64 0)/\∃ x a',bB u u.b.list c.path=.ok x/\eg W p u a2 x a' w'):=hd0 (fun W k=>kh (tO (Jo.out.keep k)) HS.out.good.ready Xw.out Wm.out.1 Wm.out.2);clear h7 HDW HDV
       go_upto_region 15 with fail
       go_region_with (go_at_call 64;refine auN (PO.out _ ((ah.refl _ w4).drew)) ?_;rintro e wP ⟨rfl,x,a',hx,gW⟩;have HX:=hd0 hx;have HTP:=hd0 (eg.ahead ((ah.refl (fun _=>False) w4).drew) gW);clear hx gW)
       all_goals (go_wp2;go_ret;exact⟨0,x,a',by rw[HR.out,HX.out];rfl,rfl,(Xs.out.trans HTP.out).did⟩)
      ·have b7:(c.kind==7)=false:=by simpa using h7
       by_cases h8:c.kind=8
       ·obtain⟨i,hi⟩:=IJ Z3.out h8;rw[<-Rh HS.out.list]at hi;have IU:i<u.b.list.length:=by
         obtain⟨x,hx,_⟩:=IG hi;exact(auP.1 hx).1
        have HR:Hid (yP v c=(bB u (u.b.list.eraseIdx i) []).map fun u=>(0,u)):=hd0 (by rw[HDW.out,auK h7,auI h8,hi];rfl);have Xw:Hid (dX u (u.b.list.eraseIdx i) []):=hd0 ⟨List.eraseIdx_sublist _ _,.inl rfl⟩;have DEL:=hd0 (aji.out h8);have tX:u.b.list.length<=7:=HS.out.good.list.many;have hii:(i:Int)<=7:=by omega
        have NM:=xQ Jo.out (by omega) c.path;rw[hi]at NM;have NM:=hd0 NM;have HIL:=hd0 (And.intro IU tX);rw[h8]at c0;clear h7 h8 HDW HDV hi IU tX b7;unfold xJ at NM;simp only at NM;go_wp2_with fail;refine NM.out.mono ?_;rintro e w5 ⟨rfl,k5⟩;have HV5:=hd0 (Jo.out.keep k5);have lZ:=hd0 k5;have XZ:w5.cell? ⟨p,11,none⟩=some a2.sv:=aa HV5.out.own 11;have CL:=hd0 (pw a2.sv u.b.list w5 HV5.out.list (by have:=HIL.out.2;omega));clear k5 NM c0 c1 c2 c3 c4;go_wp2_with fail;refine CL.out.mono ?_;rintro e w6 ⟨vl,rfl,NN,k6⟩;have rz:=hd0 (lZ.out.keep k6);have HO6:=hd0 NN;have HS5:=hd0 lZ.out.size;have DL:=hd0 (DEL.out u.b.list i vl w6 w5.heap.size NN HIL.out.1 (by have:=HIL.out.2;omega));clear k6 NN CL;go_wp2_with fail;refine DL.out.mono ?_;rintro e w7 ⟨vl2,rfl,ho7,m7⟩;have yR:Hid (af w4 w7):=hd0 (rz.out.trans m7 (fun g hl hg=>by have:=(HO6.out.lt g hg).1;have:=HS5.out;omega));have yv:=hd0 (Jo.out.keep yR.out);have HPM:Hid (An w7 p u a2 vl2 (u.b.list.eraseIdx i)):=hd0 ⟨yv.out,qa ho7,fun g hg=>by
         have h1:=(ho7.lt g hg).1;have h2:=HS5.out;refine⟨fun hf=>?_,fun hf=>?_,fun e=>?_⟩
         ·have:=Jo.out.lt (b:=g) (.inr (.inl hf));omega
         ·have:=Jo.out.lt (b:=g) (.inr (.inr (.inl hf)));omega
         ·have:=Jo.out.lt (b:=g) (.inl e);omega⟩
        have PO:=hd0 (kh HPM.out HS.out.good.ready Xw.out Wm.out.1 Wm.out.2);clear ho7 m7 DL XZ;go_wp2_with fail;refine PO.out.mono ?_;rintro e wP ⟨rfl,x,a',hx,gW⟩;have HX:=hd0 hx;have HTP:=hd0 (eg.ahead yR.out gW);clear hx gW PO;go_wp2;go_ret;exact⟨0,x,a',by rw[HR.out,HX.out];rfl,rfl,(Xs.out.trans HTP.out).did⟩
       ·have b8:(c.kind==8)=false:=by simpa using h8
        have XA:Hid (¬ cl u<c.line.length+2):=hd0 (by
         have h0:=SK.out;have h9:=HLN.out.1;have Sy:∀ x:Vs,x.recs=[]->x.half=v.half->¬ cl x<c.line.length+2:=fun x e1 e2=>by
          unfold cl;rw[e1,e2];simp[lB];omega
         have SI:¬ cl v1<c.line.length+2:=by
          by_cases hr:c.line.length+2<=cl v
          ·rw[auI (.inr hr)]at h0;injection h0 with h0;subst h0;omega
          ·rw[auK (fun hh=>hh.elim (fun hh=>hh.elim h7 h8) hr)]at h0;obtain⟨y,q1,q2,_,q3,_⟩:=fM HD.out.good;rw[q1]at h0;injection h0 with h0;subst h0;exact Sy _ q3 q2.half
         rcases HFN.out.2.2 with e|e
         ·unfold cl at SI ⊢;rw[e,HFN.out.1.half];exact SI
         ·exact Sy u e HS.out.half)
        have HR:Hid (yP v c=.ok (0,{ u with T:=T,recs:=u.recs++[c.line] })):=hd0 (by rw[HDW.out,auK h7,auK h8,auK XA.out]);have c1':w4.cell? ⟨p,1,none⟩=some (aq a2.pl):=aa Jo.out.own 1;have hrm:(lB u.recs).length+c.line.length+2<=bG a2.dl*64:=by
         have h1:=XA.out;unfold cl at h1;rw[Jo.out.half];omega
        have LA:=hd0 (DT Jo.out.log c.line HLN.out.2 hrm (by
         have h1:=Ri u.recs;have h2:bG a2.dl<=8192:=by
          obtain⟨pd,lv,Fd,hl⟩:=Jo.out.log;have:=hl.many.2;unfold bG;omega
         omega))
        clear h7 h8 HDW HDV hrm;go_wp2_with fail;refine LA.out.mono ?_;rintro e w5 ⟨rfl,Fl2,hl5,mt⟩;have Xl:=ab mt.mod Jo.out.own Jo.out.nl;have f14:=ae Xl ⟨p,14,none⟩ rfl;have c14:w5.cell? ⟨p,14,none⟩=some (aq a2.pt):=aa Xl 14;obtain⟨IZ,Kh⟩:=Vf Jo.out hl5 mt (M0 _ _ _ _) ahO.out HWF.out ah2.out;have HD1:=hd0 IZ;have HD2:=hd0 Kh;have Xy:=hd0 mt;clear IZ Kh mt hl5 Xl LA c1';go_wp2;go_ret;refine⟨0,_,_,HR.out,rfl,⟨HD1.out,?_,Xs.out.mod.trans HD2.out (fun g hl hs=>(Xs.out.foot g hs).elim id (fun h1=>absurd h1 (by omega))),fun e=>Xs.out.text e⟩⟩;intro g hg;have up:a2.foot p g->a.foot p g\/w.heap.size<=g:=Xs.out.foot g;rcases hg with hg|hg|hg|hg
        ·exact up (.inl hg)
        ·exact up (.inr (.inl hg))
        ·exact(Xy.out.foot g hg).elim (fun h=>up (.inr (.inr (.inl h)))) (fun h=>.inr (aux Xs.out.mod.size h))
        ·rcases hg with hg|hg|hg|hg|hg
         ·exact up (.inr (.inr (.inr (.inl hg))))
         ·exact(HRO.out g hg).elim (fun h=>.inl (.inr (.inr (.inr (.inr (.inl h)))))) .inr
         ·exact up (.inr (.inr (.inr (.inr (.inr (.inl hg))))))
         ·exact up (.inr (.inr (.inr (.inr (.inr (.inr (.inl hg)))))))
         ·exact up (.inr (.inr (.inr (.inr (.inr (.inr (.inr hg)))))))
end
section
open Go.RowKit
attribute [local go_sem] auv
theorem jG:ar Tr.new=[⟨1,true,1,[0]⟩]:=by
 have e:mg []=[0]:=by unfold mg;rw[aP,dif_pos (by decide)];rfl
 simp[ar,Tr.new,Nd.told,e]
theorem xW:iI (ar Tr.new):=by
 refine⟨⟨by rw[jG];decide,by rw[jG];decide,fun x hx=>?_,fun x hx=>?_⟩,Tr.new,_,Gz,rfl⟩
 ·rw[jG]at hx;simp at hx;subst hx;decide
 ·rw[jG]at hx;simp at hx;subst hx;decide
theorem M9 {w:World}{p1 p2:Nat}{d1 d2:Dk}{F1 F2:Nat->Prop}(h1:bC w p1 d1 F1)(h2:bC w p2 d2 F2)(nT:∀ b,F1 b->¬ F2 b)(sQ:128<=d1.size)(kp:43<=d2.size):
  Calls prog 49 #[aq p1,aq p2] w fun e w'=>∃ p u a,e=.returned (.tuple #[aq p,.int .i64 0])/\kg w' p u a/\bB (dM (iw d1) (d1.size/4) 1 (bG d2*64) Tr.new) [] []=.ok u/\a.text=ge u.b/\(∀ g,a.foot p g->F1 g\/F2 g\/w.heap.size<=g)/\ah (fun g=>F1 g\/F2 g) w w':=by
 have H1:=hd0 h1;have H2:=hd0 h2;have HAP:=hd0 nT;have HS:=hd0 (And.intro sQ kp);have mT:d1.size<=16384:=h1.ok.many;have gV:d2.size<=16384:=h2.ok.many;have HM:=hd0 (And.intro mT gV);have SE:=hd0 (jA h2);have VF:=hd0 (DM h1 (by omega) [] (by decide));have q1:¬(d2.size:Int)<43:=by omega
 clear h1 h2 nT sQ kp mT gV;go_enter func49,ntmps49;go_wp2_with fail;refine SE.out.mono ?_;rintro e wz ⟨rfl,hz⟩;rw[hz];clear hz;go_wp2_with fail;refine VF.out.mono ?_;rintro e w1 ⟨pv,rfl,XU,Fv,Oz,hkv⟩;have HVA:=hd0 Oz;have HKV:=hd0 hkv;have HPV:=hd0 XU;have VB:=oS Oz;have cK:(kK (d1.put 0 (List.replicate 64 0)) [] 1).size=d1.size:=by rw[qH,fF]
 rw[cK]at VB;have VB:=hd0 VB;have Fh:=hd0 cK;have H2b:Hid (bC w1 p2 d2 F2):=hd0 (H2.out.same (hkv.mod.on fun b hb h1=>HAP.out b h1 hb) hkv.mod.size);have NF:=hd0 (DN H2b.out (by have:=HS.out.2;omega) 1 (by decide));have q2:¬((d1.size/4:Nat):Int)<32:=by have:=HS.out.1;omega
 clear Oz hkv XU cK q1 SE VF;go_wp2_with fail;refine VB.out.mono ?_;rintro e wz ⟨rfl,hz⟩;rw[hz];clear hz;go_wp2_with fail;refine NF.out.mono ?_;rintro e w3 ⟨pl,rfl,jJ,Fl,hla,CB⟩;have HLA:=hd0 hla;have Xy:=hd0 CB;have HPL:=hd0 jJ;have Z6:=HVA.out.same (CB.mod.on fun b hb h2=>(HKV.out.foot b hb).elim (fun h1=>HAP.out b h1 h2) (fun h1=>by have:=H2.out.lt b h2;omega)) CB.mod.size;have aih:=hd0 Z6;have VB3:=oS Z6;rw[Fh.out]at VB3;have VB3:=hd0 VB3;clear hla CB jJ Z6 VB NF q2;go_wp2_with fail;refine VB3.out.mono ?_;rintro e wz ⟨rfl,hz⟩;rw[hz];clear hz;have PN:=hd0 (P8 w3 (d1.size/4) (by have:=HS.out.1;have:=HM.out.1;omega));clear VB3;go_wp2_with fail;refine PN.out.mono ?_;rintro e w5 ⟨pm,rfl,hpm,KS,k5⟩;have HMA:=hd0 KS;have HPM:=hd0 hpm;have lZ:=hd0 k5;have TN:=hd0 (UU w5);clear KS hpm k5 PN;go_wp2_with fail;refine TN.out.mono ?_;rintro e w6 ⟨pt,tb,A,M,role,rfl,ht,hr,k6⟩;have HTR:=hd0 ht;have HRO:=hd0 hr;have rz:=hd0 (lZ.out.keep k6);have acU:=hd0 (HMA.out.mod k6 id);clear ht hr k6 TN;go_wp2_with fail;obtain⟨v0,Jl⟩:∃ v0,dM (iw d1) (d1.size/4) 1 (bG d2*64) Tr.new=v0:=⟨_,rfl⟩
 obtain⟨a0,ha0⟩:∃ a0:eF,(⟨pv,pl,pm,pt,.slice none 0 0,.slice none 0 0,.slice none 0 0,kK (d1.put 0 (List.replicate 64 0)) [] 1,eA d2 1 0,[],role,Fv,Fl⟩:eF)=a0:=⟨_,rfl⟩
 obtain⟨W,hW⟩:∃ W,w6.alloc (.cells #[aq pv,aq pl,.int .i64 0,.int .i64 0,.int .i64 0,.int .i64 0,.int .i64 0,.int .i64 0,.int .i64 1,.int .i64 1,.slice none 0 0,.slice none 0 0,aq pm,.slice none 0 0,.pointer (some ⟨pt,0,none⟩),.bool false] 102)=W:=⟨_,rfl⟩
 obtain⟨vb,ZD⟩:∃ vb,w6.heap.size=vb:=⟨_,rfl⟩
 have kW:af w6 W:=by rw[<-hW];exact(ah.refl _ w6).alloc _
 have bW:World.blk W vb #[aq pv,aq pl,.int .i64 0,.int .i64 0,.int .i64 0,.int .i64 0,.int .i64 0,.int .i64 0,.int .i64 1,.int .i64 1,.slice none 0 0,.slice none 0 0,aq pm,.slice none 0 0,.pointer (some ⟨pt,0,none⟩),.bool false] 102:=by rw[<-hW,<-ZD];exact aw _ _ _
 have kW4:af w3 W:=rz.out.keep kW;have hFv:∀ b,Fv b->F1 b\/w.heap.size<=b:=HKV.out.foot;have Tu:∀ b,Fl b->F2 b\/w1.heap.size<=b:=Xy.out.foot;have s1:w.heap.size<=w1.heap.size:=HKV.out.mod.size;have s2:w1.heap.size<=w3.heap.size:=Xy.out.mod.size;have s3:w3.heap.size<=w5.heap.size:=lZ.out.size;have s4:w3.heap.size<=vb:=by rw[<-ZD];exact rz.out.size
 have lv:∀ b,Fv b->b<w1.heap.size:=fun b hb=>HVA.out.lt b hb;have ll:∀ b,Fl b->b<w3.heap.size:=fun b hb=>HLA.out.lt b hb;have lr:∀ b,role b≠.none->w5.heap.size<=b/\b<vb:=fun b hb=>⟨HRO.out b hb,by rw[<-ZD];exact HTR.out.lt b hb⟩
 have lm:w3.heap.size<=pm/\pm<vb:=⟨HPM.out,by rw[<-ZD];exact acU.out.lt⟩
 have l2:∀ b,F2 b->b<w1.heap.size:=fun b hb=>H2b.out.lt b hb;have hx:kg W vb v0 a0:=by
  rw[<-Jl,<-ha0];refine⟨bW,aih.out.same (kW4.on fun _ _=>id) kW4.size,?_,?_,HLA.out.same (kW4.on fun _ _=>id) kW4.size,?_,World.ownsRow_nil _ _ _ _,World.ownsRow_nil _ _ _ _,World.ownsRow_nil _ _ _ _,acU.out.mod kW id,⟨tb,A,M,HTR.out.keep kW⟩,⟨_,Gz⟩,?_,?_,?_,?_⟩
  ·show iw (kK (d1.put 0 (List.replicate 64 0)) [] 1)=iw d1;rw[vN,ud _ _ (by omega)]
  ·show(kK (d1.put 0 (List.replicate 64 0)) [] 1).size/4=d1.size/4;rw[Fh.out]
  ·show bG (eA d2 1 0)*64=bG d2*64;unfold bG;rw[uB]
  ·intro b hb hl;have:=lv b hb;rcases Tu b hl with h2|h2
   ·rcases hFv b hb with h1|h1
    ·exact HAP.out b h1 h2
    ·have:=H2.out.lt b h2;omega
   ·omega
  ·exact fun(hb:Fv vb)=>by have:=lv vb hb;omega
  ·exact fun(hb:Fl vb)=>by have:=ll vb hb;omega
  ·intro b hb;have key:w3.heap.size<=b/\b<vb:=by
    rcases hb with hb|hb|hb|hb|hb
    ·obtain rfl:b=pm:=hb;exact lm
    ·have:=lr b hb;exact⟨by omega,this.2⟩
    ·cases hb
    ·cases hb
    ·cases hb
   exact⟨fun(hf:Fv b)=>by have:=lv b hf;omega,fun(hf:Fl b)=>by have:=ll b hf;omega,by omega⟩
 have qx:∀ g,a0.foot vb g->F1 g\/F2 g\/w.heap.size<=g:=by
  intro g hg;rw[<-ha0]at hg;rcases hg with hg|hg|hg|hg
  ·exact .inr (.inr (by omega))
  ·exact(hFv g hg).imp id (fun h=>.inr h)
  ·exact(Tu g hg).elim (fun h=>.inr (.inl h)) (fun h=>.inr (.inr (by omega)))
  ·rcases hg with hg|hg|hg|hg|hg
   ·have:g=pm:=hg;exact .inr (.inr (by omega))
   ·have:=lr g hg;exact .inr (.inr (by omega))
   ·cases hg
   ·cases hg
   ·cases hg
 have dh:ah (fun g=>F1 g\/F2 g) w W:=((HKV.out.mod.mono fun _ _ h=>.inl h).trans (Xy.out.mod.mono (T:=fun g=>F1 g\/F2 g) fun _ _ h=>.inr h) (fun _ _ h=>h)).trans (kW4.mono (T:=fun g=>F1 g\/F2 g) fun _ _ h=>h.elim) (fun _ _ h=>h);have R7:mM v0:=by
  rw[<-Jl];exact xT _ _ _ _ (by have:=HS.out.1;have:=HM.out.1;omega) xW (by rw[jG];rfl) (fun x hx=>by rw[jG]at hx;simp at hx;subst hx;decide)
 have hpm:An W vb v0 a0 (.slice none 0 0) []:=⟨hx,World.ownsRow_nil _ _ _ _,fun g hg=>by cases hg⟩
 have tY:v0.b.list=[]:=by rw[<-Jl];rfl
 have PO:=uA hpm R7 (more:=[]) ⟨by rw[tY];exact List.Sublist.refl _,.inl rfl⟩ (by rw[<-Jl];show(1:Nat)<=_;omega) (by rw[<-Jl];show(1:Nat)<_;omega);rw[<-Jl]at PO;have PO:=hd0 PO;have HF:=hd0 qx;have HMO:=hd0 dh;have HSW:Hid (w.heap.size<=W.heap.size):=hd0 dh.size;have H10:Hid (dM (iw d1) (d1.size/4) 1 (bG d2*64) Tr.new=v0):=hd0 Jl;have T0:Hid (∀ g,Fv g\/Fl g\/g=vb->F1 g\/F2 g\/w.heap.size<=g):=hd0 (fun g hg=>by
  rcases hg with hg|hg|hg
  ·exact(hFv g hg).imp id (fun h=>.inr h)
  ·exact(Tu g hg).elim (fun h=>.inr (.inl h)) (fun h=>.inr (.inr (by omega)))
  ·exact .inr (.inr (by omega)))
 rw[hW,ZD];clear hx qx dh R7 hpm tY lv ll lr lm l2 s1 s2 s3 s4 hFv Tu kW4 kW bW hW ZD Jl;go_wp2_with fail;refine PO.out.mono ?_;rintro e w7 ⟨rfl,u,a',hu,AA,gW⟩;have HTX:=hd0 AA;have HU:=hd0 hu;have yZ:=hd0 gW;clear hu gW AA PO;go_wp2;go_ret2;refine⟨vb,u,a',rfl,yZ.out.at_,HU.out,HTX.out,fun g hg=>(yZ.out.foot g hg).elim (HF.out g) (fun h=>.inr (.inr (aux HSW.out h))),HMO.out.trans yZ.out.mod (fun g hl hs=>(HF.out g hs).elim .inl (fun h=>h.elim .inr (fun h=>absurd h (by omega))))⟩
end
section
open Go.RowKit
attribute [local go_sem] auv
theorem rf {w:World}{p:Nat}{v:Vs}{a:eF}(h:kg w p v a)(hl:v.b.list.length<=1000):
  Calls prog 55 #[aq p] w fun e w'=>∃ x,e=.returned x/\dU oC 5 85 w' w.heap.size x v.b.list/\af w w':=by
 have XZ:w.cell? ⟨p,11,none⟩=some a.sv:=aa h.own 11;have CL:=hd0 (pw a.sv v.b.list w h.list hl);clear h;go_enter func55,ntmps55;go_wp2_with fail;refine CL.out.mono ?_;rintro e w1 ⟨x,rfl,ho,k⟩;have HO:=hd0 ho;have HK:=hd0 k;clear ho k CL;go_wp2;go_ret;exact⟨x,rfl,HO.out,HK.out⟩
theorem xX {w:World}{p:Nat}{v:Vs}{a:eF}(h:kg w p v a):
  Calls prog 45 #[aq p] w fun e w'=>∃ m,e=.returned (aq m)/\w.heap.size<=m/\dy w' m v.blocks v.b.planes/\af w w':=by
 have c12:w.cell? ⟨p,12,none⟩=some (aq a.pm):=aa h.own 12;have CL:=hd0 (xd h.map);clear h;go_enter func45,ntmps45;go_wp2_with fail;refine CL.out.mono ?_;rintro e w1 ⟨m,rfl,hm,KS,k⟩;have HM:=hd0 (And.intro hm (And.intro KS k));clear hm KS k CL;go_wp2;go_ret;exact⟨m,rfl,HM.out⟩
theorem Vg {w w':World}{p:Nat}{v:Vs}{a:eF}(h:kg w p v a){F:Nat->Prop}(hv:ic w' a.pv a.d a.text v.num F)(k:d6 a.Fv F w w'):eg w p v a v { a with Fv:=F } w':=by
 have SX:∀ b,a.still b->¬ a.Fv b:=fun b hb=>(h.stays b hb).1;have hF:∀ b,F b->a.Fv b\/w.heap.size<=b:=k.foot;have hFn:∀ b,b<w.heap.size->¬ a.Fv b->¬ F b:=fun b hb hn hf=>(hF b hf).elim hn (fun h1=>by omega);refine⟨⟨ab k.mod h.own h.nv,hv,h.rd,h.size,h.log.same (k.mod.on fun g hg hh=>h.apart g hh hg) k.mod.size,h.half,?_,?_,?_,?_,?_,h.wf,?_,hFn p (ai h.own) h.nv,h.nl,?_⟩,rfl,?_,k.mod.mono (fun g _ h=>.inr (.inl h)),fun b hb hl=>k.mod.block b hl (SX b (.inr (.inl hb))),id⟩
 ·exact aA h.inos fun g hg=>k.mod.block g (eh h.inos hg) (SX g (.inr (.inr (.inl hg))))
 ·exact aA h.list fun g hg=>k.mod.block g (eh h.list hg) (SX g (.inr (.inr (.inr (.inl hg)))))
 ·exact aA h.nodes fun g hg=>k.mod.block g (eh h.nodes hg) (SX g (.inr (.inr (.inr (.inr hg)))))
 ·exact h.map.mod k.mod (SX a.pm (.inl rfl))
 ·obtain⟨tb,A,M,t⟩:=h.tree;exact⟨tb,A,M,t.same (k.mod.on fun b hb=>SX b (.inr (.inl hb))) k.mod.size⟩
 ·exact fun b hb hl=>(hF b hb).elim (fun h1=>h.apart b h1 hl) (fun h1=>by have:=h.log.lt b hl;omega)
 ·intro b hb;have hs:=h.stays b hb;exact⟨hFn b (h.lt (.inr (.inr (.inr hb)))) hs.1,hs.2.1,hs.2.2⟩
 ·intro g hg;rcases hg with hg|hg|hg|hg
  ·exact .inl (.inl hg)
  ·exact(hF g hg).imp (fun h=>.inr (.inl h)) id
  ·exact .inl (.inr (.inr (.inl hg)))
  ·exact .inl (.inr (.inr (.inr hg)))
theorem IK {w:World}{p:Nat}{v:Vs}{a:eF}(h:kg w p v a)(n:Nat)(h1:1<=n)(h2:n<v.blocks)(s:az)(hs:v.rd n=.ok s):
  Calls prog 22 #[aq p,.int .i64 (n:Int)] w fun e w'=>e=.returned (.tuple #[aC s,.int .i64 0])/\∃ a',eg w p v a v a' w'/\a'.text=a.text:=by
 have c0:w.cell? ⟨p,0,none⟩=some (aq a.pv):=aa h.own 0;have RD:=hd0 (zC h.vol n h1 (by rw[h.size];exact h2) s (by rw[h.rd];exact hs));have H:=hd0 h;clear h hs;go_enter func22,ntmps22;go_wp2_with fail;refine RD.out.mono ?_;rintro e w1 ⟨rfl,F,hv,hk⟩;have HT:=hd0 (Vg H.out hv hk);clear hv hk RD;go_wp2;go_ret2;exact⟨rfl,_,HT.out,rfl⟩
end
end Go.Proofs.YtkghpdcloaiflaaGreatDoor
