import Derived.Test.YtkghpdcloaiflaaGreatDoorC37
set_option maxHeartbeats 8000000
set_option maxRecDepth 100000
namespace Go.Proofs.YtkghpdcloaiflaaGreatDoor
open _root_.Go.Proofs.Tryz
section
open Go.RowKit
structure Yw (w:World)(p:Nat)(v:Vs)(a:eX)(u:Vs)(a':eX)(w':World):Prop where
 at_:ls w' p u a'
 foot:∀ g,a'.foot p g->a.foot p g\/w.heap.size<=g
 mod:ah (a.foot p) w w'
 text:a.text=fU v.b->a'.text=fU u.b
theorem ei.did {w w':World}{p:Nat}{v u:Vs}{a a':eX}(h:ei w p v a u a' w'):Yw w p v a u a' w':=⟨h.at_,h.foot,h.mod,h.text⟩
theorem QP (recs:List ay):2*recs.length<=(lq recs).length:=by
 unfold lq
 induction recs with
 |nil=>simp
 |cons r l ih=>simp only[aus,at0,atH]at ih ⊢;simp only[auV];omega
theorem ue (d:Dk)(gen used:Nat):(eg d gen used).size=d.size:=by unfold eg;rw[dB,fu]
theorem Mu (d:Dk)(gen:Nat)(old pP:ay):bE (Lo d gen old pP)=bE d:=by
 have key:∀(x:Dk) (g u:Nat),x.size=d.size->bE (eg x.sync g u)=bE d:=fun x g u e=>by
  unfold bE;rw[ue,dB,e]
 exact key _ _ _ (kj _ _ _ _)
theorem UF {w w1:World}{p:Nat}{v:Vs}{a:eX}(h:ls w p v a){dl:Dk}{recs:List ay}{F:Nat->Prop}(hl:kT w1 a.pl dl v.num recs F)(kl:dV a.Fl F w w1)(hh:bE dl=bE a.dl)
  {q tb:Nat} {A M:Int->Nat} {role:Nat->cU} {T:Tr} {d:Int->Nat} (ht:aI w q T tb A M role) (hw:WF T d) (nJ:∀ b,role b≠.none->a.role b≠.none\/¬ a.foot p b):
  ls (w1.setCell ⟨p,14,none⟩ (aq q)) p { v with T:=T,recs:=recs } { a with pt:=q,dl:=dl,role:=role,Fl:=F }/\ah (a.foot p) w (w1.setCell ⟨p,14,none⟩ (aq q)):=by
 have hp:=ai h.own;have m0:ah (fun g=>a.Fl g\/g=p) w w1:=kl.mod.mono fun _ _ h=>.inl h;have m:ah (fun g=>a.Fl g\/g=p) w (w1.setCell ⟨p,14,none⟩ (aq q)):=m0.setCell (p:=⟨p,14,none⟩) (.inl (.inr rfl)) _;have hb1:=ab kl.mod h.own h.nl;have BA:p<w1.heap.size:=ai hb1;have m1:ah (fun g=>g=p) w1 (w1.setCell ⟨p,14,none⟩ (aq q)):=(ah.refl (fun g=>g=p) w1).setCell (p:=⟨p,14,none⟩) (.inl rfl) _;have hFp:¬ F p:=fun hf=>(kl.foot p hf).elim h.nl (fun h1=>by omega);have Sv:∀ b,a.still b->¬(fun g=>a.Fl g\/g=p) b:=fun b hb hh=>by
  have hs:=h.stays b hb;exact hh.elim hs.2.1 hs.2.2
 have rs:∀ b,role b≠.none->¬ a.Fv b/\¬ a.Fl b/\b≠p:=fun b hb=>(nJ b hb).elim (fun h1=>h.stays b (.inr (.inl h1))) (fun h1=>⟨fun h2=>h1 (.inr (.inl h2)),fun h2=>h1 (.inr (.inr (.inl h2))),fun h2=>h1 (.inl h2)⟩);have hFn:∀ b,b<w.heap.size->¬ a.Fl b->¬ F b:=fun b hb hn hf=>(kl.foot b hf).elim hn (fun h1=>by omega);refine⟨⟨ag hb1 14 (aq q),h.vol.same (m.on fun g hg hh=>hh.elim (h.apart g hg) (fun e=>h.nv (e▸hg))) m.size,h.rd,h.size,hl.same (m1.on fun g hg e=>hFp (e▸hg)) m1.size,?_,?_,?_,?_,?_,?_,⟨d,hw⟩,?_,h.nv,hFp,?_⟩,m.mono fun g _ hh=>hh.elim (fun h=>.inr (.inr (.inl h))) .inl⟩
 ·show bE dl*64=v.half;rw[hh];exact h.half
 ·exact az h.inos fun g hg=>m.block g (d5 h.inos hg) (Sv g (.inr (.inr (.inl hg))))
 ·exact az h.list fun g hg=>m.block g (d5 h.list hg) (Sv g (.inr (.inr (.inr (.inl hg)))))
 ·exact az h.nodes fun g hg=>m.block g (d5 h.nodes hg) (Sv g (.inr (.inr (.inr (.inr hg)))))
 ·exact h.map.mod m (Sv a.pm (.inl rfl))
 ·exact⟨tb,A,M,ht.same (m.on fun b hb hh=>hh.elim (rs b hb).2.1 (rs b hb).2.2) m.size⟩
 ·exact fun b hb hf=>(kl.foot b hf).elim (h.apart b hb) (fun h1=>by have:=h.vol.lt b hb;omega)
 ·intro b hb;have key:b<w.heap.size/\¬ a.Fv b/\¬ a.Fl b/\b≠p:=by
   rcases hb with hb|hb|hb|hb|hb
   ·exact⟨by rw[show b=a.pm from hb];exact h.map.lt,h.stays b (.inl hb)⟩
   ·exact⟨ht.lt b hb,rs b hb⟩
   ·exact⟨d5 h.inos hb,h.stays b (.inr (.inr (.inl hb)))⟩
   ·exact⟨d5 h.list hb,h.stays b (.inr (.inr (.inr (.inl hb))))⟩
   ·exact⟨d5 h.nodes hb,h.stays b (.inr (.inr (.inr (.inr hb))))⟩
  exact⟨key.2.1,hFn b key.1 key.2.2.1,key.2.2.2⟩
theorem Ep {v:Vs}{c:bT}{x:Int}(h:le v c=.error x):x≠0/\Bf v c=.ok (x,v):=by
 unfold le at h;by_cases cC:c.ok=false
 ·rw[atP cC]at h;injection h with h;subst h;exact⟨by decide,by unfold Bf;rw[atP cC]⟩
 ·rw[atR cC]at h;refine⟨?_,by unfold Bf;rw[atR cC,h]⟩;unfold od at h;split at h
  ·injection h with h;omega
  ·split at h
   ·injection h with h;omega
   ·split at h
    ·injection h with h;omega
    ·split at h
     ·cases h
     ·split at h
      ·cases h
      ·injection h with h;subst h;assumption
theorem JN {v:Vs}{c:bT}{T:Tr}(h:le v c=.ok T):c.ok=true/\od v c=.ok T/\(T=v.T\/T=(qy v.T c).1):=by
 unfold le at h;by_cases cC:c.ok=false
 ·rw[atP cC]at h;cases h
 ·rw[atR cC]at h;refine⟨by simpa using cC,h,?_⟩;unfold od at h;split at h
  ·cases h
  ·split at h
   ·cases h
   ·split at h
    ·cases h
    ·split at h
     ·injection h with h;exact .inl h.symm
     ·split at h
      ·injection h with h;exact .inr h.symm
      ·cases h
theorem Er {v:Vs}{c:bT}{T:Tr}(h:od v c=.ok T)(h7:c.kind=7):dw v c.path=none/\v.b.list.length<7/\v.b.id<1099511627777:=by
 unfold od at h;split at h
 ·cases h
 ·rename_i h1
  split at h
  ·cases h
  ·rename_i h2
   refine⟨?_,?_,?_⟩
   ·cases hn:dw v c.path with
    |none=>rfl
    |some i=>exact absurd ⟨h7,by rw[hn];rfl⟩ h1
   ·apply auG;intro hc;exact h2 ⟨h7,.inl (by omega)⟩
   ·apply auG;intro hc;exact h2 ⟨h7,.inr (by omega)⟩
theorem Ii {v:Vs}{c:bT}{T:Tr}(h:od v c=.ok T)(h8:c.kind=8):∃ i,dw v c.path=some i:=by
 cases hn:dw v c.path with
 |some i=>exact⟨i,rfl⟩
 |none=>
  unfold od at h;rw[atR (fun hh=>by have:=hh.1;omega),atR (fun hh=>by have:=hh.1;omega),atP ⟨h8,by rw[hn];rfl⟩]at h
  cases h
theorem Es {v u:Vs}(h:ma v){T:Tr}{kind:Int}{b:Bool}(e:oQ v T kind=.ok (b,u)):iI v u/\u.num<=v.num+1/\(u.recs=v.recs\/u.recs=[]):=by
 unfold oQ at e;split at e
 ·injection e with e;injection e with _ e;subst e;exact⟨iI.refl h,by omega,.inl rfl⟩
 ·split at e
  ·simp only[Except.map]at e;injection e with e;injection e with _ e;subst e;exact⟨iI.refl h,by omega,.inl rfl⟩
  ·obtain⟨x,hx,hs,_,hr,hn⟩:=hZ h;rw[hx]at e;simp only[Except.map]at e;injection e with e;injection e with _ e;subst e;exact⟨hs,by omega,.inr hr⟩
theorem JO {v v1 u:Vs}{c:bT}{T:Tr}{b:Bool}(cC:c.ok=true)(hm:od v c=.ok T)
  (e1:(if(c.kind=7\/c.kind=8)\/c.line.length+2<=cG v then(.ok v:Except Int Vs)else bB v v.b.list [])=.ok v1) (e2:oQ v1 T c.kind=.ok (b,u)):
  Bf v c=if b=false then .ok (151,u)else
   if c.kind=7 then(bB u u.b.list c.path).map fun u=>(0,u)
   else if c.kind=8 then(bB u (u.b.list.eraseIdx ((dw u c.path).getD 0)) []).map fun u=>(0,u)
   else if cG u<c.line.length+2 then .ok (72,u)
   else .ok (0,{ u with T:=T,recs:=u.recs++[c.line] }):=by
 unfold Bf;rw[atR (by rw[cC];decide),hm];simp only;rw[e1];simp only;rw[e2]
 cases b<;>rfl
theorem Et {w w':World}{p:Nat}{v u:Vs}{a a':eX}(k:ei w p v a u a' w'){q tb:Nat}{A M:Int->Nat}{role:Nat->cU}{T:Tr}(ht:aI w q T tb A M role)(nJ:∀ b,role b≠.none->a.role b≠.none\/¬ a.foot p b):
  ∀ b,role b≠.none->a'.role b≠.none\/¬ a'.foot p b:=fun b hb=>(nJ b hb).imp (fun h1=>by rw[k.role];exact h1) (fun h1 hf=>(k.foot b hf).elim h1 (fun h2=>by have:=ht.lt b hb;omega))
end
section
open Go.RowKit
attribute [local go_sem] atC
def QQ:Prop:=∀(l:List Sn) (i:Nat) (v:Value) (w:World) (base:Nat),dQ oe 5 85 w base v l->i<l.length->l.length<=1000->
 Calls prog 67 #[v,.int .i64 (i:Int),.int .i64 ((i:Int)+1)] w fun e w'=>∃ v',e=.returned v'/\dQ oe 5 85 w' base v' (l.eraseIdx i)/\ah (fun g=>v.ownBlock=some g) w w'
structure abP (v:Vs)(c:bT):Prop where
 good:ma v
 id:v.b.id<=1099511627777
 num:v.num+3<=1099511627776
 small:c.Small
 line:c.ok=true->c.line.length+2<=v.half/\c.line.length<=1300
 nodes:iz (ar (qy v.T c).1)
 name:c.ok=true->c.kind=7->aH c.path=true/\c.path.length<=16/\c.path≠[]
theorem UG {w:World}{p:Nat}{v:Vs}{a:eX}(h:ls w p v a)(he:tL w){c:bT}(hd:abP v c)(So:c.kind=8->QQ):
  Calls prog 25 #[aq p,gJ c] w fun e w'=>∃ r u a',Bf v c=.ok (r,u)/\e=.returned (.int .i64 r)/\Yw w p v a u a' w':=by
 have dA:af w (w.alloc (.cells (bM c) 55)):=(ah.refl _ w).alloc _;have iC:World.blk (w.alloc (.cells (bM c) 55)) w.heap.size (bM c) 55:=aw _ _ _;have H:=hd0 h;have HE:=hd0 he;have HD:=hd0 hd;have ajb:=hd0 So;have dN:=hd0 dA;have nG:=hd0 iC;have MY:=hd0 (Mq (h.keep dA) (he.keep dA) c hd.small hd.good.list.many hd.id);obtain⟨cb,J5⟩:∃ cb,w.heap.size=cb:=⟨_,rfl⟩
 have Hcb:=hd0 J5;have sx:Hid (∀ g,a.foot p g->g<cb):=hd0 (fun g hg=>by rw[<-J5];exact h.lt hg);clear h he hd So dA iC;go_enter func25,ntmps25;unfold gJ bM;go_wp2_with fail;refine MY.out.mono ?_;rintro e w1 ⟨k1,hm⟩;have bU:=hd0 (dN.out.keep k1);have jd:=hd0 (ab k1 nG.out id);rw[J5]at jd;clear k1 MY nG
 try rw[J5]
 clear J5
 cases hX:le v c with
 |error x=>
  rw[hX]at hm;simp only at hm;subst hm;obtain⟨sD,uR⟩:=Ep hX;have HDO:=hd0 uR;have hx:(x==0)=false:=by simpa using sD
  clear hX uR sD;go_wp2;go_ret;exact⟨x,v,a,HDO.out,rfl,((ei.refl H.out).keep bU.out).did⟩
 |ok T=>
  rw[hX]at hm;simp only at hm;obtain⟨q,tb,A,M,role,d,rfl,ht,hw,WP⟩:=hm;obtain⟨cC,IP,hT⟩:=JN hX;have Fp:=hd0 cC;have aag:=hd0 IP;have HTR:=hd0 ht;have HWF:=hd0 hw;have HNT:Hid (iz (ar T)):=hd0 (by
   rcases hT with rfl|rfl
   ·exact HD.out.good.told
   ·exact HD.out.nodes)
  have HAP:Hid (∀ b,role b≠.none->a.role b≠.none\/¬ a.foot p b):=hd0 (fun b hb=>by
   rcases WP with⟨_,e⟩|h1
   ·exact .inl (by rw[<-e];exact hb)
   ·exact .inr (fun hf=>by have:=sx.out b hf;have:=h1 b hb;have:=dN.out.size;have:=Hcb.out;omega))
  have HRO:Hid (∀ b,role b≠.none->a.role b≠.none\/w.heap.size<=b):=hd0 (fun b hb=>by
   rcases WP with⟨_,e⟩|h1
   ·exact .inl (by rw[<-e];exact hb)
   ·exact .inr (atE dN.out.size (h1 b hb)))
  have PR:=sS c w1 (HE.out.keep bU.out) HD.out.small;unfold kV at PR;rw[atP cC]at PR;have PR:=hd0 PR;clear hX ht hw WP cC IP hT HE;obtain⟨c0,c1,c2,c3,c4⟩:=cr jd.out;go_wp2_with fail;unfold gJ bM at PR;refine PR.out.mono ?_;rintro e w2 ⟨rfl,k2⟩;have bu:=hd0 (bU.out.keep k2);have lU:=hd0 (ab k2 jd.out id);have ach:=hd0 (HTR.out.keep k2);clear k2 PR c0 c1 c2 c3 c4 jd HTR bU;obtain⟨c0,c1,c2,c3,c4⟩:=cr lU.out;obtain⟨sb,hsb⟩:∃ sb:Bool,decide (c.kind=7\/c.kind=8)=sb:=⟨_,rfl⟩
  have Hsb:=hd0 hsb;clear hsb
  go_upto_region 5 with fail
  go_cut [9]from 15 to 121 (fun x wx=>x=.bool sb/\wx=w2)
  case first=>
   by_cases h7:c.kind=7
   ·have e:sb=true:=by rw[<-Hsb.out,decide_eq_true (Or.inl h7)]
    rw[h7]at c0;clear h7;go_wp2_with fail;go_meet
    case rel=>exact⟨by rw[e],rfl⟩
   ·have b7:(c.kind==7)=false:=by simpa using h7
    by_cases h8:c.kind=8
    ·have e:sb=true:=by rw[<-Hsb.out,decide_eq_true (Or.inr h8)]
     rw[h8]at c0;clear h7 h8 b7;go_wp2_with fail;go_meet
     case rel=>exact⟨by rw[e],rfl⟩
    ·have b8:(c.kind==8)=false:=by simpa using h8
     have e:sb=false:=by rw[<-Hsb.out,atQ (fun h=>h.elim h7 h8)]
     clear h7 h8;go_wp2_with fail;go_meet
     case rel=>exact⟨by rw[e];try simp[b7,b8],rfl⟩
  case rest=>
   obtain⟨rfl,hwc⟩:=hcut;rw[hwc];clear hwc;have JX:=hd0 (H.out.keep bu.out);obtain⟨rb,Ry⟩:∃ rb:Bool,(!sb&&decide (cG v<c.line.length+2))=rb:=⟨_,rfl⟩
   have Ko:=hd0 Ry;have HLN:Hid (c.line.length+2<=v.half/\c.line.length<=1300):=hd0 (HD.out.line Fp.out);clear Ry
   go_upto_region 6 with fail
   go_cut [48]from 15 to 121 (fun x wx=>x=.bool rb/\af w2 wx)
   case first=>
    cases sb with
    |true=>
     have e:rb=false:=by rw[<-Ko.out];rfl
     go_wp2_with fail;go_meet
     case rel=>exact⟨by rw[e],ah.refl _ _⟩
    |false=>
     have c1':w2.cell? ⟨p,1,none⟩=some (aq a.pl):=aa JX.out.own 1;have RM:=zE JX.out.log;have hrt:bE a.dl*64-(lq v.recs).length=cG v:=by unfold cG;rw[<-JX.out.half]
     rw[hrt]at RM;have RM:=hd0 RM;have Fw:(c.line.length:Int)<=1300:=by have:=HLN.out.2;omega
     have e:rb=decide (cG v<c.line.length+2):=by rw[<-Ko.out];simp
     have e2:decide (((cG v:Nat):Int)<(c.line.length:Int)+2)=decide (cG v<c.line.length+2):=by rw[aut];simp only[aua];omega
     rw[<-e2]at e;have HEe:=hd0 e;clear hrt e e2;go_wp2_with fail;refine RM.out.mono ?_;rintro e w3 ⟨rfl,k3⟩;have dT:=hd0 k3;clear k3;go_wp2_with fail;go_meet
     case rel=>exact⟨by rw[HEe.out],dT.out⟩
   case rest=>
    obtain⟨rfl,hkc⟩:=hcut;have IO:=hd0 hkc;clear hkc c0 c1 c2 c3 c4
    go_upto_if 48 with fail
    go_cut []from 15 to 121 (fun wx=>∃ v1 a1,(if(c.kind=7\/c.kind=8)\/c.line.length+2<=cG v then(.ok v:Except Int Vs)else bB v v.b.list [])=.ok v1/\iI v v1/\(v1.num<=v.num+1/\(v1.recs=v.recs\/v1.recs=[]))/\ei w2 p v a v1 a1 wx)
    case first=>
     cases rb with
     |false=>
      have Rg:Hid ((if(c.kind=7\/c.kind=8)\/c.line.length+2<=cG v then(.ok v:Except Int Vs)else bB v v.b.list [])=.ok v):=hd0 (atP (by
       have h1:=Ko.out;have h2:=Hsb.out
       cases sb with
       |true=>exact .inl (of_decide_eq_true h2)
       |false=>
        have h3:decide (cG v<c.line.length+2)=false:=by simpa using h1
        have:=of_decide_eq_false h3;exact .inr (by omega)))
      go_wp2_with fail;go_meet
      case rel=>exact⟨v,a,Rg.out,iI.refl HD.out.good,⟨by omega,.inl rfl⟩,(ei.refl JX.out).keep IO.out⟩
     |true=>
      have Rg:Hid ((if(c.kind=7\/c.kind=8)\/c.line.length+2<=cG v then(.ok v:Except Int Vs)else bB v v.b.list [])=bB v v.b.list []):=hd0 (atR (by
       have h1:=Ko.out;have h2:=Hsb.out
       cases sb with
       |true=>cases h1
       |false=>
        have h3:decide (cG v<c.line.length+2)=true:=by simpa using h1
        have:=of_decide_eq_true h3;exact fun hh=>hh.elim (of_decide_eq_false h2) (fun hh=>by omega)))
      have HVC:=hd0 (JX.out.keep IO.out);have Xd:wc.cell? ⟨p,11,none⟩=some a.sv:=aa HVC.out.own 11;have PO:=hd0 (j0 (th HVC.out) HD.out.good.ready (nB v) HD.out.id (by have:=HD.out.num;omega));go_wp2_with fail;refine PO.out.mono ?_;rintro e wP ⟨rfl,u,a',hu,jj⟩;have HS:Hid (iI v u/\u.num<=v.num+1/\(u.recs=v.recs\/u.recs=[])):=hd0 (by
       obtain⟨u',h1,h2,_,h4,h5⟩:=hZ HD.out.good;rw[h1]at hu;injection hu with hu;subst hu;exact⟨h2,by omega,.inr h4⟩)
      have HPT:=hd0 hu;have yF:=hd0 (ei.ahead IO.out jj);clear hu jj PO Xd;go_wp2_with fail;go_meet
      case rel=>exact⟨u,a',Rg.out.trans HPT.out,HS.out.1,HS.out.2,yF.out⟩
    case rest=>
     obtain⟨v1,a1,he1,dr,dy,jj⟩:=hcut;have Rg:=hd0 he1;have uq:=hd0 dr;have HNU:=hd0 dy;have yF:=hd0 jj;have nW:=hd0 (ab jj.mod lU.out (fun hf=>by have:=sx.out cb hf;omega));have Va:=hd0 (jj.tree ach.out HAP.out);have Vf:=hd0 (Et jj ach.out HAP.out);have FI:=hd0 (Mt jj.at_ dr.good (by rw[dr.id];exact HD.out.id) (by have:=HD.out.num;omega) Va.out HWF.out HNT.out.tojZ Vf.out c.kind);have I1:=hd0 (ai lU.out);clear he1 dr dy jj lU IO Ko JX;obtain⟨c0,c1,c2,c3,c4⟩:=cr nW.out;go_wp2_with fail;refine FI.out.mono ?_;rintro e w4 ⟨b,u,a2,hf,rfl,MX⟩;have Rn:=Es uq.out.good hf;have HF:=hd0 hf;have HFN:=hd0 Rn;have ah7:=hd0 MX;have HDV:=hd0 (JO Fp.out aag.out Rg.out hf);have Fu:=hd0 (ab MX.mod nW.out (fun hf=>(yF.out.foot cb hf).elim (fun h1=>by have:=sx.out cb h1;omega) (fun h1=>by have:=I1.out;omega)));have ag5:=hd0 (MX.tree Va.out Vf.out);have ahl:=hd0 (Et MX Va.out Vf.out);have Wz:Hid (ei w p v a u a2 w4):=hd0 (ei.ahead bu.out (yF.out.trans MX));clear hf Rn MX FI c0 c1 c2 c3 c4 nW Va Vf;obtain⟨c0,c1,c2,c3,c4⟩:=cr Fu.out
     cases b with
     |false=>
      have HDO:Hid (Bf v c=.ok (151,u)):=hd0 (by rw[HDV.out,atP rfl]);go_wp2;go_ret;exact⟨151,u,a2,HDO.out,rfl,Wz.out.did⟩
     |true=>
      have HDW:Hid (Bf v c=if c.kind=7 then(bB u u.b.list c.path).map fun u=>(0,u)
       else if c.kind=8 then(bB u (u.b.list.eraseIdx ((dw u c.path).getD 0)) []).map fun u=>(0,u)
       else if cG u<c.line.length+2 then .ok (72,u)
       else .ok (0,{ u with T:=T,recs:=u.recs++[c.line] })):=hd0 (by rw[HDV.out,atR (by decide)])
      have HS:=hd0 (uq.out.trans HFN.out.1);have Vt:Hid (u.b.id<=1099511627777/\u.num<1099511627776):=hd0 ⟨by rw[HS.out.id];exact HD.out.id,by have:=HD.out.num;have:=HFN.out.2.1;have:=HNU.out.1;omega⟩;have Ix:=hd0 ah7.out.at_;by_cases h7:c.kind=7
      ·have HR:Hid (Bf v c=(bB u u.b.list c.path).map fun u=>(0,u)):=hd0 (by rw[HDW.out,atP h7]);have WG:Hid (fG u u.b.list c.path):=hd0 (by
        obtain⟨h1,h2,h3⟩:=Er aag.out h7;obtain⟨h4,h5,_⟩:=HD.out.name Fp.out h7;exact⟨List.Sublist.refl _,.inr ⟨h4,h5,fun x hx=>by rw[HS.out.list]at hx;exact xA h1 x hx,by rw[HS.out.list];exact h2,by rw[HS.out.id];omega⟩⟩)
       rw[h7]at c0;have Xd:w4.cell? ⟨p,11,none⟩=some a2.sv:=aa Ix.out.own 11;have PO:Hid (∀ W,af w4 W->Calls prog 64 #[aq p,a2.sv,aB c.path] W fun e w'=>e=.returned (.int .i64 0)/\∃ x a',bB u u.b.list c.path=.ok x/\ei W p u a2 x a' w'):=hd0 (fun W k=>j0 (th (Ix.out.keep k)) HS.out.good.ready WG.out Vt.out.1 Vt.out.2);clear h7 HDW HDV
       go_upto_region 15 with fail
       go_region_with (go_at_call 64;refine atV (PO.out _ ((ah.refl _ w4).drew)) ?_;rintro e wP ⟨rfl,x,a',hx,jj⟩;have HX:=hd0 hx;have HTP:=hd0 (ei.ahead ((ah.refl (fun _=>False) w4).drew) jj);clear hx jj)
       all_goals (go_wp2;go_ret;exact⟨0,x,a',by rw[HR.out,HX.out];rfl,rfl,(Wz.out.trans HTP.out).did⟩)
      ·have b7:(c.kind==7)=false:=by simpa using h7
       by_cases h8:c.kind=8
       ·obtain⟨i,hi⟩:=Ii aag.out h8;rw[<-QO HS.out.list]at hi;have I9:i<u.b.list.length:=by
         obtain⟨x,hx,_⟩:=Ig hi;exact(atX.1 hx).1
        have HR:Hid (Bf v c=(bB u (u.b.list.eraseIdx i) []).map fun u=>(0,u)):=hd0 (by rw[HDW.out,atR h7,atP h8,hi];rfl);have WG:Hid (fG u (u.b.list.eraseIdx i) []):=hd0 ⟨List.eraseIdx_sublist _ _,.inl rfl⟩;have DEL:=hd0 (ajb.out h8);have yf:u.b.list.length<=7:=HS.out.good.list.many;have hii:(i:Int)<=7:=by omega
        have NM:=xy Ix.out (by omega) c.path;rw[hi]at NM;have NM:=hd0 NM;have HIL:=hd0 (And.intro I9 yf);rw[h8]at c0;clear h7 h8 HDW HDV hi I9 yf b7;unfold xo at NM;simp only at NM;go_wp2_with fail;refine NM.out.mono ?_;rintro e w5 ⟨rfl,k5⟩;have HV5:=hd0 (Ix.out.keep k5);have j7:=hd0 k5;have Xd:w5.cell? ⟨p,11,none⟩=some a2.sv:=aa HV5.out.own 11;have CL:=hd0 (o6 a2.sv u.b.list w5 HV5.out.list (by have:=HIL.out.2;omega));clear k5 NM c0 c1 c2 c3 c4;go_wp2_with fail;refine CL.out.mono ?_;rintro e w6 ⟨vl,rfl,Nh,k6⟩;have tD:=hd0 (j7.out.keep k6);have HO6:=hd0 Nh;have HS5:=hd0 j7.out.size;have DL:=hd0 (DEL.out u.b.list i vl w6 w5.heap.size Nh HIL.out.1 (by have:=HIL.out.2;omega));clear k6 Nh CL;go_wp2_with fail;refine DL.out.mono ?_;rintro e w7 ⟨vl2,rfl,ho7,m7⟩;have yi:Hid (af w4 w7):=hd0 (tD.out.trans m7 (fun g hl hg=>by have:=(HO6.out.lt g hg).1;have:=HS5.out;omega));have yj:=hd0 (Ix.out.keep yi.out);have HPM:Hid (zY w7 p u a2 vl2 (u.b.list.eraseIdx i)):=hd0 ⟨yj.out,pM ho7,fun g hg=>by
         have h1:=(ho7.lt g hg).1;have h2:=HS5.out;refine⟨fun hf=>?_,fun hf=>?_,fun e=>?_⟩
         ·have:=Ix.out.lt (b:=g) (.inr (.inl hf));omega
         ·have:=Ix.out.lt (b:=g) (.inr (.inr (.inl hf)));omega
         ·have:=Ix.out.lt (b:=g) (.inl e);omega⟩
        have PO:=hd0 (j0 HPM.out HS.out.good.ready WG.out Vt.out.1 Vt.out.2);clear ho7 m7 DL Xd;go_wp2_with fail;refine PO.out.mono ?_;rintro e wP ⟨rfl,x,a',hx,jj⟩;have HX:=hd0 hx;have HTP:=hd0 (ei.ahead yi.out jj);clear hx jj PO;go_wp2;go_ret;exact⟨0,x,a',by rw[HR.out,HX.out];rfl,rfl,(Wz.out.trans HTP.out).did⟩
       ·have b8:(c.kind==8)=false:=by simpa using h8
        have Xh:Hid (¬ cG u<c.line.length+2):=hd0 (by
         have h0:=Rg.out;have h9:=HLN.out.1;have Q9:∀ x:Vs,x.recs=[]->x.half=v.half->¬ cG x<c.line.length+2:=fun x e1 e2=>by
          unfold cG;rw[e1,e2];simp[lq];omega
         have RV:¬ cG v1<c.line.length+2:=by
          by_cases hr:c.line.length+2<=cG v
          ·rw[atP (.inr hr)]at h0;injection h0 with h0;subst h0;omega
          ·rw[atR (fun hh=>hh.elim (fun hh=>hh.elim h7 h8) hr)]at h0;obtain⟨y,q1,q2,_,q3,_⟩:=hZ HD.out.good;rw[q1]at h0;injection h0 with h0;subst h0;exact Q9 _ q3 q2.half
         rcases HFN.out.2.2 with e|e
         ·unfold cG at RV ⊢;rw[e,HFN.out.1.half];exact RV
         ·exact Q9 u e HS.out.half)
        have HR:Hid (Bf v c=.ok (0,{ u with T:=T,recs:=u.recs++[c.line] })):=hd0 (by rw[HDW.out,atR h7,atR h8,atR Xh.out]);have c1':w4.cell? ⟨p,1,none⟩=some (aq a2.pl):=aa Ix.out.own 1;have hrm:(lq u.recs).length+c.line.length+2<=bE a2.dl*64:=by
         have h1:=Xh.out;unfold cG at h1;rw[Ix.out.half];omega
        have LA:=hd0 (Dp Ix.out.log c.line HLN.out.2 hrm (by
         have h1:=QP u.recs;have h2:bE a2.dl<=8192:=by
          obtain⟨pd,lv,Fd,hl⟩:=Ix.out.log;have:=hl.many.2;unfold bE;omega
         omega))
        clear h7 h8 HDW HDV hrm;go_wp2_with fail;refine LA.out.mono ?_;rintro e w5 ⟨rfl,Fl2,hl5,mi⟩;have Xc:=ab mi.mod Ix.out.own Ix.out.nl;have f14:=ae Xc ⟨p,14,none⟩ rfl;have c14:w5.cell? ⟨p,14,none⟩=some (aq a2.pt):=aa Xc 14;obtain⟨IM,J6⟩:=UF Ix.out hl5 mi (Mu _ _ _ _) ag5.out HWF.out ahl.out;have HD1:=hd0 IM;have HD2:=hd0 J6;have WJ:=hd0 mi;clear IM J6 mi hl5 Xc LA c1';go_wp2;go_ret;refine⟨0,_,_,HR.out,rfl,⟨HD1.out,?_,Wz.out.mod.trans HD2.out (fun g hl hs=>(Wz.out.foot g hs).elim id (fun h1=>absurd h1 (by omega))),fun e=>Wz.out.text e⟩⟩;intro g hg;have up:a2.foot p g->a.foot p g\/w.heap.size<=g:=Wz.out.foot g;rcases hg with hg|hg|hg|hg
        ·exact up (.inl hg)
        ·exact up (.inr (.inl hg))
        ·exact(WJ.out.foot g hg).elim (fun h=>up (.inr (.inr (.inl h)))) (fun h=>.inr (atE Wz.out.mod.size h))
        ·rcases hg with hg|hg|hg|hg|hg
         ·exact up (.inr (.inr (.inr (.inl hg))))
         ·exact(HRO.out g hg).elim (fun h=>.inl (.inr (.inr (.inr (.inr (.inl h)))))) .inr
         ·exact up (.inr (.inr (.inr (.inr (.inr (.inl hg))))))
         ·exact up (.inr (.inr (.inr (.inr (.inr (.inr (.inl hg)))))))
         ·exact up (.inr (.inr (.inr (.inr (.inr (.inr (.inr hg)))))))
end
section
open Go.RowKit
attribute [local go_sem] atC
theorem jw:ar Tr.new=[⟨1,true,1,[0]⟩]:=by
 have e:l6 []=[0]:=by unfold l6;rw[aO,dif_pos (by decide)];rfl
 simp[ar,Tr.new,Nd.told,e]
theorem xE:iz (ar Tr.new):=by
 refine⟨⟨by rw[jw];decide,by rw[jw];decide,fun x hx=>?_,fun x hx=>?_⟩,Tr.new,_,Gb,rfl⟩
 ·rw[jw]at hx;simp at hx;subst hx;decide
 ·rw[jw]at hx;simp at hx;subst hx;decide
theorem Mv {w:World}{p1 p2:Nat}{d1 d2:Dk}{F1 F2:Nat->Prop}(h1:bA w p1 d1 F1)(h2:bA w p2 d2 F2)(nJ:∀ b,F1 b->¬ F2 b)(uC:128<=d1.size)(lh:43<=d2.size):
  Calls prog 49 #[aq p1,aq p2] w fun e w'=>∃ p u a,e=.returned (.tuple #[aq p,.int .i64 0])/\ls w' p u a/\bB (dJ (ik d1) (d1.size/4) 1 (bE d2*64) Tr.new) [] []=.ok u/\a.text=fU u.b/\(∀ g,a.foot p g->F1 g\/F2 g\/w.heap.size<=g)/\ah (fun g=>F1 g\/F2 g) w w':=by
 have H1:=hd0 h1;have H2:=hd0 h2;have HAP:=hd0 nJ;have HS:=hd0 (And.intro uC lh);have mM:d1.size<=16384:=h1.ok.many;have gO:d2.size<=16384:=h2.ok.many;have HM:=hd0 (And.intro mM gO);have SE:=hd0 (jp h2);have VF:=hd0 (Dl h1 (by omega) [] (by decide));have q1:¬(d2.size:Int)<43:=by omega
 clear h1 h2 nJ uC lh mM gO;go_enter func49,ntmps49;go_wp2_with fail;refine SE.out.mono ?_;rintro e wz ⟨rfl,hz⟩;rw[hz];clear hz;go_wp2_with fail;refine VF.out.mono ?_;rintro e w1 ⟨pv,rfl,Xy,Fv,NV,hkv⟩;have HVA:=hd0 NV;have HKV:=hd0 hkv;have HPV:=hd0 Xy;have VB:=oD NV;have cA:(kw (d1.put 0 (List.replicate 64 0)) [] 1).size=d1.size:=by rw[qs,fu]
 rw[cA]at VB;have VB:=hd0 VB;have Vk:=hd0 cA;have H2b:Hid (bA w1 p2 d2 F2):=hd0 (H2.out.same (hkv.mod.on fun b hb h1=>HAP.out b h1 hb) hkv.mod.size);have NF:=hd0 (Dm H2b.out (by have:=HS.out.2;omega) 1 (by decide));have q2:¬((d1.size/4:Nat):Int)<32:=by have:=HS.out.1;omega
 clear NV hkv Xy cA q1 SE VF;go_wp2_with fail;refine VB.out.mono ?_;rintro e wz ⟨rfl,hz⟩;rw[hz];clear hz;go_wp2_with fail;refine NF.out.mono ?_;rintro e w3 ⟨pl,rfl,nI,Fl,hla,BZ⟩;have HLA:=hd0 hla;have WJ:=hd0 BZ;have HPL:=hd0 nI;have ZL:=HVA.out.same (BZ.mod.on fun b hb h2=>(HKV.out.foot b hb).elim (fun h1=>HAP.out b h1 h2) (fun h1=>by have:=H2.out.lt b h2;omega)) BZ.mod.size;have aj6:=hd0 ZL;have VB3:=oD ZL;rw[Vk.out]at VB3;have VB3:=hd0 VB3;clear hla BZ nI ZL VB NF q2;go_wp2_with fail;refine VB3.out.mono ?_;rintro e wz ⟨rfl,hz⟩;rw[hz];clear hz;have PN:=hd0 (Px w3 (d1.size/4) (by have:=HS.out.1;have:=HM.out.1;omega));clear VB3;go_wp2_with fail;refine PN.out.mono ?_;rintro e w5 ⟨pm,rfl,hpm,JV,k5⟩;have HMA:=hd0 JV;have HPM:=hd0 hpm;have j7:=hd0 k5;have TN:=hd0 (Um w5);clear JV hpm k5 PN;go_wp2_with fail;refine TN.out.mono ?_;rintro e w6 ⟨pt,tb,A,M,role,rfl,ht,hr,k6⟩;have HTR:=hd0 ht;have HRO:=hd0 hr;have tD:=hd0 (j7.out.keep k6);have ae4:=hd0 (HMA.out.mod k6 id);clear ht hr k6 TN;go_wp2_with fail;obtain⟨v0,IY⟩:∃ v0,dJ (ik d1) (d1.size/4) 1 (bE d2*64) Tr.new=v0:=⟨_,rfl⟩
 obtain⟨a0,ha0⟩:∃ a0:eX,(⟨pv,pl,pm,pt,.slice none 0 0,.slice none 0 0,.slice none 0 0,kw (d1.put 0 (List.replicate 64 0)) [] 1,eg d2 1 0,[],role,Fv,Fl⟩:eX)=a0:=⟨_,rfl⟩
 obtain⟨W,hW⟩:∃ W,w6.alloc (.cells #[aq pv,aq pl,.int .i64 0,.int .i64 0,.int .i64 0,.int .i64 0,.int .i64 0,.int .i64 0,.int .i64 1,.int .i64 1,.slice none 0 0,.slice none 0 0,aq pm,.slice none 0 0,.pointer (some ⟨pt,0,none⟩),.bool false] 102)=W:=⟨_,rfl⟩
 obtain⟨vb,hvb⟩:∃ vb,w6.heap.size=vb:=⟨_,rfl⟩
 have kW:af w6 W:=by rw[<-hW];exact(ah.refl _ w6).alloc _
 have bW:World.blk W vb #[aq pv,aq pl,.int .i64 0,.int .i64 0,.int .i64 0,.int .i64 0,.int .i64 0,.int .i64 0,.int .i64 1,.int .i64 1,.slice none 0 0,.slice none 0 0,aq pm,.slice none 0 0,.pointer (some ⟨pt,0,none⟩),.bool false] 102:=by rw[<-hW,<-hvb];exact aw _ _ _
 have kW4:af w3 W:=tD.out.keep kW;have hFv:∀ b,Fv b->F1 b\/w.heap.size<=b:=HKV.out.foot;have Rs:∀ b,Fl b->F2 b\/w1.heap.size<=b:=WJ.out.foot;have s1:w.heap.size<=w1.heap.size:=HKV.out.mod.size;have s2:w1.heap.size<=w3.heap.size:=WJ.out.mod.size;have s3:w3.heap.size<=w5.heap.size:=j7.out.size;have s4:w3.heap.size<=vb:=by rw[<-hvb];exact tD.out.size
 have lv:∀ b,Fv b->b<w1.heap.size:=fun b hb=>HVA.out.lt b hb;have ll:∀ b,Fl b->b<w3.heap.size:=fun b hb=>HLA.out.lt b hb;have lr:∀ b,role b≠.none->w5.heap.size<=b/\b<vb:=fun b hb=>⟨HRO.out b hb,by rw[<-hvb];exact HTR.out.lt b hb⟩
 have lm:w3.heap.size<=pm/\pm<vb:=⟨HPM.out,by rw[<-hvb];exact ae4.out.lt⟩
 have l2:∀ b,F2 b->b<w1.heap.size:=fun b hb=>H2b.out.lt b hb;have hx:ls W vb v0 a0:=by
  rw[<-IY,<-ha0];refine⟨bW,aj6.out.same (kW4.on fun _ _=>id) kW4.size,?_,?_,HLA.out.same (kW4.on fun _ _=>id) kW4.size,?_,World.ownsRow_nil _ _ _ _,World.ownsRow_nil _ _ _ _,World.ownsRow_nil _ _ _ _,ae4.out.mod kW id,⟨tb,A,M,HTR.out.keep kW⟩,⟨_,Gb⟩,?_,?_,?_,?_⟩
  ·show ik (kw (d1.put 0 (List.replicate 64 0)) [] 1)=ik d1;rw[vq,tJ _ _ (by omega)]
  ·show(kw (d1.put 0 (List.replicate 64 0)) [] 1).size/4=d1.size/4;rw[Vk.out]
  ·show bE (eg d2 1 0)*64=bE d2*64;unfold bE;rw[ue]
  ·intro b hb hl;have:=lv b hb;rcases Rs b hl with h2|h2
   ·rcases hFv b hb with h1|h1
    ·exact HAP.out b h1 h2
    ·have:=H2.out.lt b h2;omega
   ·omega
  ·exact fun(hb:Fv vb)=>by have:=lv vb hb;omega
  ·exact fun(hb:Fl vb)=>by have:=ll vb hb;omega
  ·intro b hb;have key:w3.heap.size<=b/\b<vb:=by
    rcases hb with hb|hb|hb|hb|hb
    ·obtain rfl:b=pm:=hb;exact lm
    ·have:=lr b hb;exact⟨by omega,this.2⟩
    ·cases hb
    ·cases hb
    ·cases hb
   exact⟨fun(hf:Fv b)=>by have:=lv b hf;omega,fun(hf:Fl b)=>by have:=ll b hf;omega,by omega⟩
 have qk:∀ g,a0.foot vb g->F1 g\/F2 g\/w.heap.size<=g:=by
  intro g hg;rw[<-ha0]at hg;rcases hg with hg|hg|hg|hg
  ·exact .inr (.inr (by omega))
  ·exact(hFv g hg).imp id (fun h=>.inr h)
  ·exact(Rs g hg).elim (fun h=>.inr (.inl h)) (fun h=>.inr (.inr (by omega)))
  ·rcases hg with hg|hg|hg|hg|hg
   ·have:g=pm:=hg;exact .inr (.inr (by omega))
   ·have:=lr g hg;exact .inr (.inr (by omega))
   ·cases hg
   ·cases hg
   ·cases hg
 have de:ah (fun g=>F1 g\/F2 g) w W:=((HKV.out.mod.mono fun _ _ h=>.inl h).trans (WJ.out.mod.mono (T:=fun g=>F1 g\/F2 g) fun _ _ h=>.inr h) (fun _ _ h=>h)).trans (kW4.mono (T:=fun g=>F1 g\/F2 g) fun _ _ h=>h.elim) (fun _ _ h=>h);have Sl:mF v0:=by
  rw[<-IY];exact xC _ _ _ _ (by have:=HS.out.1;have:=HM.out.1;omega) xE (by rw[jw];rfl) (fun x hx=>by rw[jw]at hx;simp at hx;subst hx;decide)
 have hpm:zY W vb v0 a0 (.slice none 0 0) []:=⟨hx,World.ownsRow_nil _ _ _ _,fun g hg=>by cases hg⟩
 have uz:v0.b.list=[]:=by rw[<-IY];rfl
 have PO:=ud hpm Sl (more:=[]) ⟨by rw[uz];exact List.Sublist.refl _,.inl rfl⟩ (by rw[<-IY];show(1:Nat)<=_;omega) (by rw[<-IY];show(1:Nat)<_;omega);rw[<-IY]at PO;have PO:=hd0 PO;have HF:=hd0 qk;have HMO:=hd0 de;have HSW:Hid (w.heap.size<=W.heap.size):=hd0 de.size;have H10:Hid (dJ (ik d1) (d1.size/4) 1 (bE d2*64) Tr.new=v0):=hd0 IY;have T0:Hid (∀ g,Fv g\/Fl g\/g=vb->F1 g\/F2 g\/w.heap.size<=g):=hd0 (fun g hg=>by
  rcases hg with hg|hg|hg
  ·exact(hFv g hg).imp id (fun h=>.inr h)
  ·exact(Rs g hg).elim (fun h=>.inr (.inl h)) (fun h=>.inr (.inr (by omega)))
  ·exact .inr (.inr (by omega)))
 rw[hW,hvb];clear hx qk de Sl hpm uz lv ll lr lm l2 s1 s2 s3 s4 hFv Rs kW4 kW bW hW hvb IY;go_wp2_with fail;refine PO.out.mono ?_;rintro e w7 ⟨rfl,u,a',hu,Kj,jj⟩;have HTX:=hd0 Kj;have HU:=hd0 hu;have yF:=hd0 jj;clear hu jj Kj PO;go_wp2;go_ret2;refine⟨vb,u,a',rfl,yF.out.at_,HU.out,HTX.out,fun g hg=>(yF.out.foot g hg).elim (HF.out g) (fun h=>.inr (.inr (atE HSW.out h))),HMO.out.trans yF.out.mod (fun g hl hs=>(HF.out g hs).elim .inl (fun h=>h.elim .inr (fun h=>absurd h (by omega))))⟩
end
section
open Go.RowKit
attribute [local go_sem] atC
theorem xF {w:World}{p:Nat}{v:Vs}{a:eX}(h:ls w p v a)(hl:v.b.list.length<=1000):
  Calls prog 55 #[aq p] w fun e w'=>∃ x,e=.returned x/\dQ oe 5 85 w' w.heap.size x v.b.list/\af w w':=by
 have Xd:w.cell? ⟨p,11,none⟩=some a.sv:=aa h.own 11;have CL:=hd0 (o6 a.sv v.b.list w h.list hl);clear h;go_enter func55,ntmps55;go_wp2_with fail;refine CL.out.mono ?_;rintro e w1 ⟨x,rfl,ho,k⟩;have HO:=hd0 ho;have HK:=hd0 k;clear ho k CL;go_wp2;go_ret;exact⟨x,rfl,HO.out,HK.out⟩
theorem xG {w:World}{p:Nat}{v:Vs}{a:eX}(h:ls w p v a):
  Calls prog 45 #[aq p] w fun e w'=>∃ m,e=.returned (aq m)/\w.heap.size<=m/\dt w' m v.blocks v.b.planes/\af w w':=by
 have c12:w.cell? ⟨p,12,none⟩=some (aq a.pm):=aa h.own 12;have CL:=hd0 (ws h.map);clear h;go_enter func45,ntmps45;go_wp2_with fail;refine CL.out.mono ?_;rintro e w1 ⟨m,rfl,hm,JV,k⟩;have HM:=hd0 (And.intro hm (And.intro JV k));clear hm JV k CL;go_wp2;go_ret;exact⟨m,rfl,HM.out⟩
theorem UH {w w':World}{p:Nat}{v:Vs}{a:eX}(h:ls w p v a){F:Nat->Prop}(hv:gU w' a.pv a.d a.text v.num F)(k:dV a.Fv F w w'):ei w p v a v { a with Fv:=F } w':=by
 have Sv:∀ b,a.still b->¬ a.Fv b:=fun b hb=>(h.stays b hb).1;have hF:∀ b,F b->a.Fv b\/w.heap.size<=b:=k.foot;have hFn:∀ b,b<w.heap.size->¬ a.Fv b->¬ F b:=fun b hb hn hf=>(hF b hf).elim hn (fun h1=>by omega);refine⟨⟨ab k.mod h.own h.nv,hv,h.rd,h.size,h.log.same (k.mod.on fun g hg hh=>h.apart g hh hg) k.mod.size,h.half,?_,?_,?_,?_,?_,h.wf,?_,hFn p (ai h.own) h.nv,h.nl,?_⟩,rfl,?_,k.mod.mono (fun g _ h=>.inr (.inl h)),fun b hb hl=>k.mod.block b hl (Sv b (.inr (.inl hb))),id⟩
 ·exact az h.inos fun g hg=>k.mod.block g (d5 h.inos hg) (Sv g (.inr (.inr (.inl hg))))
 ·exact az h.list fun g hg=>k.mod.block g (d5 h.list hg) (Sv g (.inr (.inr (.inr (.inl hg)))))
 ·exact az h.nodes fun g hg=>k.mod.block g (d5 h.nodes hg) (Sv g (.inr (.inr (.inr (.inr hg)))))
 ·exact h.map.mod k.mod (Sv a.pm (.inl rfl))
 ·obtain⟨tb,A,M,t⟩:=h.tree;exact⟨tb,A,M,t.same (k.mod.on fun b hb=>Sv b (.inr (.inl hb))) k.mod.size⟩
 ·exact fun b hb hl=>(hF b hb).elim (fun h1=>h.apart b h1 hl) (fun h1=>by have:=h.log.lt b hl;omega)
 ·intro b hb;have hs:=h.stays b hb;exact⟨hFn b (h.lt (.inr (.inr (.inr hb)))) hs.1,hs.2.1,hs.2.2⟩
 ·intro g hg;rcases hg with hg|hg|hg|hg
  ·exact .inl (.inl hg)
  ·exact(hF g hg).imp (fun h=>.inr (.inl h)) id
  ·exact .inl (.inr (.inr (.inl hg)))
  ·exact .inl (.inr (.inr (.inr hg)))
theorem Ij {w:World}{p:Nat}{v:Vs}{a:eX}(h:ls w p v a)(n:Nat)(h1:1<=n)(h2:n<v.blocks)(s:ay)(hs:v.rd n=.ok s):
  Calls prog 22 #[aq p,.int .i64 (n:Int)] w fun e w'=>e=.returned (.tuple #[aB s,.int .i64 0])/\∃ a',ei w p v a v a' w'/\a'.text=a.text:=by
 have c0:w.cell? ⟨p,0,none⟩=some (aq a.pv):=aa h.own 0;have RD:=hd0 (zi h.vol n h1 (by rw[h.size];exact h2) s (by rw[h.rd];exact hs));have H:=hd0 h;clear h hs;go_enter func22,ntmps22;go_wp2_with fail;refine RD.out.mono ?_;rintro e w1 ⟨rfl,F,hv,hk⟩;have HT:=hd0 (UH H.out hv hk);clear hv hk RD;go_wp2;go_ret2;exact⟨rfl,_,HT.out,rfl⟩
end
end Go.Proofs.YtkghpdcloaiflaaGreatDoor
