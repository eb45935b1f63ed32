import Derived.Test.YtkghpdcloaiflaaGreatDoorD37
set_option maxHeartbeats 8000000
set_option maxRecDepth 100000
namespace Go.Proofs.YtkghpdcloaiflaaGreatDoor
open _root_.Go.Proofs.Tryz
section
open Go.RowKit
structure Zg (w:World)(p:Nat)(v:Vs)(a:eV)(u:Vs)(a':eV)(w':World):Prop where
 at_:lp w' p u a'
 foot:∀ g,a'.foot p g->a.foot p g\/w.heap.size<=g
 mod:ah (a.foot p) w w'
 text:a.text=ge v.b->a'.text=ge u.b
theorem ei.did {w w':World}{p:Nat}{v u:Vs}{a a':eV}(h:ei w p v a u a' w'):Zg w p v a u a' w':=⟨h.at_,h.foot,h.mod,h.text⟩
theorem Rm (recs:List ay):2*recs.length<=(lB recs).length:=by
 unfold lB
 induction recs with
 |nil=>simp
 |cons r l ih=>simp only[avs,au3,auL]at ih ⊢;simp only[avV];omega
theorem uw (d:Dk)(gen used:Nat):(eE d gen used).size=d.size:=by unfold eE;rw[dG,fF]
theorem MX (d:Dk)(gen:Nat)(old qg:ay):bF (LU d gen old qg)=bF d:=by
 have key:∀(x:Dk) (g u:Nat),x.size=d.size->bF (eE x.sync g u)=bF d:=fun x g u e=>by
  unfold bF;rw[uw,dG,e]
 exact key _ _ _ (kD _ _ _ _)
theorem Vt {w w1:World}{p:Nat}{v:Vs}{a:eV}(h:lp w p v a){dl:Dk}{recs:List ay}{F:Nat->Prop}(hl:ld w1 a.pl dl v.num recs F)(kl:ec a.Fl F w w1)(hh:bF dl=bF a.dl)
  {q tb:Nat} {A M:Int->Nat} {role:Nat->cV} {T:Tr} {d:Int->Nat} (ht:aJ w q T tb A M role) (hw:WF T d) (nW:∀ b,role b≠.none->a.role b≠.none\/¬ a.foot p b):
  lp (w1.setCell ⟨p,14,none⟩ (aq q)) p { v with T:=T,recs:=recs } { a with pt:=q,dl:=dl,role:=role,Fl:=F }/\ah (a.foot p) w (w1.setCell ⟨p,14,none⟩ (aq q)):=by
 have hp:=ak h.own;have m0:ah (fun g=>a.Fl g\/g=p) w w1:=kl.mod.mono fun _ _ h=>.inl h;have m:ah (fun g=>a.Fl g\/g=p) w (w1.setCell ⟨p,14,none⟩ (aq q)):=m0.setCell (p:=⟨p,14,none⟩) (.inl (.inr rfl)) _;have hb1:=ab kl.mod h.own h.nl;have BR:p<w1.heap.size:=ak hb1;have m1:ah (fun g=>g=p) w1 (w1.setCell ⟨p,14,none⟩ (aq q)):=(ah.refl (fun g=>g=p) w1).setCell (p:=⟨p,14,none⟩) (.inl rfl) _;have hFp:¬ F p:=fun hf=>(kl.foot p hf).elim h.nl (fun h1=>by omega);have SD:∀ b,a.still b->¬(fun g=>a.Fl g\/g=p) b:=fun b hb hh=>by
  have hs:=h.stays b hb;exact hh.elim hs.2.1 hs.2.2
 have rs:∀ b,role b≠.none->¬ a.Fv b/\¬ a.Fl b/\b≠p:=fun b hb=>(nW b hb).elim (fun h1=>h.stays b (.inr (.inl h1))) (fun h1=>⟨fun h2=>h1 (.inr (.inl h2)),fun h2=>h1 (.inr (.inr (.inl h2))),fun h2=>h1 (.inl h2)⟩);have hFn:∀ b,b<w.heap.size->¬ a.Fl b->¬ F b:=fun b hb hn hf=>(kl.foot b hf).elim hn (fun h1=>by omega);refine⟨⟨ag hb1 14 (aq q),h.vol.same (m.on fun g hg hh=>hh.elim (h.apart g hg) (fun e=>h.nv (e▸hg))) m.size,h.rd,h.size,hl.same (m1.on fun g hg e=>hFp (e▸hg)) m1.size,?_,?_,?_,?_,?_,?_,⟨d,hw⟩,?_,h.nv,hFp,?_⟩,m.mono fun g _ hh=>hh.elim (fun h=>.inr (.inr (.inl h))) .inl⟩
 ·show bF dl*64=v.half;rw[hh];exact h.half
 ·exact aA h.inos fun g hg=>m.block g (el h.inos hg) (SD g (.inr (.inr (.inl hg))))
 ·exact aA h.list fun g hg=>m.block g (el h.list hg) (SD g (.inr (.inr (.inr (.inl hg)))))
 ·exact aA h.nodes fun g hg=>m.block g (el h.nodes hg) (SD g (.inr (.inr (.inr (.inr hg)))))
 ·exact h.map.mod m (SD a.pm (.inl rfl))
 ·exact⟨tb,A,M,ht.same (m.on fun b hb hh=>hh.elim (rs b hb).2.1 (rs b hb).2.2) m.size⟩
 ·exact fun b hb hf=>(kl.foot b hf).elim (h.apart b hb) (fun h1=>by have:=h.vol.lt b hb;omega)
 ·intro b hb;have key:b<w.heap.size/\¬ a.Fv b/\¬ a.Fl b/\b≠p:=by
   rcases hb with hb|hb|hb|hb|hb
   ·exact⟨by rw[show b=a.pm from hb];exact h.map.lt,h.stays b (.inl hb)⟩
   ·exact⟨ht.lt b hb,rs b hb⟩
   ·exact⟨el h.inos hb,h.stays b (.inr (.inr (.inl hb)))⟩
   ·exact⟨el h.list hb,h.stays b (.inr (.inr (.inr (.inl hb))))⟩
   ·exact⟨el h.nodes hb,h.stays b (.inr (.inr (.inr (.inr hb))))⟩
  exact⟨key.2.1,hFn b key.1 key.2.2.1,key.2.2.2⟩
theorem EP {v:Vs}{c:bU}{x:Int}(h:lu v c=.error x):x≠0/\BG v c=.ok (x,v):=by
 unfold lu at h;by_cases cg:c.ok=false
 ·rw[auT cg]at h;injection h with h;subst h;exact⟨by decide,by unfold BG;rw[auT cg]⟩
 ·rw[auV cg]at h;refine⟨?_,by unfold BG;rw[auV cg,h]⟩;unfold oA at h;split at h
  ·injection h with h;omega
  ·split at h
   ·injection h with h;omega
   ·split at h
    ·injection h with h;omega
    ·split at h
     ·cases h
     ·split at h
      ·cases h
      ·injection h with h;subst h;assumption
theorem J8 {v:Vs}{c:bU}{T:Tr}(h:lu v c=.ok T):c.ok=true/\oA v c=.ok T/\(T=v.T\/T=(qM v.T c).1):=by
 unfold lu at h;by_cases cg:c.ok=false
 ·rw[auT cg]at h;cases h
 ·rw[auV cg]at h;refine⟨by simpa using cg,h,?_⟩;unfold oA at h;split at h
  ·cases h
  ·split at h
   ·cases h
   ·split at h
    ·cases h
    ·split at h
     ·injection h with h;exact .inl h.symm
     ·split at h
      ·injection h with h;exact .inr h.symm
      ·cases h
theorem ER {v:Vs}{c:bU}{T:Tr}(h:oA v c=.ok T)(h7:c.kind=7):dA v c.path=none/\v.b.list.length<7/\v.b.id<1099511627777:=by
 unfold oA at h;split at h
 ·cases h
 ·rename_i h1
  split at h
  ·cases h
  ·rename_i h2
   refine⟨?_,?_,?_⟩
   ·cases hn:dA v c.path with
    |none=>rfl
    |some i=>exact absurd ⟨h7,by rw[hn];rfl⟩ h1
   ·apply avG;intro hc;exact h2 ⟨h7,.inl (by omega)⟩
   ·apply avG;intro hc;exact h2 ⟨h7,.inr (by omega)⟩
theorem IM {v:Vs}{c:bU}{T:Tr}(h:oA v c=.ok T)(h8:c.kind=8):∃ i,dA v c.path=some i:=by
 cases hn:dA v c.path with
 |some i=>exact⟨i,rfl⟩
 |none=>
  unfold oA at h;rw[auV (fun hh=>by have:=hh.1;omega),auV (fun hh=>by have:=hh.1;omega),auT ⟨h8,by rw[hn];rfl⟩]at h
  cases h
theorem ES {v u:Vs}(h:jY v){T:Tr}{kind:Int}{b:Bool}(e:pa v T kind=.ok (b,u)):iR v u/\u.num<=v.num+1/\(u.recs=v.recs\/u.recs=[]):=by
 unfold pa at e;split at e
 ·injection e with e;injection e with _ e;subst e;exact⟨iR.refl h,by omega,.inl rfl⟩
 ·split at e
  ·simp only[Except.map]at e;injection e with e;injection e with _ e;subst e;exact⟨iR.refl h,by omega,.inl rfl⟩
  ·obtain⟨x,hx,hs,_,hr,hn⟩:=ip h;rw[hx]at e;simp only[Except.map]at e;injection e with e;injection e with _ e;subst e;exact⟨hs,by omega,.inr hr⟩
theorem J9 {v v1 u:Vs}{c:bU}{T:Tr}{b:Bool}(cg:c.ok=true)(hm:oA v c=.ok T)
  (e1:(if(c.kind=7\/c.kind=8)\/c.line.length+2<=cI v then(.ok v:Except Int Vs)else bC v v.b.list [])=.ok v1) (e2:pa v1 T c.kind=.ok (b,u)):
  BG v c=if b=false then .ok (151,u)else
   if c.kind=7 then(bC u u.b.list c.path).map fun u=>(0,u)
   else if c.kind=8 then(bC u (u.b.list.eraseIdx ((dA u c.path).getD 0)) []).map fun u=>(0,u)
   else if cI u<c.line.length+2 then .ok (72,u)
   else .ok (0,{ u with T:=T,recs:=u.recs++[c.line] }):=by
 unfold BG;rw[auV (by rw[cg];decide),hm];simp only;rw[e1];simp only;rw[e2]
 cases b<;>rfl
theorem EU {w w':World}{p:Nat}{v u:Vs}{a a':eV}(k:ei w p v a u a' w'){q tb:Nat}{A M:Int->Nat}{role:Nat->cV}{T:Tr}(ht:aJ w q T tb A M role)(nW:∀ b,role b≠.none->a.role b≠.none\/¬ a.foot p b):
  ∀ b,role b≠.none->a'.role b≠.none\/¬ a'.foot p b:=fun b hb=>(nW b hb).imp (fun h1=>by rw[k.role];exact h1) (fun h1 hf=>(k.foot b hf).elim h1 (fun h2=>by have:=ht.lt b hb;omega))
end
section
open Go.RowKit
attribute [local go_sem] auG
def Rn:Prop:=∀(l:List Sn) (i:Nat) (v:Value) (w:World) (base:Nat),dX oB 5 85 w base v l->i<l.length->l.length<=1000->
 Calls prog 67 #[v,.int .i64 (i:Int),.int .i64 ((i:Int)+1)] w fun e w'=>∃ v',e=.returned v'/\dX oB 5 85 w' base v' (l.eraseIdx i)/\ah (fun g=>v.ownBlock=some g) w w'
structure acD (v:Vs)(c:bU):Prop where
 good:jY v
 id:v.b.id<=1099511627777
 num:v.num+3<=1099511627776
 small:c.Small
 line:c.ok=true->c.line.length+2<=v.half/\c.line.length<=1300
 nodes:iH (ar (qM v.T c).1)
 name:c.ok=true->c.kind=7->aG c.path=true/\c.path.length<=16/\c.path≠[]
theorem Vu {w:World}{p:Nat}{v:Vs}{a:eV}(h:lp w p v a)(he:t8 w){c:bU}(hd:acD v c)(RY:c.kind=8->Rn):
  Calls prog 25 #[aq p,gQ c] w fun e w'=>∃ r u a',BG v c=.ok (r,u)/\e=.returned (.int .i64 r)/\Zg w p v a u a' w':=by
 have dE:af w (w.alloc (.cells (bL c) 55)):=(ah.refl _ w).alloc _;have iJ:World.blk (w.alloc (.cells (bL c) 55)) w.heap.size (bL c) 55:=aw _ _ _;have H:=hd0 h;have HE:=hd0 he;have HD:=hd0 hd;have aiW:=hd0 RY;have dF:=hd0 dE;have nS:=hd0 iJ;have MY:=hd0 (MS (h.keep dE) (he.keep dE) c hd.small hd.good.list.many hd.id);obtain⟨cb,KA⟩:∃ cb,w.heap.size=cb:=⟨_,rfl⟩
 have Hcb:=hd0 KA;have sF:Hid (∀ g,a.foot p g->g<cb):=hd0 (fun g hg=>by rw[<-KA];exact h.lt hg);clear h he hd RY dE iJ;go_enter func25,ntmps25;unfold gQ bL;go_wp2_with fail;refine MY.out.mono ?_;rintro e w1 ⟨k1,hm⟩;have bS:=hd0 (dF.out.keep k1);have jp:=hd0 (ab k1 nS.out id);rw[KA]at jp;clear k1 MY nS
 try rw[KA]
 clear KA
 cases hX:lu v c with
 |error x=>
  rw[hX]at hm;simp only at hm;subst hm;obtain⟨sP,tO⟩:=EP hX;have HDO:=hd0 tO;have hx:(x==0)=false:=by simpa using sP
  clear hX tO sP;go_wp2;go_ret;exact⟨x,v,a,HDO.out,rfl,((ei.refl H.out).keep bS.out).did⟩
 |ok T=>
  rw[hX]at hm;simp only at hm;obtain⟨q,tb,A,M,role,d,rfl,ht,hw,Xw⟩:=hm;obtain⟨cg,IY,hT⟩:=J8 hX;have FT:=hd0 cg;have aa7:=hd0 IY;have HTR:=hd0 ht;have HWF:=hd0 hw;have HNT:Hid (iH (ar T)):=hd0 (by
   rcases hT with rfl|rfl
   ·exact HD.out.good.told
   ·exact HD.out.nodes)
  have HAP:Hid (∀ b,role b≠.none->a.role b≠.none\/¬ a.foot p b):=hd0 (fun b hb=>by
   rcases Xw with⟨_,e⟩|h1
   ·exact .inl (by rw[<-e];exact hb)
   ·exact .inr (fun hf=>by have:=sF.out b hf;have:=h1 b hb;have:=dF.out.size;have:=Hcb.out;omega))
  have HRO:Hid (∀ b,role b≠.none->a.role b≠.none\/w.heap.size<=b):=hd0 (fun b hb=>by
   rcases Xw with⟨_,e⟩|h1
   ·exact .inl (by rw[<-e];exact hb)
   ·exact .inr (auI dF.out.size (h1 b hb)))
  have PR:=tt c w1 (HE.out.keep bS.out) HD.out.small;unfold lg at PR;rw[auT cg]at PR;have PR:=hd0 PR;clear hX ht hw Xw cg IY hT HE;obtain⟨c0,c1,c2,c3,c4⟩:=cC jp.out;go_wp2_with fail;unfold gQ bL at PR;refine PR.out.mono ?_;rintro e w2 ⟨rfl,k2⟩;have bw:=hd0 (bS.out.keep k2);have jL:=hd0 (ab k2 jp.out id);have aej:=hd0 (HTR.out.keep k2);clear k2 PR c0 c1 c2 c3 c4 jp HTR bS;obtain⟨c0,c1,c2,c3,c4⟩:=cC jL.out;obtain⟨sb,hsb⟩:∃ sb:Bool,decide (c.kind=7\/c.kind=8)=sb:=⟨_,rfl⟩
  have Hsb:=hd0 hsb;clear hsb
  go_upto_region 5 with fail
  go_cut [9]from 15 to 121 (fun x wx=>x=.bool sb/\wx=w2)
  case first=>
   by_cases h7:c.kind=7
   ·have e:sb=true:=by rw[<-Hsb.out,decide_eq_true (Or.inl h7)]
    rw[h7]at c0;clear h7;go_wp2_with fail;go_meet
    case rel=>exact⟨by rw[e],rfl⟩
   ·have b7:(c.kind==7)=false:=by simpa using h7
    by_cases h8:c.kind=8
    ·have e:sb=true:=by rw[<-Hsb.out,decide_eq_true (Or.inr h8)]
     rw[h8]at c0;clear h7 h8 b7;go_wp2_with fail;go_meet
     case rel=>exact⟨by rw[e],rfl⟩
    ·have b8:(c.kind==8)=false:=by simpa using h8
     have e:sb=false:=by rw[<-Hsb.out,auU (fun h=>h.elim h7 h8)]
     clear h7 h8;go_wp2_with fail;go_meet
     case rel=>exact⟨by rw[e];try simp[b7,b8],rfl⟩
  case rest=>
   obtain⟨rfl,hwc⟩:=hcut;rw[hwc];clear hwc;have Ke:=hd0 (H.out.keep bw.out);obtain⟨rb,Sd⟩:∃ rb:Bool,(!sb&&decide (cI v<c.line.length+2))=rb:=⟨_,rfl⟩
   have Ku:=hd0 Sd;have HLN:Hid (c.line.length+2<=v.half/\c.line.length<=1300):=hd0 (HD.out.line FT.out);clear Sd
   go_upto_region 6 with fail
   go_cut [48]from 15 to 121 (fun x wx=>x=.bool rb/\af w2 wx)
   case first=>
    cases sb with
    |true=>
     have e:rb=false:=by rw[<-Ku.out];rfl
     go_wp2_with fail;go_meet
     case rel=>exact⟨by rw[e],ah.refl _ _⟩
    |false=>
     have c1':w2.cell? ⟨p,1,none⟩=some (aq a.pl):=aa Ke.out.own 1;have RM:=zW Ke.out.log;have hrt:bF a.dl*64-(lB v.recs).length=cI v:=by unfold cI;rw[<-Ke.out.half]
     rw[hrt]at RM;have RM:=hd0 RM;have Cx:(c.line.length:Int)<=1300:=by have:=HLN.out.2;omega
     have e:rb=decide (cI v<c.line.length+2):=by rw[<-Ku.out];simp
     have e2:decide (((cI v:Nat):Int)<(c.line.length:Int)+2)=decide (cI v<c.line.length+2):=by rw[avt];simp only[au9];omega
     rw[<-e2]at e;have HEe:=hd0 e;clear hrt e e2;go_wp2_with fail;refine RM.out.mono ?_;rintro e w3 ⟨rfl,k3⟩;have dJ:=hd0 k3;clear k3;go_wp2_with fail;go_meet
     case rel=>exact⟨by rw[HEe.out],dJ.out⟩
   case rest=>
    obtain⟨rfl,hkc⟩:=hcut;have Jp:=hd0 hkc;clear hkc c0 c1 c2 c3 c4
    go_upto_if 48 with fail
    go_cut []from 15 to 121 (fun wx=>∃ v1 a1,(if(c.kind=7\/c.kind=8)\/c.line.length+2<=cI v then(.ok v:Except Int Vs)else bC v v.b.list [])=.ok v1/\iR v v1/\(v1.num<=v.num+1/\(v1.recs=v.recs\/v1.recs=[]))/\ei w2 p v a v1 a1 wx)
    case first=>
     cases rb with
     |false=>
      have Td:Hid ((if(c.kind=7\/c.kind=8)\/c.line.length+2<=cI v then(.ok v:Except Int Vs)else bC v v.b.list [])=.ok v):=hd0 (auT (by
       have h1:=Ku.out;have h2:=Hsb.out
       cases sb with
       |true=>exact .inl (of_decide_eq_true h2)
       |false=>
        have h3:decide (cI v<c.line.length+2)=false:=by simpa using h1
        have:=of_decide_eq_false h3;exact .inr (by omega)))
      go_wp2_with fail;go_meet
      case rel=>exact⟨v,a,Td.out,iR.refl HD.out.good,⟨by omega,.inl rfl⟩,(ei.refl Ke.out).keep Jp.out⟩
     |true=>
      have Td:Hid ((if(c.kind=7\/c.kind=8)\/c.line.length+2<=cI v then(.ok v:Except Int Vs)else bC v v.b.list [])=bC v v.b.list []):=hd0 (auV (by
       have h1:=Ku.out;have h2:=Hsb.out
       cases sb with
       |true=>cases h1
       |false=>
        have h3:decide (cI v<c.line.length+2)=true:=by simpa using h1
        have:=of_decide_eq_true h3;exact fun hh=>hh.elim (of_decide_eq_false h2) (fun hh=>by omega)))
      have HVC:=hd0 (Ke.out.keep Jp.out);have YL:wc.cell? ⟨p,11,none⟩=some a.sv:=aa HVC.out.own 11;have PO:=hd0 (kq (tI HVC.out) HD.out.good.ready (nO v) HD.out.id (by have:=HD.out.num;omega));go_wp2_with fail;refine PO.out.mono ?_;rintro e wP ⟨rfl,u,a',hu,gW⟩;have HS:Hid (iR v u/\u.num<=v.num+1/\(u.recs=v.recs\/u.recs=[])):=hd0 (by
       obtain⟨u',h1,h2,_,h4,h5⟩:=ip HD.out.good;rw[h1]at hu;injection hu with hu;subst hu;exact⟨h2,by omega,.inr h4⟩)
      have HPT:=hd0 hu;have ze:=hd0 (ei.ahead Jp.out gW);clear hu gW PO YL;go_wp2_with fail;go_meet
      case rel=>exact⟨u,a',Td.out.trans HPT.out,HS.out.1,HS.out.2,ze.out⟩
    case rest=>
     obtain⟨v1,a1,he1,dj,dC,gW⟩:=hcut;have Td:=hd0 he1;have sU:=hd0 dj;have HNU:=hd0 dC;have ze:=hd0 gW;have oo:=hd0 (ab gW.mod jL.out (fun hf=>by have:=sF.out cb hf;omega));have VP:=hd0 (gW.tree aej.out HAP.out);have Wl:=hd0 (EU gW aej.out HAP.out);have FI:=hd0 (MW gW.at_ dj.good (by rw[dj.id];exact HD.out.id) (by have:=HD.out.num;omega) VP.out HWF.out HNT.out.tokp Wl.out c.kind);have I5:=hd0 (ak jL.out);clear he1 dj dC gW jL Jp Ku Ke;obtain⟨c0,c1,c2,c3,c4⟩:=cC oo.out;go_wp2_with fail;refine FI.out.mono ?_;rintro e w4 ⟨b,u,a2,hf,rfl,NS⟩;have SJ:=ES sU.out.good hf;have HF:=hd0 hf;have HFN:=hd0 SJ;have akl:=hd0 NS;have HDV:=hd0 (J9 FT.out aa7.out Td.out hf);have FK:=hd0 (ab NS.mod oo.out (fun hf=>(ze.out.foot cb hf).elim (fun h1=>by have:=sF.out cb h1;omega) (fun h1=>by have:=I5.out;omega)));have aj7:=hd0 (NS.tree VP.out Wl.out);have ajC:=hd0 (EU NS VP.out Wl.out);have XW:Hid (ei w p v a u a2 w4):=hd0 (ei.ahead bw.out (ze.out.trans NS));clear hf SJ NS FI c0 c1 c2 c3 c4 oo VP Wl;obtain⟨c0,c1,c2,c3,c4⟩:=cC FK.out
     cases b with
     |false=>
      have HDO:Hid (BG v c=.ok (151,u)):=hd0 (by rw[HDV.out,auT rfl]);go_wp2;go_ret;exact⟨151,u,a2,HDO.out,rfl,XW.out.did⟩
     |true=>
      have HDW:Hid (BG v c=if c.kind=7 then(bC u u.b.list c.path).map fun u=>(0,u)
       else if c.kind=8 then(bC u (u.b.list.eraseIdx ((dA u c.path).getD 0)) []).map fun u=>(0,u)
       else if cI u<c.line.length+2 then .ok (72,u)
       else .ok (0,{ u with T:=T,recs:=u.recs++[c.line] })):=hd0 (by rw[HDV.out,auV (by decide)])
      have HS:=hd0 (sU.out.trans HFN.out.1);have VU:Hid (u.b.id<=1099511627777/\u.num<1099511627776):=hd0 ⟨by rw[HS.out.id];exact HD.out.id,by have:=HD.out.num;have:=HFN.out.2.1;have:=HNU.out.1;omega⟩;have Ja:=hd0 akl.out.at_;by_cases h7:c.kind=7
      ·have HR:Hid (BG v c=(bC u u.b.list c.path).map fun u=>(0,u)):=hd0 (by rw[HDW.out,auT h7]);have Yy:Hid (fL u u.b.list c.path):=hd0 (by
        obtain⟨h1,h2,h3⟩:=ER aa7.out h7;obtain⟨h4,h5,_⟩:=HD.out.name FT.out h7;exact⟨List.Sublist.refl _,.inr ⟨h4,h5,fun x hx=>by rw[HS.out.list]at hx;exact xP h1 x hx,by rw[HS.out.list];exact h2,by rw[HS.out.id];omega⟩⟩)
       rw[h7]at c0;have YL:w4.cell? ⟨p,11,none⟩=some a2.sv:=aa Ja.out.own 11;have PO:Hid (∀ W,af w4 W->Calls prog 64 #[aq p,a2.sv,aB c.path] W fun e w'=>e=.returned (.int .i64 0)/\∃ x a',bC u u.b.list c.path=.ok x/\ei W p u a2 x a' w'):=hd0 (fun W k=>kq (tI (Ja.out.keep k)) HS.out.good.ready Yy.out VU.out.1 VU.out.2);clear h7 HDW HDV
       go_upto_region 15 with fail
       go_region_with (go_at_call 64;refine auY (PO.out _ ((ah.refl _ w4).drew)) ?_;rintro e wP ⟨rfl,x,a',hx,gW⟩;have HX:=hd0 hx;have HTP:=hd0 (ei.ahead ((ah.refl (fun _=>False) w4).drew) gW);clear hx gW)
       all_goals (go_wp2;go_ret;exact⟨0,x,a',by rw[HR.out,HX.out];rfl,rfl,(XW.out.trans HTP.out).did⟩)
      ·have b7:(c.kind==7)=false:=by simpa using h7
       by_cases h8:c.kind=8
       ·obtain⟨i,hi⟩:=IM aa7.out h8;rw[<-Rl HS.out.list]at hi;have Je:i<u.b.list.length:=by
         obtain⟨x,hx,_⟩:=IK hi;exact(au0.1 hx).1
        have HR:Hid (BG v c=(bC u (u.b.list.eraseIdx i) []).map fun u=>(0,u)):=hd0 (by rw[HDW.out,auV h7,auT h8,hi];rfl);have Yy:Hid (fL u (u.b.list.eraseIdx i) []):=hd0 ⟨List.eraseIdx_sublist _ _,.inl rfl⟩;have DEL:=hd0 (aiW.out h8);have uE:u.b.list.length<=7:=HS.out.good.list.many;have hii:(i:Int)<=7:=by omega
        have NM:=xN Ja.out (by omega) c.path;rw[hi]at NM;have NM:=hd0 NM;have HIL:=hd0 (And.intro Je uE);rw[h8]at c0;clear h7 h8 HDW HDV hi Je uE b7;unfold xG at NM;simp only at NM;go_wp2_with fail;refine NM.out.mono ?_;rintro e w5 ⟨rfl,k5⟩;have HV5:=hd0 (Ja.out.keep k5);have lz:=hd0 k5;have YL:w5.cell? ⟨p,11,none⟩=some a2.sv:=aa HV5.out.own 11;have CL:=hd0 (pr a2.sv u.b.list w5 HV5.out.list (by have:=HIL.out.2;omega));clear k5 NM c0 c1 c2 c3 c4;go_wp2_with fail;refine CL.out.mono ?_;rintro e w6 ⟨vl,rfl,NJ,k6⟩;have tL:=hd0 (lz.out.keep k6);have HO6:=hd0 NJ;have HS5:=hd0 lz.out.size;have DL:=hd0 (DEL.out u.b.list i vl w6 w5.heap.size NJ HIL.out.1 (by have:=HIL.out.2;omega));clear k6 NJ CL;go_wp2_with fail;refine DL.out.mono ?_;rintro e w7 ⟨vl2,rfl,ho7,m7⟩;have uD:Hid (af w4 w7):=hd0 (tL.out.trans m7 (fun g hl hg=>by have:=(HO6.out.lt g hg).1;have:=HS5.out;omega));have yo:=hd0 (Ja.out.keep uD.out);have HPM:Hid (Ao w7 p u a2 vl2 (u.b.list.eraseIdx i)):=hd0 ⟨yo.out,pZ ho7,fun g hg=>by
         have h1:=(ho7.lt g hg).1;have h2:=HS5.out;refine⟨fun hf=>?_,fun hf=>?_,fun e=>?_⟩
         ·have:=Ja.out.lt (b:=g) (.inr (.inl hf));omega
         ·have:=Ja.out.lt (b:=g) (.inr (.inr (.inl hf)));omega
         ·have:=Ja.out.lt (b:=g) (.inl e);omega⟩
        have PO:=hd0 (kq HPM.out HS.out.good.ready Yy.out VU.out.1 VU.out.2);clear ho7 m7 DL YL;go_wp2_with fail;refine PO.out.mono ?_;rintro e wP ⟨rfl,x,a',hx,gW⟩;have HX:=hd0 hx;have HTP:=hd0 (ei.ahead uD.out gW);clear hx gW PO;go_wp2;go_ret;exact⟨0,x,a',by rw[HR.out,HX.out];rfl,rfl,(XW.out.trans HTP.out).did⟩
       ·have b8:(c.kind==8)=false:=by simpa using h8
        have Yo:Hid (¬ cI u<c.line.length+2):=hd0 (by
         have h0:=Td.out;have h9:=HLN.out.1;have Si:∀ x:Vs,x.recs=[]->x.half=v.half->¬ cI x<c.line.length+2:=fun x e1 e2=>by
          unfold cI;rw[e1,e2];simp[lB];omega
         have Su:¬ cI v1<c.line.length+2:=by
          by_cases hr:c.line.length+2<=cI v
          ·rw[auT (.inr hr)]at h0;injection h0 with h0;subst h0;omega
          ·rw[auV (fun hh=>hh.elim (fun hh=>hh.elim h7 h8) hr)]at h0;obtain⟨y,q1,q2,_,q3,_⟩:=ip HD.out.good;rw[q1]at h0;injection h0 with h0;subst h0;exact Si _ q3 q2.half
         rcases HFN.out.2.2 with e|e
         ·unfold cI at Su ⊢;rw[e,HFN.out.1.half];exact Su
         ·exact Si u e HS.out.half)
        have HR:Hid (BG v c=.ok (0,{ u with T:=T,recs:=u.recs++[c.line] })):=hd0 (by rw[HDW.out,auV h7,auV h8,auV Yo.out]);have c1':w4.cell? ⟨p,1,none⟩=some (aq a2.pl):=aa Ja.out.own 1;have hrm:(lB u.recs).length+c.line.length+2<=bF a2.dl*64:=by
         have h1:=Yo.out;unfold cI at h1;rw[Ja.out.half];omega
        have LA:=hd0 (DT Ja.out.log c.line HLN.out.2 hrm (by
         have h1:=Rm u.recs;have h2:bF a2.dl<=8192:=by
          obtain⟨pd,lv,Fd,hl⟩:=Ja.out.log;have:=hl.many.2;unfold bF;omega
         omega))
        clear h7 h8 HDW HDV hrm;go_wp2_with fail;refine LA.out.mono ?_;rintro e w5 ⟨rfl,Fl2,hl5,mt⟩;have XZ:=ab mt.mod Ja.out.own Ja.out.nl;have f14:=ae XZ ⟨p,14,none⟩ rfl;have c14:w5.cell? ⟨p,14,none⟩=some (aq a2.pt):=aa XZ 14;obtain⟨Jq,Kw⟩:=Vt Ja.out hl5 mt (MX _ _ _ _) aj7.out HWF.out ajC.out;have HD1:=hd0 Jq;have HD2:=hd0 Kw;have XO:=hd0 mt;clear Jq Kw mt hl5 XZ LA c1';go_wp2;go_ret;refine⟨0,_,_,HR.out,rfl,⟨HD1.out,?_,XW.out.mod.trans HD2.out (fun g hl hs=>(XW.out.foot g hs).elim id (fun h1=>absurd h1 (by omega))),fun e=>XW.out.text e⟩⟩;intro g hg;have up:a2.foot p g->a.foot p g\/w.heap.size<=g:=XW.out.foot g;rcases hg with hg|hg|hg|hg
        ·exact up (.inl hg)
        ·exact up (.inr (.inl hg))
        ·exact(XO.out.foot g hg).elim (fun h=>up (.inr (.inr (.inl h)))) (fun h=>.inr (auI XW.out.mod.size h))
        ·rcases hg with hg|hg|hg|hg|hg
         ·exact up (.inr (.inr (.inr (.inl hg))))
         ·exact(HRO.out g hg).elim (fun h=>.inl (.inr (.inr (.inr (.inr (.inl h)))))) .inr
         ·exact up (.inr (.inr (.inr (.inr (.inr (.inl hg))))))
         ·exact up (.inr (.inr (.inr (.inr (.inr (.inr (.inl hg)))))))
         ·exact up (.inr (.inr (.inr (.inr (.inr (.inr (.inr hg)))))))
end
section
open Go.RowKit
attribute [local go_sem] auG
theorem jH:ar Tr.new=[⟨1,true,1,[0]⟩]:=by
 have e:mg []=[0]:=by unfold mg;rw[aM,dif_pos (by decide)];rfl
 simp[ar,Tr.new,Nd.told,e]
theorem xT:iH (ar Tr.new):=by
 refine⟨⟨by rw[jH];decide,by rw[jH];decide,fun x hx=>?_,fun x hx=>?_⟩,Tr.new,_,GC,rfl⟩
 ·rw[jH]at hx;simp at hx;subst hx;decide
 ·rw[jH]at hx;simp at hx;subst hx;decide
theorem MZ {w:World}{p1 p2:Nat}{d1 d2:Dk}{F1 F2:Nat->Prop}(h1:bB w p1 d1 F1)(h2:bB w p2 d2 F2)(nW:∀ b,F1 b->¬ F2 b)(sT:128<=d1.size)(jv:43<=d2.size):
  Calls prog 49 #[aq p1,aq p2] w fun e w'=>∃ p u a,e=.returned (.tuple #[aq p,.int .i64 0])/\lp w' p u a/\bC (dP (iy d1) (d1.size/4) 1 (bF d2*64) Tr.new) [] []=.ok u/\a.text=ge u.b/\(∀ g,a.foot p g->F1 g\/F2 g\/w.heap.size<=g)/\ah (fun g=>F1 g\/F2 g) w w':=by
 have H1:=hd0 h1;have H2:=hd0 h2;have HAP:=hd0 nW;have HS:=hd0 (And.intro sT jv);have mW:d1.size<=16384:=h1.ok.many;have gX:d2.size<=16384:=h2.ok.many;have HM:=hd0 (And.intro mW gX);have SE:=hd0 (jB h2);have VF:=hd0 (DM h1 (by omega) [] (by decide));have q1:¬(d2.size:Int)<43:=by omega
 clear h1 h2 nW sT jv mW gX;go_enter func49,ntmps49;go_wp2_with fail;refine SE.out.mono ?_;rintro e wz ⟨rfl,hz⟩;rw[hz];clear hz;go_wp2_with fail;refine VF.out.mono ?_;rintro e w1 ⟨pv,rfl,Ya,Fv,OX,hkv⟩;have HVA:=hd0 OX;have HKV:=hd0 hkv;have HPV:=hd0 Ya;have VB:=oQ OX;have cJ:(kK (d1.put 0 (List.replicate 64 0)) [] 1).size=d1.size:=by rw[qG,fF]
 rw[cJ]at VB;have VB:=hd0 VB;have Cd:=hd0 cJ;have H2b:Hid (bB w1 p2 d2 F2):=hd0 (H2.out.same (hkv.mod.on fun b hb h1=>HAP.out b h1 hb) hkv.mod.size);have NF:=hd0 (DN H2b.out (by have:=HS.out.2;omega) 1 (by decide));have q2:¬((d1.size/4:Nat):Int)<32:=by have:=HS.out.1;omega
 clear OX hkv Ya cJ q1 SE VF;go_wp2_with fail;refine VB.out.mono ?_;rintro e wz ⟨rfl,hz⟩;rw[hz];clear hz;go_wp2_with fail;refine NF.out.mono ?_;rintro e w3 ⟨pl,rfl,j8,Fl,hla,yX⟩;have HLA:=hd0 hla;have XO:=hd0 yX;have HPL:=hd0 j8;have aaJ:=HVA.out.same (yX.mod.on fun b hb h2=>(HKV.out.foot b hb).elim (fun h1=>HAP.out b h1 h2) (fun h1=>by have:=H2.out.lt b h2;omega)) yX.mod.size;have aiZ:=hd0 aaJ;have VB3:=oQ aaJ;rw[Cd.out]at VB3;have VB3:=hd0 VB3;clear hla yX j8 aaJ VB NF q2;go_wp2_with fail;refine VB3.out.mono ?_;rintro e wz ⟨rfl,hz⟩;rw[hz];clear hz;have PN:=hd0 (Qe w3 (d1.size/4) (by have:=HS.out.1;have:=HM.out.1;omega));clear VB3;go_wp2_with fail;refine PN.out.mono ?_;rintro e w5 ⟨pm,rfl,hpm,KC,k5⟩;have HMA:=hd0 KC;have HPM:=hd0 hpm;have lz:=hd0 k5;have TN:=hd0 (U9 w5);clear KC hpm k5 PN;go_wp2_with fail;refine TN.out.mono ?_;rintro e w6 ⟨pt,tb,A,M,role,rfl,ht,hr,k6⟩;have HTR:=hd0 ht;have HRO:=hd0 hr;have tL:=hd0 (lz.out.keep k6);have ac2:=hd0 (HMA.out.mod k6 id);clear ht hr k6 TN;go_wp2_with fail;obtain⟨v0,Jg⟩:∃ v0,dP (iy d1) (d1.size/4) 1 (bF d2*64) Tr.new=v0:=⟨_,rfl⟩
 obtain⟨a0,ha0⟩:∃ a0:eV,(⟨pv,pl,pm,pt,.slice none 0 0,.slice none 0 0,.slice none 0 0,kK (d1.put 0 (List.replicate 64 0)) [] 1,eE d2 1 0,[],role,Fv,Fl⟩:eV)=a0:=⟨_,rfl⟩
 obtain⟨W,hW⟩:∃ W,w6.alloc (.cells #[aq pv,aq pl,.int .i64 0,.int .i64 0,.int .i64 0,.int .i64 0,.int .i64 0,.int .i64 0,.int .i64 1,.int .i64 1,.slice none 0 0,.slice none 0 0,aq pm,.slice none 0 0,.pointer (some ⟨pt,0,none⟩),.bool false] 102)=W:=⟨_,rfl⟩
 obtain⟨vb,ZW⟩:∃ vb,w6.heap.size=vb:=⟨_,rfl⟩
 have kW:af w6 W:=by rw[<-hW];exact(ah.refl _ w6).alloc _
 have bW:World.blk W vb #[aq pv,aq pl,.int .i64 0,.int .i64 0,.int .i64 0,.int .i64 0,.int .i64 0,.int .i64 0,.int .i64 1,.int .i64 1,.slice none 0 0,.slice none 0 0,aq pm,.slice none 0 0,.pointer (some ⟨pt,0,none⟩),.bool false] 102:=by rw[<-hW,<-ZW];exact aw _ _ _
 have kW4:af w3 W:=tL.out.keep kW;have hFv:∀ b,Fv b->F1 b\/w.heap.size<=b:=HKV.out.foot;have Tt:∀ b,Fl b->F2 b\/w1.heap.size<=b:=XO.out.foot;have s1:w.heap.size<=w1.heap.size:=HKV.out.mod.size;have s2:w1.heap.size<=w3.heap.size:=XO.out.mod.size;have s3:w3.heap.size<=w5.heap.size:=lz.out.size;have s4:w3.heap.size<=vb:=by rw[<-ZW];exact tL.out.size
 have lv:∀ b,Fv b->b<w1.heap.size:=fun b hb=>HVA.out.lt b hb;have ll:∀ b,Fl b->b<w3.heap.size:=fun b hb=>HLA.out.lt b hb;have lr:∀ b,role b≠.none->w5.heap.size<=b/\b<vb:=fun b hb=>⟨HRO.out b hb,by rw[<-ZW];exact HTR.out.lt b hb⟩
 have lm:w3.heap.size<=pm/\pm<vb:=⟨HPM.out,by rw[<-ZW];exact ac2.out.lt⟩
 have l2:∀ b,F2 b->b<w1.heap.size:=fun b hb=>H2b.out.lt b hb;have hx:lp W vb v0 a0:=by
  rw[<-Jg,<-ha0];refine⟨bW,aiZ.out.same (kW4.on fun _ _=>id) kW4.size,?_,?_,HLA.out.same (kW4.on fun _ _=>id) kW4.size,?_,World.ownsRow_nil _ _ _ _,World.ownsRow_nil _ _ _ _,World.ownsRow_nil _ _ _ _,ac2.out.mod kW id,⟨tb,A,M,HTR.out.keep kW⟩,⟨_,GC⟩,?_,?_,?_,?_⟩
  ·show iy (kK (d1.put 0 (List.replicate 64 0)) [] 1)=iy d1;rw[vJ,t6 _ _ (by omega)]
  ·show(kK (d1.put 0 (List.replicate 64 0)) [] 1).size/4=d1.size/4;rw[Cd.out]
  ·show bF (eE d2 1 0)*64=bF d2*64;unfold bF;rw[uw]
  ·intro b hb hl;have:=lv b hb;rcases Tt b hl with h2|h2
   ·rcases hFv b hb with h1|h1
    ·exact HAP.out b h1 h2
    ·have:=H2.out.lt b h2;omega
   ·omega
  ·exact fun(hb:Fv vb)=>by have:=lv vb hb;omega
  ·exact fun(hb:Fl vb)=>by have:=ll vb hb;omega
  ·intro b hb;have key:w3.heap.size<=b/\b<vb:=by
    rcases hb with hb|hb|hb|hb|hb
    ·obtain rfl:b=pm:=hb;exact lm
    ·have:=lr b hb;exact⟨by omega,this.2⟩
    ·cases hb
    ·cases hb
    ·cases hb
   exact⟨fun(hf:Fv b)=>by have:=lv b hf;omega,fun(hf:Fl b)=>by have:=ll b hf;omega,by omega⟩
 have qy:∀ g,a0.foot vb g->F1 g\/F2 g\/w.heap.size<=g:=by
  intro g hg;rw[<-ha0]at hg;rcases hg with hg|hg|hg|hg
  ·exact .inr (.inr (by omega))
  ·exact(hFv g hg).imp id (fun h=>.inr h)
  ·exact(Tt g hg).elim (fun h=>.inr (.inl h)) (fun h=>.inr (.inr (by omega)))
  ·rcases hg with hg|hg|hg|hg|hg
   ·have:g=pm:=hg;exact .inr (.inr (by omega))
   ·have:=lr g hg;exact .inr (.inr (by omega))
   ·cases hg
   ·cases hg
   ·cases hg
 have dp:ah (fun g=>F1 g\/F2 g) w W:=((HKV.out.mod.mono fun _ _ h=>.inl h).trans (XO.out.mod.mono (T:=fun g=>F1 g\/F2 g) fun _ _ h=>.inr h) (fun _ _ h=>h)).trans (kW4.mono (T:=fun g=>F1 g\/F2 g) fun _ _ h=>h.elim) (fun _ _ h=>h);have Ts:mN v0:=by
  rw[<-Jg];exact xR _ _ _ _ (by have:=HS.out.1;have:=HM.out.1;omega) xT (by rw[jH];rfl) (fun x hx=>by rw[jH]at hx;simp at hx;subst hx;decide)
 have hpm:Ao W vb v0 a0 (.slice none 0 0) []:=⟨hx,World.ownsRow_nil _ _ _ _,fun g hg=>by cases hg⟩
 have uN:v0.b.list=[]:=by rw[<-Jg];rfl
 have PO:=uv hpm Ts (more:=[]) ⟨by rw[uN];exact List.Sublist.refl _,.inl rfl⟩ (by rw[<-Jg];show(1:Nat)<=_;omega) (by rw[<-Jg];show(1:Nat)<_;omega);rw[<-Jg]at PO;have PO:=hd0 PO;have HF:=hd0 qy;have HMO:=hd0 dp;have HSW:Hid (w.heap.size<=W.heap.size):=hd0 dp.size;have H10:Hid (dP (iy d1) (d1.size/4) 1 (bF d2*64) Tr.new=v0):=hd0 Jg;have T0:Hid (∀ g,Fv g\/Fl g\/g=vb->F1 g\/F2 g\/w.heap.size<=g):=hd0 (fun g hg=>by
  rcases hg with hg|hg|hg
  ·exact(hFv g hg).imp id (fun h=>.inr h)
  ·exact(Tt g hg).elim (fun h=>.inr (.inl h)) (fun h=>.inr (.inr (by omega)))
  ·exact .inr (.inr (by omega)))
 rw[hW,ZW];clear hx qy dp Ts hpm uN lv ll lr lm l2 s1 s2 s3 s4 hFv Tt kW4 kW bW hW ZW Jg;go_wp2_with fail;refine PO.out.mono ?_;rintro e w7 ⟨rfl,u,a',hu,AD,gW⟩;have HTX:=hd0 AD;have HU:=hd0 hu;have ze:=hd0 gW;clear hu gW AD PO;go_wp2;go_ret2;refine⟨vb,u,a',rfl,ze.out.at_,HU.out,HTX.out,fun g hg=>(ze.out.foot g hg).elim (HF.out g) (fun h=>.inr (.inr (auI HSW.out h))),HMO.out.trans ze.out.mod (fun g hl hs=>(HF.out g hs).elim .inl (fun h=>h.elim .inr (fun h=>absurd h (by omega))))⟩
end
section
open Go.RowKit
attribute [local go_sem] auG
theorem rc {w:World}{p:Nat}{v:Vs}{a:eV}(h:lp w p v a)(hl:v.b.list.length<=1000):
  Calls prog 55 #[aq p] w fun e w'=>∃ x,e=.returned x/\dX oB 5 85 w' w.heap.size x v.b.list/\af w w':=by
 have YL:w.cell? ⟨p,11,none⟩=some a.sv:=aa h.own 11;have CL:=hd0 (pr a.sv v.b.list w h.list hl);clear h;go_enter func55,ntmps55;go_wp2_with fail;refine CL.out.mono ?_;rintro e w1 ⟨x,rfl,ho,k⟩;have HO:=hd0 ho;have HK:=hd0 k;clear ho k CL;go_wp2;go_ret;exact⟨x,rfl,HO.out,HK.out⟩
theorem xU {w:World}{p:Nat}{v:Vs}{a:eV}(h:lp w p v a):
  Calls prog 45 #[aq p] w fun e w'=>∃ m,e=.returned (aq m)/\w.heap.size<=m/\dy w' m v.blocks v.b.planes/\af w w':=by
 have c12:w.cell? ⟨p,12,none⟩=some (aq a.pm):=aa h.own 12;have CL:=hd0 (wV h.map);clear h;go_enter func45,ntmps45;go_wp2_with fail;refine CL.out.mono ?_;rintro e w1 ⟨m,rfl,hm,KC,k⟩;have HM:=hd0 (And.intro hm (And.intro KC k));clear hm KC k CL;go_wp2;go_ret;exact⟨m,rfl,HM.out⟩
theorem Vv {w w':World}{p:Nat}{v:Vs}{a:eV}(h:lp w p v a){F:Nat->Prop}(hv:ig w' a.pv a.d a.text v.num F)(k:ec a.Fv F w w'):ei w p v a v { a with Fv:=F } w':=by
 have SD:∀ b,a.still b->¬ a.Fv b:=fun b hb=>(h.stays b hb).1;have hF:∀ b,F b->a.Fv b\/w.heap.size<=b:=k.foot;have hFn:∀ b,b<w.heap.size->¬ a.Fv b->¬ F b:=fun b hb hn hf=>(hF b hf).elim hn (fun h1=>by omega);refine⟨⟨ab k.mod h.own h.nv,hv,h.rd,h.size,h.log.same (k.mod.on fun g hg hh=>h.apart g hh hg) k.mod.size,h.half,?_,?_,?_,?_,?_,h.wf,?_,hFn p (ak h.own) h.nv,h.nl,?_⟩,rfl,?_,k.mod.mono (fun g _ h=>.inr (.inl h)),fun b hb hl=>k.mod.block b hl (SD b (.inr (.inl hb))),id⟩
 ·exact aA h.inos fun g hg=>k.mod.block g (el h.inos hg) (SD g (.inr (.inr (.inl hg))))
 ·exact aA h.list fun g hg=>k.mod.block g (el h.list hg) (SD g (.inr (.inr (.inr (.inl hg)))))
 ·exact aA h.nodes fun g hg=>k.mod.block g (el h.nodes hg) (SD g (.inr (.inr (.inr (.inr hg)))))
 ·exact h.map.mod k.mod (SD a.pm (.inl rfl))
 ·obtain⟨tb,A,M,t⟩:=h.tree;exact⟨tb,A,M,t.same (k.mod.on fun b hb=>SD b (.inr (.inl hb))) k.mod.size⟩
 ·exact fun b hb hl=>(hF b hb).elim (fun h1=>h.apart b h1 hl) (fun h1=>by have:=h.log.lt b hl;omega)
 ·intro b hb;have hs:=h.stays b hb;exact⟨hFn b (h.lt (.inr (.inr (.inr hb)))) hs.1,hs.2.1,hs.2.2⟩
 ·intro g hg;rcases hg with hg|hg|hg|hg
  ·exact .inl (.inl hg)
  ·exact(hF g hg).imp (fun h=>.inr (.inl h)) id
  ·exact .inl (.inr (.inr (.inl hg)))
  ·exact .inl (.inr (.inr (.inr hg)))
theorem xV {w:World}{p:Nat}{v:Vs}{a:eV}(h:lp w p v a)(n:Nat)(h1:1<=n)(h2:n<v.blocks)(s:ay)(hs:v.rd n=.ok s):
  Calls prog 22 #[aq p,.int .i64 (n:Int)] w fun e w'=>e=.returned (.tuple #[aB s,.int .i64 0])/\∃ a',ei w p v a v a' w'/\a'.text=a.text:=by
 have c0:w.cell? ⟨p,0,none⟩=some (aq a.pv):=aa h.own 0;have RD:=hd0 (zD h.vol n h1 (by rw[h.size];exact h2) s (by rw[h.rd];exact hs));have H:=hd0 h;clear h hs;go_enter func22,ntmps22;go_wp2_with fail;refine RD.out.mono ?_;rintro e w1 ⟨rfl,F,hv,hk⟩;have HT:=hd0 (Vv H.out hv hk);clear hv hk RD;go_wp2;go_ret2;exact⟨rfl,_,HT.out,rfl⟩
end
end Go.Proofs.YtkghpdcloaiflaaGreatDoor
