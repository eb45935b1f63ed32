import Derived.Test.YtkghpdcloaiflaaGreatDoorH36
set_option maxHeartbeats 8000000
set_option maxRecDepth 100000
namespace Go.Proofs.YtkghpdcloaiflaaGreatDoor
open _root_.Go.Proofs.Tryz
variable {F:Nat->Prop}{b:Bool}{p:Nat}{w w':World}
section
open Go.RowKit
structure Z0 (w:World)(p:Nat)(v:Vs)(a:eX)(u:Vs)(a':eX)(w':World):Prop where
 at_:lc w' p u a'
 foot:∀ g,a'.foot p g->a.foot p g\/w.heap.size<=g
 mod:ai (a.foot p) w w'
 text:a.text=fT v.b->a'.text=fT u.b
theorem em.did {v u:Vs}{a a':eX}(h:em w p v a u a' w'):Z0 w p v a u a' w':=⟨h.at_,h.foot,h.mod,h.text⟩
theorem RA (recs:List ay):2*recs.length<=(kY recs).length:=by
 unfold kY
 induction recs with
 |nil=>simp
 |cons r l ih=>simp only[awL,awn,av5]at ih ⊢;simp only[axe];omega
theorem uu (d:Dk)(gen used:Nat):(eh d gen used).size=d.size:=by unfold eh;rw[dx,ft]
theorem Nb (d:Dk)(gen:Nat)(old pP:ay):bH (Ma d gen old pP)=bH d:=by
 have key:∀(x:Dk) (g u:Nat),x.size=d.size->bH (eh x.sync g u)=bH d:=λx g u e=>by
  unfold bH;rw[uu,dx,e]
 exact key _ _ _ (kg _ _ _ _)
theorem Wf {w1:World}{v:Vs}{a:eX}(h:lc w p v a){dl:Dk}{recs:List ay}(hl:kK w1 a.pl dl v.num recs F)(kl:dO a.Fl F w w1)(hh:bH dl=bH a.dl)
  {q tb:Nat} {A M:Int->Nat} {role:Nat->dE} {T:Tr} {d:Int->Nat} (ht:aS w q T tb A M role) (hw:WF T d) (nI:∀ b,role b≠.none->a.role b≠.none\/¬ a.foot p b):
  lc (w1.setCell ⟨p,14,none⟩ (au q)) p { v with T:=T,recs:=recs } { a with pt:=q,dl:=dl,role:=role,Fl:=F }/\ai (a.foot p) w (w1.setCell ⟨p,14,none⟩ (au q)):=by
 have hp:=ak h.own;have m0:ai (λg=>a.Fl g\/g=p) w w1:=kl.mod.mono λ_ _ h=>.inl h;have m:ai (λg=>a.Fl g\/g=p) w (w1.setCell ⟨p,14,none⟩ (au q)):=m0.setCell (p:=⟨p,14,none⟩) (.inl (.inr rfl)) _;have hb1:=ab kl.mod h.own h.nl;have CE:p<w1.heap.size:=ak hb1;have m1:ai (λg=>g=p) w1 (w1.setCell ⟨p,14,none⟩ (au q)):=(ai.refl (λg=>g=p) w1).setCell (p:=⟨p,14,none⟩) (.inl rfl) _;have hFp:¬ F p:=λhf=>(kl.foot p hf).elim h.nl (λh1=>J);have Ua:∀ b,a.still b->¬(λg=>a.Fl g\/g=p) b:=λb hb hh=>by
  have hs:=h.stays b hb;exact hh.elim hs.2.1 hs.2.2
 have rs:∀ b,role b≠.none->¬ a.Fv b/\¬ a.Fl b/\b≠p:=λb hb=>(nI b hb).elim (λh1=>h.stays b (.inr (.inl h1))) (λh1=>⟨λh2=>h1 (.inr (.inl h2)),λh2=>h1 (.inr (.inr (.inl h2))),λh2=>h1 (.inl h2)⟩);have hFn:∀ b,b<w.heap.size->¬ a.Fl b->¬ F b:=λb hb hn hf=>(kl.foot b hf).elim hn (λh1=>J);refine⟨⟨ah hb1 14 (au q),h.vol.same (m.on λg hg hh=>hh.elim (h.apart g hg) (λe=>h.nv (e▸hg))) m.size,h.rd,h.size,hl.same (m1.on λg hg e=>hFp (e▸hg)) m1.size,?_,?_,?_,?_,?_,?_,⟨d,hw⟩,?_,h.nv,hFp,?_⟩,m.mono λg _ hh=>hh.elim (λh=>.inr (.inr (.inl h))) .inl⟩
 ·show bH dl*64=v.half;rw[hh];exact h.half
 ·exact aA h.inos λg hg=>m.block g (dY h.inos hg) (Ua g (.inr (.inr (.inl hg))))
 ·exact aA h.list λg hg=>m.block g (dY h.list hg) (Ua g (.inr (.inr (.inr (.inl hg)))))
 ·exact aA h.nodes λg hg=>m.block g (dY h.nodes hg) (Ua g (.inr (.inr (.inr (.inr hg)))))
 ·exact h.map.mod m (Ua a.pm (.inl rfl))
 ·exact⟨tb,A,M,ht.same (m.on λb hb hh=>hh.elim (rs b hb).2.1 (rs b hb).2.2) m.size⟩
 ·exact λb hb hf=>(kl.foot b hf).elim (h.apart b hb) (λh1=>by have:=h.vol.lt b hb;omega)
 ·intro b hb;have key:b<w.heap.size/\¬ a.Fv b/\¬ a.Fl b/\b≠p:=by
   rcases hb with hb|hb|hb|hb|hb
   ·exact⟨by rw[show b=a.pm from hb];exact h.map.lt,h.stays b (.inl hb)⟩
   ·exact⟨ht.lt b hb,rs b hb⟩
   ·exact⟨dY h.inos hb,h.stays b (.inr (.inr (.inl hb)))⟩
   ·exact⟨dY h.list hb,h.stays b (.inr (.inr (.inr (.inl hb))))⟩
   ·exact⟨dY h.nodes hb,h.stays b (.inr (.inr (.inr (.inr hb))))⟩
  exact⟨key.2.1,hFn b key.1 key.2.2.1,key.2.2.2⟩
theorem E6 {v:Vs}{c:cm}{x:Int}(h:kS v c=.error x):x≠0/\BG v c=.ok (x,v):=by
 unfold kS at h;by_cases bZ:c.ok=false
 ·rw[awd bZ]at h;injection h with h;subst h;exact⟨by decide,by unfold BG;rw[awd bZ]⟩
 ·rw[awf bZ]at h;refine⟨?_,by unfold BG;rw[awf bZ,h]⟩;unfold nY at h;split at h
  ·injection h with h;omega
  ·split at h
   ·injection h with h;omega
   ·split at h
    ·injection h with h;omega
    ·split at h
     ·cases h
     ·split at h
      ·cases h
      ·injection h with h;subst h;assumption
theorem Ko {v:Vs}{c:cm}{T:Tr}(h:kS v c=.ok T):c.ok=true/\nY v c=.ok T/\(T=v.T\/T=(qG v.T c).1):=by
 unfold kS at h;by_cases bZ:c.ok=false
 ·rw[awd bZ]at h;cases h
 ·rw[awf bZ]at h;refine⟨by simpa using bZ,h,?_⟩;unfold nY at h;split at h
  ·cases h
  ·split at h
   ·cases h
   ·split at h
    ·cases h
    ·split at h
     ·injection h with h;exact .inl h.symm
     ·split at h
      ·injection h with h;exact .inr h.symm
      ·cases h
theorem E7 {v:Vs}{c:cm}{T:Tr}(h:nY v c=.ok T)(h7:c.kind=7):dt v c.path=none/\v.b.list.length<7/\v.b.id<1099511627777:=by
 unfold nY at h;split at h
 ·cases h
 ·rename_i h1
  split at h
  ·cases h
  ·rename_i h2
   refine⟨?_,?_,?_⟩
   ·cases hn:dt v c.path with
    |none=>rfl
    |some i=>exact absurd ⟨h7,by rw[hn];rfl⟩ h1
   ·apply awZ;intro hc;exact h2 ⟨h7,.inl J⟩
   ·apply awZ;intro hc;exact h2 ⟨h7,.inr J⟩
theorem I1 {v:Vs}{c:cm}{T:Tr}(h:nY v c=.ok T)(h8:c.kind=8):∃ i,dt v c.path=some i:=by
 cases hn:dt v c.path with
 |some i=>exact⟨i,rfl⟩
 |none=>
  unfold nY at h;rw[awf (λhh=>by have:=hh.1;omega),awf (λhh=>by have:=hh.1;omega),awd ⟨h8,by rw[hn];rfl⟩]at h
  cases h
theorem E8 {v u:Vs}(h:mu v){T:Tr}{kind:Int}(e:oK v T kind=.ok (b,u)):iJ v u/\u.num<=v.num+1/\(u.recs=v.recs\/u.recs=[]):=by
 unfold oK at e;split at e
 ·injection e with e;injection e with _ e;subst e;exact⟨iJ.refl h,J,.inl rfl⟩
 ·split at e
  ·simp only[Except.map]at e;injection e with e;injection e with _ e;subst e;exact⟨iJ.refl h,J,.inl rfl⟩
  ·obtain⟨x,hx,hs,_,hr,hn⟩:=gZ h;rw[hx]at e;simp only[Except.map]at e;injection e with e;injection e with _ e;subst e;exact⟨hs,J,.inr hr⟩
theorem Kp {v v1 u:Vs}{c:cm}{T:Tr}(bZ:c.ok=true)(hm:nY v c=.ok T)
  (e1:(if(c.kind=7\/c.kind=8)\/c.line.length+2<=cG v then(.ok v:Except Int Vs)else bF v v.b.list [])=.ok v1) (e2:oK v1 T c.kind=.ok (b,u)):
  BG v c=if b=false then .ok (151,u)else
   if c.kind=7 then(bF u u.b.list c.path).map λu=>(0,u)
   else if c.kind=8 then(bF u (u.b.list.eraseIdx ((dt u c.path).getD 0)) []).map λu=>(0,u)
   else if cG u<c.line.length+2 then .ok (72,u)
   else .ok (0,{ u with T:=T,recs:=u.recs++[c.line] }):=by
 unfold BG;rw[awf (by rw[bZ];decide),hm];simp only;rw[e1];simp only;rw[e2]
 cases b<;>rfl
theorem E9 {v u:Vs}{a a':eX}(k:em w p v a u a' w'){q tb:Nat}{A M:Int->Nat}{role:Nat->dE}{T:Tr}(ht:aS w q T tb A M role)(nI:∀ b,role b≠.none->a.role b≠.none\/¬ a.foot p b):
  ∀ b,role b≠.none->a'.role b≠.none\/¬ a'.foot p b:=λb hb=>(nI b hb).imp (λh1=>by rw[k.role];exact h1) (λh1 hf=>(k.foot b hf).elim h1 (λh2=>by have:=ht.lt b hb;omega))
end
section
open Go.RowKit
attribute [local go_sem] av0
def XV:Prop:=∀(l:List Sn) (i:Nat) (v:Value) (w:World) (base:Nat),dX uj 5 85 w base v l->i<l.length->l.length<=1000->
 Calls prog 67 #[v,.int .i64 (i:Int),.int .i64 ((i:Int)+1)] w λe w'=>∃ v',e=.returned v'/\dX uj 5 85 w' base v' (l.eraseIdx i)/\ai (λg=>v.ownBlock=some g) w w'
structure adk (v:Vs)(c:cm):Prop where
 good:mu v
 id:v.b.id<=1099511627777
 num:v.num+3<=1099511627776
 small:c.Small
 line:c.ok=true->c.line.length+2<=v.half/\c.line.length<=1300
 nodes:iw (aw (qG v.T c).1)
 name:c.ok=true->c.kind=7->aJ c.path=true/\c.path.length<=16/\c.path≠[]
theorem Wg {v:Vs}{a:eX}(h:lc w p v a)(he:yK w){c:cm}(hd:adk v c)(TO:c.kind=8->XV)(uA:VP c):
  Calls prog 25 #[au p,kZ c] w λe w'=>∃ r u a',BG v c=.ok (r,u)/\e=.returned (.int .i64 r)/\Z0 w p v a u a' w':=by
 have dM:af w (w.alloc (.cells (dq c) 55)):=(ai.refl _ w).alloc _;have ic:World.blk (w.alloc (.cells (dq c) 55)) w.heap.size (dq c) 55:=av _ _ _;obtain⟨H,HE,HD,ajc,eR,nE,MY⟩:=K7 h he hd TO dM ic (MZ (h.keep dM) (he.keep dM) c hd.small hd.good.list.many hd.id uA);obtain⟨cb,SS⟩:∃ cb,w.heap.size=cb:=⟨_,rfl⟩
 have Hcb:=Z SS;have TU:Hid (∀ g,a.foot p g->g<cb):=Z (λg hg=>by rw[<-SS];exact h.lt hg);clear h he hd TO dM ic uA;go_enter func25,ntmps25;unfold kZ dq;go_wp2_with fail;refine MY.mono ?_;rintro e w1 ⟨k1,hm⟩;obtain⟨cC,jg⟩:=K2 (eR.keep k1) (ab k1 nE.o id);rw[SS]at jg;clear k1 MY nE
 try rw[SS]
 clear SS
 cases hX:kS v c with
 |error x=>
  rw[hX]at hm;simp only at hm;subst hm;obtain⟨rf,uA⟩:=E6 hX;have HDO:=Z uA;have hx:(x==0)=false:=by simpa using rf
  clear hX uA rf;go_wp2;go_ret;exact⟨x,v,a,HDO.o,rfl,((em.refl H.o).keep cC.o).did⟩
 |ok T=>
  rw[hX]at hm;simp only at hm;obtain⟨q,tb,A,M,role,d,rfl,ht,hw,YH⟩:=hm;obtain⟨bZ,JH,hT⟩:=Ko hX;obtain⟨Ga,aa8,HTR,HWF⟩:=K4 bZ JH ht hw;have HNT:Hid (iw (aw T)):=Z (by
   rcases hT with rfl|rfl
   ·exact HD.good.told
   ·exact HD.nodes)
  have HAP:Hid (∀ b,role b≠.none->a.role b≠.none\/¬ a.foot p b):=Z (λb hb=>by
   rcases YH with⟨_,e⟩|h1
   ·exact .inl (by rw[<-e];exact hb)
   ·exact .inr (λhf=>by have:=TU.o b hf;have:=h1 b hb;have:=eR.size;have:=Hcb.o;omega))
  have HRO:Hid (∀ b,role b≠.none->a.role b≠.none\/w.heap.size<=b):=Z (λb hb=>by
   rcases YH with⟨_,e⟩|h1
   ·exact .inl (by rw[<-e];exact hb)
   ·exact .inr (av2 eR.size (h1 b hb)))
  have PR:=tf c w1 (HE.keep cC.o) HD.small;unfold kM at PR;rw[awd bZ]at PR;have PR:=Z PR;clear hX ht hw YH bZ JH hT HE;obtain⟨c0,c1,c2,c3,c4⟩:=cw jg.o;go_wp2_with fail;unfold kZ dq at PR;refine PR.mono ?_;rintro e w2 ⟨rfl,k2⟩;obtain⟨bJ,lJ,agE⟩:=K3 (cC.keep k2) (ab k2 jg.o id) (HTR.keep k2);clear k2 PR c0 c1 c2 c3 c4 jg HTR cC;obtain⟨c0,c1,c2,c3,c4⟩:=cw lJ.o;obtain⟨sb,hsb⟩:∃ sb:Bool,decide (c.kind=7\/c.kind=8)=sb:=⟨_,rfl⟩
  have Hsb:=Z hsb;clear hsb
  go_upto_region 5 with fail
  go_cut [9]from 15 to 121 (λx wx=>x=.bool sb/\wx=w2)
  case first=>
   by_cases h7:c.kind=7
   ·have e:sb=true:=by rw[<-Hsb.o,decide_eq_true (Or.inl h7)]
    rw[h7]at c0;clear h7;go_wp2_with fail;go_meet
    case rel=>exact⟨by rw[e],rfl⟩
   ·have b7:(c.kind==7)=false:=by simpa using h7
    by_cases h8:c.kind=8
    ·have e:sb=true:=by rw[<-Hsb.o,decide_eq_true (Or.inr h8)]
     rw[h8]at c0;clear h7 h8 b7;go_wp2_with fail;go_meet
     case rel=>exact⟨by rw[e],rfl⟩
    ·have b8:(c.kind==8)=false:=by simpa using h8
     have e:sb=false:=by rw[<-Hsb.o,awe (λh=>h.elim h7 h8)]
     clear h7 h8;go_wp2_with fail;go_meet
     case rel=>exact⟨by rw[e];try simp[b7,b8],rfl⟩
  case rest=>
   obtain⟨rfl,hwc⟩:=hcut;rw[hwc];clear hwc;have Kz:=Z (H.keep bJ.o);obtain⟨rb,Sj⟩:∃ rb:Bool,(!sb&&decide (cG v<c.line.length+2))=rb:=⟨_,rfl⟩
   have KW:=Z Sj;have HLN:Hid (c.line.length+2<=v.half/\c.line.length<=1300):=Z (HD.line Ga.o);clear Sj
   go_upto_region 6 with fail
   go_cut [48]from 15 to 121 (λx wx=>x=.bool rb/\af w2 wx)
   case first=>
    cases sb with
    |true=>
     have e:rb=false:=by rw[<-KW.o];rfl
     go_wp2_with fail;go_meet
     case rel=>exact⟨by rw[e],ai.refl _ _⟩
    |false=>
     have c1':w2.cell? ⟨p,1,none⟩=some (au a.pl):=aa Kz.own 1;have RM:=zT Kz.log;have hrt:bH a.dl*64-(kY v.recs).length=cG v:=by unfold cG;rw[<-Kz.half]
     rw[hrt]at RM;have RM:=Z RM;have FK:(c.line.length:Int)<=1300:=by have:=HLN.2;omega
     have e:rb=decide (cG v<c.line.length+2):=by rw[<-KW.o];simp
     have e2:decide (((cG v:Nat):Int)<(c.line.length:Int)+2)=decide (cG v<c.line.length+2):=by rw[awM];simp only[awt];omega
     rw[<-e2]at e;have HEe:=Z e;clear hrt e e2;go_wp2_with fail;refine RM.mono ?_;rintro e w3 ⟨rfl,k3⟩;have ez:=Z k3;clear k3;go_wp2_with fail;go_meet
     case rel=>exact⟨by rw[HEe.o],ez.o⟩
   case rest=>
    obtain⟨rfl,WU⟩:=hcut;have nH:=Z WU;clear WU c0 c1 c2 c3 c4
    go_upto_if 48 with fail
    go_cut []from 15 to 121 (λwx=>∃ v1 a1,(if(c.kind=7\/c.kind=8)\/c.line.length+2<=cG v then(.ok v:Except Int Vs)else bF v v.b.list [])=.ok v1/\iJ v v1/\(v1.num<=v.num+1/\(v1.recs=v.recs\/v1.recs=[]))/\em w2 p v a v1 a1 wx)
    case first=>
     cases rb with
     |false=>
      have Sy:Hid ((if(c.kind=7\/c.kind=8)\/c.line.length+2<=cG v then(.ok v:Except Int Vs)else bF v v.b.list [])=.ok v):=Z (awd (by
       have h1:=KW.o;have h2:=Hsb.o
       cases sb with
       |true=>exact .inl (of_decide_eq_true h2)
       |false=>
        have h3:decide (cG v<c.line.length+2)=false:=by simpa using h1
        have:=of_decide_eq_false h3;exact .inr J))
      go_wp2_with fail;go_meet
      case rel=>exact⟨v,a,Sy.o,iJ.refl HD.good,⟨by omega,.inl rfl⟩,(em.refl Kz.o).keep nH.o⟩
     |true=>
      have Sy:Hid ((if(c.kind=7\/c.kind=8)\/c.line.length+2<=cG v then(.ok v:Except Int Vs)else bF v v.b.list [])=bF v v.b.list []):=Z (awf (by
       have h1:=KW.o;have h2:=Hsb.o
       cases sb with
       |true=>cases h1
       |false=>
        have h3:decide (cG v<c.line.length+2)=true:=by simpa using h1
        have:=of_decide_eq_true h3;exact λhh=>hh.elim (of_decide_eq_false h2) (λhh=>J)))
      have HVC:=Z (Kz.keep nH.o);have Zm:wc.cell? ⟨p,11,none⟩=some a.sv:=aa HVC.own 11;have PO:=Z (j0 (tA HVC.o) HD.good.ready (nw v) HD.id (by have:=HD.num;omega));go_wp2_with fail;refine PO.mono ?_;rintro e wP ⟨rfl,u,a',hu,jm⟩;have HS:Hid (iJ v u/\u.num<=v.num+1/\(u.recs=v.recs\/u.recs=[])):=Z (by
       obtain⟨u',h1,h2,_,h4,h5⟩:=gZ HD.good;rw[h1]at hu;injection hu with hu;subst hu;exact⟨h2,J,.inr h4⟩)
      obtain⟨HPT,yW⟩:=K2 hu (em.ahead nH.o jm);clear hu jm PO Zm;go_wp2_with fail;go_meet
      case rel=>exact⟨u,a',Sy.trans HPT.o,HS.1,HS.2,yW.o⟩
    case rest=>
     obtain⟨v1,a1,he1,dh,iD,jm⟩:=hcut;obtain⟨Sy,uM,HNU,yW,qv,WE,XB⟩:=K7 he1 dh iD jm (ab jm.mod lJ.o (λhf=>by have:=TU.o cb hf;omega)) (jm.tree agE.o HAP.o) (E9 jm agE.o HAP.o);obtain⟨FI,Jq⟩:=K2 (Na jm.at_ dh.good (by rw[dh.id];exact HD.id) (by have:=HD.num;omega) WE.o HWF.o HNT.toNodesOk XB.o c.kind) (ak lJ.o);clear he1 dh iD jm lJ nH KW Kz;obtain⟨c0,c1,c2,c3,c4⟩:=cw qv.o;go_wp2_with fail;refine FI.mono ?_;rintro e w4 ⟨b,u,a2,hf,rfl,N6⟩;have TD:=E8 uM.good hf;obtain⟨HF,rr,ajl,HDV,Gd,akB,alK⟩:=K7 hf TD N6 (Kp Ga.o aa8.o Sy.o hf) (ab N6.mod qv.o (λhf=>(yW.foot cb hf).elim (λh1=>by have:=TU.o cb h1;omega) (λh1=>by have:=Jq.o;omega))) (N6.tree WE.o XB.o) (E9 N6 WE.o XB.o);have Zo:Hid (em w p v a u a2 w4):=Z (em.ahead bJ.o (yW.trans N6));clear hf TD N6 FI c0 c1 c2 c3 c4 qv WE XB;obtain⟨c0,c1,c2,c3,c4⟩:=cw Gd.o
     cases b with
     |false=>
      have HDO:Hid (BG v c=.ok (151,u)):=Z (by rw[HDV.o,awd rfl]);go_wp2;go_ret;exact⟨151,u,a2,HDO.o,rfl,Zo.did⟩
     |true=>
      have HDW:Hid (BG v c=if c.kind=7 then(bF u u.b.list c.path).map λu=>(0,u)
       else if c.kind=8 then(bF u (u.b.list.eraseIdx ((dt u c.path).getD 0)) []).map λu=>(0,u)
       else if cG u<c.line.length+2 then .ok (72,u)
       else .ok (0,{ u with T:=T,recs:=u.recs++[c.line] })):=Z (by rw[HDV.o,awf dc7])
      have HS:=Z (uM.trans rr.1);have WJ:Hid (u.b.id<=1099511627777/\u.num<1099511627776):=Z ⟨by rw[HS.id];exact HD.id,by have:=HD.num;have:=rr.2.1;have:=HNU.1;omega⟩;have JB:=Z ajl.at_;by_cases h7:c.kind=7
      ·have HR:Hid (BG v c=(bF u u.b.list c.path).map λu=>(0,u)):=Z (by rw[HDW.o,awd h7]);have Yg:Hid (fE u u.b.list c.path):=Z (by
        obtain⟨h1,h2,h3⟩:=E7 aa8.o h7;obtain⟨h4,h5,_⟩:=HD.name Ga.o h7;exact⟨List.Sublist.refl _,.inr ⟨h4,h5,λx hx=>by rw[HS.list]at hx;exact xK h1 x hx,by rw[HS.list];exact h2,by rw[HS.id];omega⟩⟩)
       rw[h7]at c0;have Zm:w4.cell? ⟨p,11,none⟩=some a2.sv:=aa JB.own 11;have PO:Hid (∀ W,af w4 W->Calls prog 64 #[au p,a2.sv,az c.path] W λe w'=>e=.returned (.int .i64 0)/\∃ x a',bF u u.b.list c.path=.ok x/\em W p u a2 x a' w'):=Z (λW k=>j0 (tA (JB.keep k)) HS.good.ready Yg.o WJ.1 WJ.2);clear h7 HDW HDV
       go_upto_region 15 with fail
       go_region_with (go_at_call 64;refine awi (PO.o _ ((ai.refl _ w4).drew)) ?_;rintro e wP ⟨rfl,x,a',hx,jm⟩;obtain⟨HX,HTP⟩:=K2 hx (em.ahead ((ai.refl (λ_=>False) w4).drew) jm);clear hx jm)
       all_goals (go_wp2;go_ret;exact⟨0,x,a',by rw[HR.o,HX.o];rfl,rfl,(Zo.trans HTP.o).did⟩)
      ·have b7:(c.kind==7)=false:=by simpa using h7
       by_cases h8:c.kind=8
       ·obtain⟨i,hi⟩:=I1 aa8.o h8;rw[<-Rz HS.list]at hi;have XD:i<u.b.list.length:=by
         obtain⟨x,hx,_⟩:=IZ hi;exact(awk.1 hx).1
        have HR:Hid (BG v c=(bF u (u.b.list.eraseIdx i) []).map λu=>(0,u)):=Z (by rw[HDW.o,awf h7,awd h8,hi];rfl);have Yg:Hid (fE u (u.b.list.eraseIdx i) []):=Z ⟨List.eraseIdx_sublist _ _,.inl rfl⟩;have DEL:=Z (ajc.o h8);have yl:u.b.list.length<=7:=HS.good.list.many;have hii:(i:Int)<=7:=J
        have NM:=xI JB.o J c.path;rw[hi]at NM;obtain⟨NM,HIL⟩:=K2 NM (And.intro XD yl);rw[h8]at c0;clear h7 h8 HDW HDV hi XD yl b7;unfold xB at NM;simp only at NM;go_wp2_with fail;refine NM.mono ?_;rintro e w5 ⟨rfl,k5⟩;obtain⟨HV5,nD⟩:=K2 (JB.keep k5) k5;have Zm:w5.cell? ⟨p,11,none⟩=some a2.sv:=aa HV5.own 11;have CL:=Z (oW a2.sv u.b.list w5 HV5.list (by have:=HIL.2;omega));clear k5 NM c0 c1 c2 c3 c4;go_wp2_with fail;refine CL.mono ?_;rintro e w6 ⟨vl,rfl,Ob,k6⟩;obtain⟨vf,HO6,HS5,DL⟩:=K4 (nD.keep k6) Ob nD.size (DEL.o u.b.list i vl w6 w5.heap.size Ob HIL.1 (by have:=HIL.2;omega));clear k6 Ob CL;go_wp2_with fail;refine DL.mono ?_;rintro e w7 ⟨vl2,rfl,ho7,m7⟩;have yY:Hid (af w4 w7):=Z (vf.trans m7 (λg hl hg=>by have:=(HO6.lt g hg).1;have:=HS5.o;omega));have yz:=Z (JB.keep yY.o);have HPM:Hid (Am w7 p u a2 vl2 (u.b.list.eraseIdx i)):=Z ⟨yz.o,pL ho7,λg hg=>by
         have h1:=(ho7.lt g hg).1;have h2:=HS5.o;refine⟨λhf=>?_,λhf=>?_,λe=>?_⟩
         ·have:=JB.lt (b:=g) (.inr (.inl hf));omega
         ·have:=JB.lt (b:=g) (.inr (.inr (.inl hf)));omega
         ·have:=JB.lt (b:=g) (.inl e);omega⟩
        have PO:=Z (j0 HPM.o HS.good.ready Yg.o WJ.1 WJ.2);clear ho7 m7 DL Zm;go_wp2_with fail;refine PO.mono ?_;rintro e wP ⟨rfl,x,a',hx,jm⟩;obtain⟨HX,HTP⟩:=K2 hx (em.ahead yY.o jm);clear hx jm PO;go_wp2;go_ret;exact⟨0,x,a',by rw[HR.o,HX.o];rfl,rfl,(Zo.trans HTP.o).did⟩
       ·have b8:(c.kind==8)=false:=by simpa using h8
        have Yu:Hid (¬ cG u<c.line.length+2):=Z (by
         have h0:=Sy.o;have h9:=HLN.1;have SW:∀ x:Vs,x.recs=[]->x.half=v.half->¬ cG x<c.line.length+2:=λx e1 e2=>by
          unfold cG;rw[e1,e2];simp[kY];omega
         have Ti:¬ cG v1<c.line.length+2:=by
          by_cases hr:c.line.length+2<=cG v
          ·rw[awd (.inr hr)]at h0;injection h0 with h0;subst h0;omega
          ·rw[awf (λhh=>hh.elim (λhh=>hh.elim h7 h8) hr)]at h0;obtain⟨y,q1,q2,_,q3,_⟩:=gZ HD.good;rw[q1]at h0;injection h0 with h0;subst h0;exact SW _ q3 q2.half
         rcases rr.2.2 with e|e
         ·unfold cG at Ti ⊢;rw[e,rr.1.half];exact Ti
         ·exact SW u e HS.half)
        have HR:Hid (BG v c=.ok (0,{ u with T:=T,recs:=u.recs++[c.line] })):=Z (by rw[HDW.o,awf h7,awf h8,awf Yu.o]);have c1':w4.cell? ⟨p,1,none⟩=some (au a2.pl):=aa JB.own 1;have hrm:(kY u.recs).length+c.line.length+2<=bH a2.dl*64:=by
         have h1:=Yu.o;unfold cG at h1;rw[JB.half];omega
        have LA:=Z (Ea JB.log c.line HLN.2 hrm (by
         have h1:=RA u.recs;have h2:bH a2.dl<=8192:=by
          obtain⟨pd,lv,Fd,hl⟩:=JB.log;have:=hl.many.2;unfold bH;omega
         omega))
        clear h7 h8 HDW HDV hrm;go_wp2_with fail;refine LA.mono ?_;rintro e w5 ⟨rfl,Fl2,hl5,kV⟩;have SA:=ab kV.mod JB.own JB.nl;have f14:=ae SA ⟨p,14,none⟩ rfl;have c14:w5.cell? ⟨p,14,none⟩=some (au a2.pt):=aa SA 14;obtain⟨OU,SM⟩:=Wf JB.o hl5 kV (Nb _ _ _ _) akB.o HWF.o alK.o;obtain⟨HD1,HD2,Ys⟩:=K3 OU SM kV;clear OU SM kV hl5 SA LA c1';go_wp2;go_ret;refine⟨0,_,_,HR.o,rfl,⟨HD1.o,?_,Zo.mod.trans HD2.o (λg hl hs=>(Zo.foot g hs).elim id (λh1=>absurd h1 J)),λe=>Zo.text e⟩⟩;intro g hg;have up:a2.foot p g->a.foot p g\/w.heap.size<=g:=Zo.foot g;rcases hg with hg|hg|hg|hg
        ·exact up (.inl hg)
        ·exact up (.inr (.inl hg))
        ·exact(Ys.foot g hg).elim (λh=>up (.inr (.inr (.inl h)))) (λh=>.inr (av2 Zo.mod.size h))
        ·rcases hg with hg|hg|hg|hg|hg
         ·exact up (.inr (.inr (.inr (.inl hg))))
         ·exact(HRO.o g hg).elim (λh=>.inl (.inr (.inr (.inr (.inr (.inl h)))))) .inr
         ·exact up (.inr (.inr (.inr (.inr (.inr (.inl hg))))))
         ·exact up (.inr (.inr (.inr (.inr (.inr (.inr (.inl hg)))))))
         ·exact up (.inr (.inr (.inr (.inr (.inr (.inr (.inr hg)))))))
theorem jB:aw Tr.new=[⟨1,true,1,[0]⟩]:=by
 have e:lQ []=[0]:=by unfold lQ;rw[aD,dif_pos dc7];rfl
 simp[aw,Tr.new,Nd.told,e]
theorem xO:iw (aw Tr.new):=by
 refine⟨⟨by rw[jB];decide,by rw[jB];decide,λx hx=>?_,λx hx=>?_⟩,Tr.new,_,GM,rfl⟩
 ·rw[jB]at hx;simp at hx;subst hx;decide
 ·rw[jB]at hx;simp at hx;subst hx;decide
theorem Nc {p1 p2:Nat}{d1 d2:Dk}{F1 F2:Nat->Prop}(h1:bE w p1 d1 F1)(h2:bE w p2 d2 F2)(nI:∀ b,F1 b->¬ F2 b)(oc:128<=d1.size)(j5:43<=d2.size):
  Calls prog 49 #[au p1,au p2] w λe w'=>∃ p u a,e=.returned (.tuple #[au p,.int .i64 0])/\lc w' p u a/\bF (dF (il d1) (d1.size/4) 1 (bH d2*64) Tr.new) [] []=.ok u/\a.text=fT u.b/\(∀ g,a.foot p g->F1 g\/F2 g\/w.heap.size<=g)/\ai (λg=>F1 g\/F2 g) w w':=by
 obtain⟨H1,H2,HAP,HS⟩:=K4 h1 h2 nI (And.intro oc j5);have iB:d1.size<=16384:=h1.ok.many;have db:d2.size<=16384:=h2.ok.many;obtain⟨HM,SE,VF⟩:=K3 (And.intro iB db) (jt h2) (DZ h1 J [] dc7);have q1:¬(d2.size:Int)<43:=J
 clear h1 h2 nI oc j5 iB db;go_enter func49,ntmps49;go_wp2_with fail;refine SE.mono ?_;rintro e wz ⟨rfl,hz⟩;rw[hz];clear hz;go_wp2_with fail;refine VF.mono ?_;rintro e w1 ⟨pv,rfl,YK,Fv,OJ,hkv⟩;obtain⟨HVA,HKV,HPV⟩:=K3 OJ hkv YK;have VB:=oy OJ;have cJ:(ku (d1.put 0 (List.replicate 64 0)) [] 1).size=d1.size:=by rw[qB,ft]
 rw[cJ]at VB;obtain⟨VB,W9⟩:=K2 VB cJ;have H2b:Hid (bE w1 p2 d2 F2):=Z (H2.same (hkv.mod.on λb hb h1=>HAP.o b h1 hb) hkv.mod.size);have NF:=Z (D0 H2b.o (by have:=HS.2;omega) 1 dc7);have q2:¬((d1.size/4:Nat):Int)<32:=by have:=HS.1;omega
 clear OJ hkv YK cJ q1 SE VF;go_wp2_with fail;refine VB.mono ?_;rintro e wz ⟨rfl,hz⟩;rw[hz];clear hz;go_wp2_with fail;refine NF.mono ?_;rintro e w3 ⟨pl,rfl,nR,Fl,hla,yA⟩;obtain⟨HLA,Ys,HPL⟩:=K3 hla yA nR;have acb:=HVA.same (yA.mod.on λb hb h2=>(HKV.foot b hb).elim (λh1=>HAP.o b h1 h2) (λh1=>by have:=H2.lt b h2;omega)) yA.mod.size;have alz:=Z acb;have VB3:=oy acb;rw[W9.o]at VB3;have VB3:=Z VB3;clear hla yA nR acb VB NF q2;go_wp2_with fail;refine VB3.mono ?_;rintro e wz ⟨rfl,hz⟩;rw[hz];clear hz;have PN:=Z (Ql w3 (d1.size/4) (by have:=HS.1;have:=HM.1;omega));clear VB3;go_wp2_with fail;refine PN.mono ?_;rintro e w5 ⟨pm,rfl,hpm,KK,k5⟩;obtain⟨HMA,HPM,nD,TN⟩:=K4 KK hpm k5 (VO w5);clear KK hpm k5 PN;go_wp2_with fail;refine TN.mono ?_;rintro e w6 ⟨pt,tb,A,M,role,rfl,ht,hr,k6⟩;obtain⟨HTR,HRO,vf,aeK⟩:=K4 ht hr (nD.keep k6) (HMA.mod k6 id);clear ht hr k6 TN;go_wp2_with fail;obtain⟨v0,Ge⟩:∃ v0,dF (il d1) (d1.size/4) 1 (bH d2*64) Tr.new=v0:=⟨_,rfl⟩
 obtain⟨a0,ha0⟩:∃ a0:eX,(⟨pv,pl,pm,pt,.slice none 0 0,.slice none 0 0,.slice none 0 0,ku (d1.put 0 (List.replicate 64 0)) [] 1,eh d2 1 0,[],role,Fv,Fl⟩:eX)=a0:=⟨_,rfl⟩
 obtain⟨W,hW⟩:∃ W,w6.alloc (.cells #[au pv,au pl,.int .i64 0,.int .i64 0,.int .i64 0,.int .i64 0,.int .i64 0,.int .i64 0,.int .i64 1,.int .i64 1,.slice none 0 0,.slice none 0 0,au pm,.slice none 0 0,.pointer (some ⟨pt,0,none⟩),.bool false] 102)=W:=⟨_,rfl⟩
 obtain⟨vb,hvb⟩:∃ vb,w6.heap.size=vb:=⟨_,rfl⟩
 have kW:af w6 W:=by rw[<-hW];exact(ai.refl _ w6).alloc _
 have bW:World.blk W vb #[au pv,au pl,.int .i64 0,.int .i64 0,.int .i64 0,.int .i64 0,.int .i64 0,.int .i64 0,.int .i64 1,.int .i64 1,.slice none 0 0,.slice none 0 0,au pm,.slice none 0 0,.pointer (some ⟨pt,0,none⟩),.bool false] 102:=by rw[<-hW,<-hvb];exact av _ _ _
 have kW4:af w3 W:=vf.keep kW;have hFv:∀ b,Fv b->F1 b\/w.heap.size<=b:=HKV.foot;have TA:∀ b,Fl b->F2 b\/w1.heap.size<=b:=Ys.foot;have s1:w.heap.size<=w1.heap.size:=HKV.mod.size;have s2:w1.heap.size<=w3.heap.size:=Ys.mod.size;have s3:w3.heap.size<=w5.heap.size:=nD.size;have s4:w3.heap.size<=vb:=by rw[<-hvb];exact vf.size
 have lv:∀ b,Fv b->b<w1.heap.size:=λb hb=>HVA.lt b hb;have ll:∀ b,Fl b->b<w3.heap.size:=λb hb=>HLA.lt b hb;have lr:∀ b,role b≠.none->w5.heap.size<=b/\b<vb:=λb hb=>⟨HRO.o b hb,by rw[<-hvb];exact HTR.lt b hb⟩
 have lm:w3.heap.size<=pm/\pm<vb:=⟨HPM.o,by rw[<-hvb];exact aeK.lt⟩
 have l2:∀ b,F2 b->b<w1.heap.size:=λb hb=>H2b.lt b hb;have hx:lc W vb v0 a0:=by
  rw[<-Ge,<-ha0];refine⟨bW,alz.same (kW4.on λ_ _=>id) kW4.size,?_,?_,HLA.same (kW4.on λ_ _=>id) kW4.size,?_,World.ownsRow_nil _ _ _ _,World.ownsRow_nil _ _ _ _,World.ownsRow_nil _ _ _ _,aeK.mod kW id,⟨tb,A,M,HTR.keep kW⟩,⟨_,GM⟩,?_,?_,?_,?_⟩
  ·show il (ku (d1.put 0 (List.replicate 64 0)) [] 1)=il d1;rw[vC,tX _ _ J]
  ·show(ku (d1.put 0 (List.replicate 64 0)) [] 1).size/4=d1.size/4;rw[W9.o]
  ·show bH (eh d2 1 0)*64=bH d2*64;unfold bH;rw[uu]
  ·intro b hb hl;have:=lv b hb;rcases TA b hl with h2|h2
   ·rcases hFv b hb with h1|h1
    ·exact HAP.o b h1 h2
    ·have:=H2.lt b h2;omega
   ·omega
  ·exact λ(hb:Fv vb)=>by have:=lv vb hb;omega
  ·exact λ(hb:Fl vb)=>by have:=ll vb hb;omega
  ·intro b hb;have key:w3.heap.size<=b/\b<vb:=by
    rcases hb with hb|hb|hb|hb|hb
    ·obtain rfl:b=pm:=hb;exact lm
    ·have:=lr b hb;exact⟨by omega,this.2⟩
    ·cases hb
    ·cases hb
    ·cases hb
   exact⟨λ(hf:Fv b)=>by have:=lv b hf;omega,λ(hf:Fl b)=>by have:=ll b hf;omega,J⟩
 have qp:∀ g,a0.foot vb g->F1 g\/F2 g\/w.heap.size<=g:=by
  intro g hg;rw[<-ha0]at hg;rcases hg with hg|hg|hg|hg
  ·exact .inr (.inr J)
  ·exact(hFv g hg).imp id (λh=>.inr h)
  ·exact(TA g hg).elim (λh=>.inr (.inl h)) (λh=>.inr (.inr J))
  ·rcases hg with hg|hg|hg|hg|hg
   ·have:g=pm:=hg;exact .inr (.inr J)
   ·have:=lr g hg;exact .inr (.inr J)
   ·cases hg
   ·cases hg
   ·cases hg
 have dV:ai (λg=>F1 g\/F2 g) w W:=((HKV.mod.mono λ_ _ h=>.inl h).trans (Ys.mod.mono (T:=λg=>F1 g\/F2 g) λ_ _ h=>.inr h) (λ_ _ h=>h)).trans (kW4.mono (T:=λg=>F1 g\/F2 g) λ_ _ h=>h.elim) (λ_ _ h=>h);have Si:mw v0:=by
  rw[<-Ge];exact xM _ _ _ _ (by have:=HS.1;have:=HM.1;omega) xO (by rw[jB];rfl) (λx hx=>by rw[jB]at hx;simp at hx;subst hx;decide)
 have hpm:Am W vb v0 a0 (.slice none 0 0) []:=⟨hx,World.ownsRow_nil _ _ _ _,λg hg=>by cases hg⟩
 have Jg:v0.b.list=[]:=by rw[<-Ge];rfl
 have PO:=ut hpm Si (more:=[]) ⟨by rw[Jg];exact List.Sublist.refl _,.inl rfl⟩ (by rw[<-Ge];show(1:Nat)<=_;omega) (by rw[<-Ge];show(1:Nat)<_;omega);rw[<-Ge]at PO;obtain⟨PO,HF,HMO⟩:=K3 PO qp dV;have HSW:Hid (w.heap.size<=W.heap.size):=Z dV.size;have AJ:Hid (dF (il d1) (d1.size/4) 1 (bH d2*64) Tr.new=v0):=Z Ge;have T0:Hid (∀ g,Fv g\/Fl g\/g=vb->F1 g\/F2 g\/w.heap.size<=g):=Z (λg hg=>by
  rcases hg with hg|hg|hg
  ·exact(hFv g hg).imp id (λh=>.inr h)
  ·exact(TA g hg).elim (λh=>.inr (.inl h)) (λh=>.inr (.inr J))
  ·exact .inr (.inr J))
 rw[hW,hvb];clear hx qp dV Si hpm Jg lv ll lr lm l2 s1 s2 s3 s4 hFv TA kW4 kW bW hW hvb Ge;go_wp2_with fail;refine PO.mono ?_;rintro e w7 ⟨rfl,u,a',hu,Ky,jm⟩;obtain⟨HTX,HU,yW⟩:=K3 Ky hu jm;clear hu jm Ky PO;go_wp2;go_ret2;refine⟨vb,u,a',rfl,yW.at_,HU.o,HTX.o,λg hg=>(yW.foot g hg).elim (HF.o g) (λh=>.inr (.inr (av2 HSW.o h))),HMO.trans yW.mod (λg hl hs=>(HF.o g hs).elim .inl (λh=>h.elim .inr (λh=>absurd h J)))⟩
theorem xP {v:Vs}{a:eX}(h:lc w p v a)(hl:v.b.list.length<=1000):
  Calls prog 55 #[au p] w λe w'=>∃ x,e=.returned x/\dX uj 5 85 w' w.heap.size x v.b.list/\af w w':=by
 have Zm:w.cell? ⟨p,11,none⟩=some a.sv:=aa h.own 11;have CL:=Z (oW a.sv v.b.list w h.list hl);clear h;go_enter func55,ntmps55;go_wp2_with fail;refine CL.mono ?_;rintro e w1 ⟨x,rfl,ho,k⟩;obtain⟨HO,HK⟩:=K2 ho k;clear ho k CL;go_wp2;go_ret;exact⟨x,rfl,HO.o,HK.o⟩
theorem xQ {v:Vs}{a:eX}(h:lc w p v a):
  Calls prog 45 #[au p] w λe w'=>∃ m,e=.returned (au m)/\w.heap.size<=m/\dp w' m v.blocks v.b.planes/\af w w':=by
 have c12:w.cell? ⟨p,12,none⟩=some (au a.pm):=aa h.own 12;have CL:=Z (wS h.map);clear h;go_enter func45,ntmps45;go_wp2_with fail;refine CL.mono ?_;rintro e w1 ⟨m,rfl,hm,KK,k⟩;have HM:=Z (And.intro hm (And.intro KK k));clear hm KK k CL;go_wp2;go_ret;exact⟨m,rfl,HM.o⟩
theorem Wh {v:Vs}{a:eX}(h:lc w p v a)(hv:gS w' a.pv a.d a.text v.num F)(k:dO a.Fv F w w'):em w p v a v { a with Fv:=F } w':=by
 have Ua:∀ b,a.still b->¬ a.Fv b:=λb hb=>(h.stays b hb).1;have hF:∀ b,F b->a.Fv b\/w.heap.size<=b:=k.foot;have hFn:∀ b,b<w.heap.size->¬ a.Fv b->¬ F b:=λb hb hn hf=>(hF b hf).elim hn (λh1=>J);refine⟨⟨ab k.mod h.own h.nv,hv,h.rd,h.size,h.log.same (k.mod.on λg hg hh=>h.apart g hh hg) k.mod.size,h.half,?_,?_,?_,?_,?_,h.wf,?_,hFn p (ak h.own) h.nv,h.nl,?_⟩,rfl,?_,k.mod.mono (λg _ h=>.inr (.inl h)),λb hb hl=>k.mod.block b hl (Ua b (.inr (.inl hb))),id⟩
 ·exact aA h.inos λg hg=>k.mod.block g (dY h.inos hg) (Ua g (.inr (.inr (.inl hg))))
 ·exact aA h.list λg hg=>k.mod.block g (dY h.list hg) (Ua g (.inr (.inr (.inr (.inl hg)))))
 ·exact aA h.nodes λg hg=>k.mod.block g (dY h.nodes hg) (Ua g (.inr (.inr (.inr (.inr hg)))))
 ·exact h.map.mod k.mod (Ua a.pm (.inl rfl))
 ·obtain⟨tb,A,M,t⟩:=h.tree;exact⟨tb,A,M,t.same (k.mod.on λb hb=>Ua b (.inr (.inl hb))) k.mod.size⟩
 ·exact λb hb hl=>(hF b hb).elim (λh1=>h.apart b h1 hl) (λh1=>by have:=h.log.lt b hl;omega)
 ·intro b hb;have hs:=h.stays b hb;exact⟨hFn b (h.lt (.inr (.inr (.inr hb)))) hs.1,hs.2.1,hs.2.2⟩
 ·intro g hg;rcases hg with hg|hg|hg|hg
  ·exact .inl (.inl hg)
  ·exact(hF g hg).imp (λh=>.inr (.inl h)) id
  ·exact .inl (.inr (.inr (.inl hg)))
  ·exact .inl (.inr (.inr (.inr hg)))
theorem I2 {v:Vs}{a:eX}(h:lc w p v a)(n:Nat)(h1:1<=n)(h2:n<v.blocks)(s:ay)(hs:v.rd n=.ok s):
  Calls prog 22 #[au p,.int .i64 (n:Int)] w λe w'=>e=.returned (.tuple #[az s,.int .i64 0])/\∃ a',em w p v a v a' w'/\a'.text=a.text:=by
 have c0:w.cell? ⟨p,0,none⟩=some (au a.pv):=aa h.own 0;obtain⟨RD,H⟩:=K2 (zC h.vol n h1 (by rw[h.size];exact h2) s (by rw[h.rd];exact hs)) h;clear h hs;go_enter func22,ntmps22;go_wp2_with fail;refine RD.mono ?_;rintro e w1 ⟨rfl,F,hv,hk⟩;have HT:=Z (Wh H.o hv hk);clear hv hk RD;go_wp2;go_ret2;exact⟨rfl,_,HT.o,rfl⟩
end
end Go.Proofs.YtkghpdcloaiflaaGreatDoor
