import Derived.Test.YtkghpdcloaiflaaGreatDoorB37
set_option maxHeartbeats 8000000
set_option maxRecDepth 100000
namespace Go.Proofs.YtkghpdcloaiflaaGreatDoor
open _root_.Go.Proofs.Tryz
section
open Go.RowKit
structure Zf (w:World)(p:Nat)(v:Vs)(a:eY)(u:Vs)(a':eY)(w':World):Prop where
 at_:lz w' p u a'
 foot:∀ g,a'.foot p g->a.foot p g\/w.heap.size<=g
 mod:ah (a.foot p) w w'
 text:a.text=fX v.b->a'.text=fX u.b
theorem eA.did {w w':World}{p:Nat}{v u:Vs}{a a':eY}(h:eA w p v a u a' w'):Zf w p v a u a' w':=⟨h.at_,h.foot,h.mod,h.text⟩
theorem Re (recs:List ay):2*recs.length<=(ly recs).length:=by
 unfold ly
 induction recs with
 |nil=>simp
 |cons r l ih=>simp only[avH,avi,au0]at ih ⊢;simp only[awa];omega
theorem uo (d:Dk)(gen used:Nat):(em d gen used).size=d.size:=by unfold em;rw[dC,fA]
theorem MS (d:Dk)(gen:Nat)(old qa:ay):bG (LP d gen old qa)=bG d:=by
 have key:∀(x:Dk) (g u:Nat),x.size=d.size->bG (em x.sync g u)=bG d:=fun x g u e=>by
  unfold bG;rw[uo,dC,e]
 exact key _ _ _ (kw _ _ _ _)
theorem Vj {w w1:World}{p:Nat}{v:Vs}{a:eY}(h:lz w p v a){dl:Dk}{recs:List ay}{F:Nat->Prop}(hl:kZ w1 a.pl dl v.num recs F)(kl:dX a.Fl F w w1)(hh:bG dl=bG a.dl)
  {q tb:Nat} {A M:Int->Nat} {role:Nat->cW} {T:Tr} {d:Int->Nat} (ht:aH w q T tb A M role) (hw:WF T d) (nP:∀ b,role b≠.none->a.role b≠.none\/¬ a.foot p b):
  lz (w1.setCell ⟨p,14,none⟩ (aq q)) p { v with T:=T,recs:=recs } { a with pt:=q,dl:=dl,role:=role,Fl:=F }/\ah (a.foot p) w (w1.setCell ⟨p,14,none⟩ (aq q)):=by
 have hp:=ak h.own;have m0:ah (fun g=>a.Fl g\/g=p) w w1:=kl.mod.mono fun _ _ h=>.inl h;have m:ah (fun g=>a.Fl g\/g=p) w (w1.setCell ⟨p,14,none⟩ (aq q)):=m0.setCell (p:=⟨p,14,none⟩) (.inl (.inr rfl)) _;have hb1:=ab kl.mod h.own h.nl;have Cn:p<w1.heap.size:=ak hb1;have m1:ah (fun g=>g=p) w1 (w1.setCell ⟨p,14,none⟩ (aq q)):=(ah.refl (fun g=>g=p) w1).setCell (p:=⟨p,14,none⟩) (.inl rfl) _;have hFp:¬ F p:=fun hf=>(kl.foot p hf).elim h.nl (fun h1=>by omega);have Tj:∀ b,a.still b->¬(fun g=>a.Fl g\/g=p) b:=fun b hb hh=>by
  have hs:=h.stays b hb;exact hh.elim hs.2.1 hs.2.2
 have rs:∀ b,role b≠.none->¬ a.Fv b/\¬ a.Fl b/\b≠p:=fun b hb=>(nP b hb).elim (fun h1=>h.stays b (.inr (.inl h1))) (fun h1=>⟨fun h2=>h1 (.inr (.inl h2)),fun h2=>h1 (.inr (.inr (.inl h2))),fun h2=>h1 (.inl h2)⟩);have hFn:∀ b,b<w.heap.size->¬ a.Fl b->¬ F b:=fun b hb hn hf=>(kl.foot b hf).elim hn (fun h1=>by omega);refine⟨⟨ag hb1 14 (aq q),h.vol.same (m.on fun g hg hh=>hh.elim (h.apart g hg) (fun e=>h.nv (e▸hg))) m.size,h.rd,h.size,hl.same (m1.on fun g hg e=>hFp (e▸hg)) m1.size,?_,?_,?_,?_,?_,?_,⟨d,hw⟩,?_,h.nv,hFp,?_⟩,m.mono fun g _ hh=>hh.elim (fun h=>.inr (.inr (.inl h))) .inl⟩
 ·show bG dl*64=v.half;rw[hh];exact h.half
 ·exact az h.inos fun g hg=>m.block g (ee h.inos hg) (Tj g (.inr (.inr (.inl hg))))
 ·exact az h.list fun g hg=>m.block g (ee h.list hg) (Tj g (.inr (.inr (.inr (.inl hg)))))
 ·exact az h.nodes fun g hg=>m.block g (ee h.nodes hg) (Tj g (.inr (.inr (.inr (.inr hg)))))
 ·exact h.map.mod m (Tj a.pm (.inl rfl))
 ·exact⟨tb,A,M,ht.same (m.on fun b hb hh=>hh.elim (rs b hb).2.1 (rs b hb).2.2) m.size⟩
 ·exact fun b hb hf=>(kl.foot b hf).elim (h.apart b hb) (fun h1=>by have:=h.vol.lt b hb;omega)
 ·intro b hb;have key:b<w.heap.size/\¬ a.Fv b/\¬ a.Fl b/\b≠p:=by
   rcases hb with hb|hb|hb|hb|hb
   ·exact⟨by rw[show b=a.pm from hb];exact h.map.lt,h.stays b (.inl hb)⟩
   ·exact⟨ht.lt b hb,rs b hb⟩
   ·exact⟨ee h.inos hb,h.stays b (.inr (.inr (.inl hb)))⟩
   ·exact⟨ee h.list hb,h.stays b (.inr (.inr (.inr (.inl hb))))⟩
   ·exact⟨ee h.nodes hb,h.stays b (.inr (.inr (.inr (.inr hb))))⟩
  exact⟨key.2.1,hFn b key.1 key.2.2.1,key.2.2.2⟩
theorem EJ {v:Vs}{c:co}{x:Int}(h:lp v c=.error x):x≠0/\Bz v c=.ok (x,v):=by
 unfold lp at h;by_cases bQ:c.ok=false
 ·rw[au8 bQ]at h;injection h with h;subst h;exact⟨by decide,by unfold Bz;rw[au8 bQ]⟩
 ·rw[ava bQ]at h;refine⟨?_,by unfold Bz;rw[ava bQ,h]⟩;unfold oy at h;split at h
  ·injection h with h;omega
  ·split at h
   ·injection h with h;omega
   ·split at h
    ·injection h with h;omega
    ·split at h
     ·cases h
     ·split at h
      ·cases h
      ·injection h with h;subst h;assumption
theorem Kc {v:Vs}{c:co}{T:Tr}(h:lp v c=.ok T):c.ok=true/\oy v c=.ok T/\(T=v.T\/T=(qK v.T c).1):=by
 unfold lp at h;by_cases bQ:c.ok=false
 ·rw[au8 bQ]at h;cases h
 ·rw[ava bQ]at h;refine⟨by simpa using bQ,h,?_⟩;unfold oy at h;split at h
  ·cases h
  ·split at h
   ·cases h
   ·split at h
    ·cases h
    ·split at h
     ·injection h with h;exact .inl h.symm
     ·split at h
      ·injection h with h;exact .inr h.symm
      ·cases h
theorem EK {v:Vs}{c:co}{T:Tr}(h:oy v c=.ok T)(h7:c.kind=7):dy v c.path=none/\v.b.list.length<7/\v.b.id<1099511627777:=by
 unfold oy at h;split at h
 ·cases h
 ·rename_i h1
  split at h
  ·cases h
  ·rename_i h2
   refine⟨?_,?_,?_⟩
   ·cases hn:dy v c.path with
    |none=>rfl
    |some i=>exact absurd ⟨h7,by rw[hn];rfl⟩ h1
   ·apply avV;intro hc;exact h2 ⟨h7,.inl (by omega)⟩
   ·apply avV;intro hc;exact h2 ⟨h7,.inr (by omega)⟩
theorem IK {v:Vs}{c:co}{T:Tr}(h:oy v c=.ok T)(h8:c.kind=8):∃ i,dy v c.path=some i:=by
 cases hn:dy v c.path with
 |some i=>exact⟨i,rfl⟩
 |none=>
  unfold oy at h;rw[ava (fun hh=>by have:=hh.1;omega),ava (fun hh=>by have:=hh.1;omega),au8 ⟨h8,by rw[hn];rfl⟩]at h
  cases h
theorem EL {v u:Vs}(h:mL v){T:Tr}{kind:Int}{b:Bool}(e:oY v T kind=.ok (b,u)):iO v u/\u.num<=v.num+1/\(u.recs=v.recs\/u.recs=[]):=by
 unfold oY at e;split at e
 ·injection e with e;injection e with _ e;subst e;exact⟨iO.refl h,by omega,.inl rfl⟩
 ·split at e
  ·simp only[Except.map]at e;injection e with e;injection e with _ e;subst e;exact⟨iO.refl h,by omega,.inl rfl⟩
  ·obtain⟨x,hx,hs,_,hr,hn⟩:=ic h;rw[hx]at e;simp only[Except.map]at e;injection e with e;injection e with _ e;subst e;exact⟨hs,by omega,.inr hr⟩
theorem Kd {v v1 u:Vs}{c:co}{T:Tr}{b:Bool}(bQ:c.ok=true)(hm:oy v c=.ok T)
  (e1:(if(c.kind=7\/c.kind=8)\/c.line.length+2<=cH v then(.ok v:Except Int Vs)else bD v v.b.list [])=.ok v1) (e2:oY v1 T c.kind=.ok (b,u)):
  Bz v c=if b=false then .ok (151,u)else
   if c.kind=7 then(bD u u.b.list c.path).map fun u=>(0,u)
   else if c.kind=8 then(bD u (u.b.list.eraseIdx ((dy u c.path).getD 0)) []).map fun u=>(0,u)
   else if cH u<c.line.length+2 then .ok (72,u)
   else .ok (0,{ u with T:=T,recs:=u.recs++[c.line] }):=by
 unfold Bz;rw[ava (by rw[bQ];decide),hm];simp only;rw[e1];simp only;rw[e2]
 cases b<;>rfl
theorem EM {w w':World}{p:Nat}{v u:Vs}{a a':eY}(k:eA w p v a u a' w'){q tb:Nat}{A M:Int->Nat}{role:Nat->cW}{T:Tr}(ht:aH w q T tb A M role)(nP:∀ b,role b≠.none->a.role b≠.none\/¬ a.foot p b):
  ∀ b,role b≠.none->a'.role b≠.none\/¬ a'.foot p b:=fun b hb=>(nP b hb).imp (fun h1=>by rw[k.role];exact h1) (fun h1 hf=>(k.foot b hf).elim h1 (fun h2=>by have:=ht.lt b hb;omega))
end
section
open Go.RowKit
attribute [local go_sem] auV
def Xd:Prop:=∀(l:List Sn) (i:Nat) (v:Value) (w:World) (base:Nat),ec ue 5 85 w base v l->i<l.length->l.length<=1000->
 Calls prog 67 #[v,.int .i64 (i:Int),.int .i64 ((i:Int)+1)] w fun e w'=>∃ v',e=.returned v'/\ec ue 5 85 w' base v' (l.eraseIdx i)/\ah (fun g=>v.ownBlock=some g) w w'
structure acH (v:Vs)(c:co):Prop where
 good:mL v
 id:v.b.id<=1099511627777
 num:v.num+3<=1099511627776
 small:c.Small
 line:c.ok=true->c.line.length+2<=v.half/\c.line.length<=1300
 nodes:iE (ar (qK v.T c).1)
 name:c.ok=true->c.kind=7->aK c.path=true/\c.path.length<=16/\c.path≠[]
theorem Vk {w:World}{p:Nat}{v:Vs}{a:eY}(h:lz w p v a)(he:tU w){c:co}(hd:acH v c)(SP:c.kind=8->Xd):
  Calls prog 25 #[aq p,gK c] w fun e w'=>∃ r u a',Bz v c=.ok (r,u)/\e=.returned (.int .i64 r)/\Zf w p v a u a' w':=by
 have dt:af w (w.alloc (.cells (bP c) 55)):=(ah.refl _ w).alloc _;have iI:World.blk (w.alloc (.cells (bP c) 55)) w.heap.size (bP c) 55:=av _ _ _;have H:=hd0 h;have HE:=hd0 he;have HD:=hd0 hd;have ajp:=hd0 SP;have dT:=hd0 dt;have nT:=hd0 iI;have MY:=hd0 (MN (h.keep dt) (he.keep dt) c hd.small hd.good.list.many hd.id);obtain⟨cb,KO⟩:∃ cb,w.heap.size=cb:=⟨_,rfl⟩
 have Hcb:=hd0 KO;have sx:Hid (∀ g,a.foot p g->g<cb):=hd0 (fun g hg=>by rw[<-KO];exact h.lt hg);clear h he hd SP dt iI;go_enter func25,ntmps25;unfold gK bP;go_wp2_with fail;refine MY.out.mono ?_;rintro e w1 ⟨k1,hm⟩;have bZ:=hd0 (dT.out.keep k1);have jk:=hd0 (ab k1 nT.out id);rw[KO]at jk;clear k1 MY nT
 try rw[KO]
 clear KO
 cases hX:lp v c with
 |error x=>
  rw[hX]at hm;simp only at hm;subst hm;obtain⟨rq,vg⟩:=EJ hX;have HDO:=hd0 vg;have hx:(x==0)=false:=by simpa using rq
  clear hX vg rq;go_wp2;go_ret;exact⟨x,v,a,HDO.out,rfl,((eA.refl H.out).keep bZ.out).did⟩
 |ok T=>
  rw[hX]at hm;simp only at hm;obtain⟨q,tb,A,M,role,d,rfl,ht,hw,YJ⟩:=hm;obtain⟨bQ,Jb,hT⟩:=Kc hX;have Cw:=hd0 bQ;have Z9:=hd0 Jb;have HTR:=hd0 ht;have HWF:=hd0 hw;have HNT:Hid (iE (ar T)):=hd0 (by
   rcases hT with rfl|rfl
   ·exact HD.out.good.told
   ·exact HD.out.nodes)
  have HAP:Hid (∀ b,role b≠.none->a.role b≠.none\/¬ a.foot p b):=hd0 (fun b hb=>by
   rcases YJ with⟨_,e⟩|h1
   ·exact .inl (by rw[<-e];exact hb)
   ·exact .inr (fun hf=>by have:=sx.out b hf;have:=h1 b hb;have:=dT.out.size;have:=Hcb.out;omega))
  have HRO:Hid (∀ b,role b≠.none->a.role b≠.none\/w.heap.size<=b):=hd0 (fun b hb=>by
   rcases YJ with⟨_,e⟩|h1
   ·exact .inl (by rw[<-e];exact hb)
   ·exact .inr (auX dT.out.size (h1 b hb)))
  have PR:=tf c w1 (HE.out.keep bZ.out) HD.out.small;unfold ld at PR;rw[au8 bQ]at PR;have PR:=hd0 PR;clear hX ht hw YJ bQ Jb hT HE;obtain⟨c0,c1,c2,c3,c4⟩:=cA jk.out;go_wp2_with fail;unfold gK bP at PR;refine PR.out.mono ?_;rintro e w2 ⟨rfl,k2⟩;have bw:=hd0 (bZ.out.keep k2);have lW:=hd0 (ab k2 jk.out id);have aei:=hd0 (HTR.out.keep k2);clear k2 PR c0 c1 c2 c3 c4 jk HTR bZ;obtain⟨c0,c1,c2,c3,c4⟩:=cA lW.out;obtain⟨sb,hsb⟩:∃ sb:Bool,decide (c.kind=7\/c.kind=8)=sb:=⟨_,rfl⟩
  have Hsb:=hd0 hsb;clear hsb
  go_upto_region 5 with fail
  go_cut [9]from 15 to 121 (fun x wx=>x=.bool sb/\wx=w2)
  case first=>
   by_cases h7:c.kind=7
   ·have e:sb=true:=by rw[<-Hsb.out,decide_eq_true (Or.inl h7)]
    rw[h7]at c0;clear h7;go_wp2_with fail;go_meet
    case rel=>exact⟨by rw[e],rfl⟩
   ·have b7:(c.kind==7)=false:=by simpa using h7
    by_cases h8:c.kind=8
    ·have e:sb=true:=by rw[<-Hsb.out,decide_eq_true (Or.inr h8)]
     rw[h8]at c0;clear h7 h8 b7;go_wp2_with fail;go_meet
     case rel=>exact⟨by rw[e],rfl⟩
    ·have b8:(c.kind==8)=false:=by simpa using h8
     have e:sb=false:=by rw[<-Hsb.out,au9 (fun h=>h.elim h7 h8)]
     clear h7 h8;go_wp2_with fail;go_meet
     case rel=>exact⟨by rw[e];try simp[b7,b8],rfl⟩
  case rest=>
   obtain⟨rfl,hwc⟩:=hcut;rw[hwc];clear hwc;have KC:=hd0 (H.out.keep bw.out);obtain⟨rb,RV⟩:∃ rb:Bool,(!sb&&decide (cH v<c.line.length+2))=rb:=⟨_,rfl⟩
   have KB:=hd0 RV;have HLN:Hid (c.line.length+2<=v.half/\c.line.length<=1300):=hd0 (HD.out.line Cw.out);clear RV
   go_upto_region 6 with fail
   go_cut [48]from 15 to 121 (fun x wx=>x=.bool rb/\af w2 wx)
   case first=>
    cases sb with
    |true=>
     have e:rb=false:=by rw[<-KB.out];rfl
     go_wp2_with fail;go_meet
     case rel=>exact⟨by rw[e],ah.refl _ _⟩
    |false=>
     have c1':w2.cell? ⟨p,1,none⟩=some (aq a.pl):=aa KC.out.own 1;have RM:=zV KC.out.log;have hrt:bG a.dl*64-(ly v.recs).length=cH v:=by unfold cH;rw[<-KC.out.half]
     rw[hrt]at RM;have RM:=hd0 RM;have FF:(c.line.length:Int)<=1300:=by have:=HLN.out.2;omega
     have e:rb=decide (cH v<c.line.length+2):=by rw[<-KB.out];simp
     have e2:decide (((cH v:Nat):Int)<(c.line.length:Int)+2)=decide (cH v<c.line.length+2):=by rw[avI];simp only[avo];omega
     rw[<-e2]at e;have HEe:=hd0 e;clear hrt e e2;go_wp2_with fail;refine RM.out.mono ?_;rintro e w3 ⟨rfl,k3⟩;have dR:=hd0 k3;clear k3;go_wp2_with fail;go_meet
     case rel=>exact⟨by rw[HEe.out],dR.out⟩
   case rest=>
    obtain⟨rfl,hkc⟩:=hcut;have Jn:=hd0 hkc;clear hkc c0 c1 c2 c3 c4
    go_upto_if 48 with fail
    go_cut []from 15 to 121 (fun wx=>∃ v1 a1,(if(c.kind=7\/c.kind=8)\/c.line.length+2<=cH v then(.ok v:Except Int Vs)else bD v v.b.list [])=.ok v1/\iO v v1/\(v1.num<=v.num+1/\(v1.recs=v.recs\/v1.recs=[]))/\eA w2 p v a v1 a1 wx)
    case first=>
     cases rb with
     |false=>
      have Tc:Hid ((if(c.kind=7\/c.kind=8)\/c.line.length+2<=cH v then(.ok v:Except Int Vs)else bD v v.b.list [])=.ok v):=hd0 (au8 (by
       have h1:=KB.out;have h2:=Hsb.out
       cases sb with
       |true=>exact .inl (of_decide_eq_true h2)
       |false=>
        have h3:decide (cH v<c.line.length+2)=false:=by simpa using h1
        have:=of_decide_eq_false h3;exact .inr (by omega)))
      go_wp2_with fail;go_meet
      case rel=>exact⟨v,a,Tc.out,iO.refl HD.out.good,⟨by omega,.inl rfl⟩,(eA.refl KC.out).keep Jn.out⟩
     |true=>
      have Tc:Hid ((if(c.kind=7\/c.kind=8)\/c.line.length+2<=cH v then(.ok v:Except Int Vs)else bD v v.b.list [])=bD v v.b.list []):=hd0 (ava (by
       have h1:=KB.out;have h2:=Hsb.out
       cases sb with
       |true=>cases h1
       |false=>
        have h3:decide (cH v<c.line.length+2)=true:=by simpa using h1
        have:=of_decide_eq_true h3;exact fun hh=>hh.elim (of_decide_eq_false h2) (fun hh=>by omega)))
      have HVC:=hd0 (KC.out.keep Jn.out);have Yj:wc.cell? ⟨p,11,none⟩=some a.sv:=aa HVC.out.own 11;have PO:=hd0 (ke (tx HVC.out) HD.out.good.ready (nM v) HD.out.id (by have:=HD.out.num;omega));go_wp2_with fail;refine PO.out.mono ?_;rintro e wP ⟨rfl,u,a',hu,jq⟩;have HS:Hid (iO v u/\u.num<=v.num+1/\(u.recs=v.recs\/u.recs=[])):=hd0 (by
       obtain⟨u',h1,h2,_,h4,h5⟩:=ic HD.out.good;rw[h1]at hu;injection hu with hu;subst hu;exact⟨h2,by omega,.inr h4⟩)
      have HPT:=hd0 hu;have yT:=hd0 (eA.ahead Jn.out jq);clear hu jq PO Yj;go_wp2_with fail;go_meet
      case rel=>exact⟨u,a',Tc.out.trans HPT.out,HS.out.1,HS.out.2,yT.out⟩
    case rest=>
     obtain⟨v1,a1,he1,dr,dA,jq⟩:=hcut;have Tc:=hd0 he1;have uG:=hd0 dr;have HNU:=hd0 dA;have yT:=hd0 jq;have oq:=hd0 (ab jq.mod lW.out (fun hf=>by have:=sx.out cb hf;omega));have WG:=hd0 (jq.tree aei.out HAP.out);have Wu:=hd0 (EM jq aei.out HAP.out);have FI:=hd0 (MR jq.at_ dr.good (by rw[dr.id];exact HD.out.id) (by have:=HD.out.num;omega) WG.out HWF.out HNT.out.tokc Wu.out c.kind);have Jq:=hd0 (ak lW.out);clear he1 dr dA jq lW Jn KB KC;obtain⟨c0,c1,c2,c3,c4⟩:=cA oq.out;go_wp2_with fail;refine FI.out.mono ?_;rintro e w4 ⟨b,u,a2,hf,rfl,NI⟩;have RL:=EL uG.out.good hf;have HF:=hd0 hf;have HFN:=hd0 RL;have ajh:=hd0 NI;have HDV:=hd0 (Kd Cw.out Z9.out Tc.out hf);have FH:=hd0 (ab NI.mod oq.out (fun hf=>(yT.out.foot cb hf).elim (fun h1=>by have:=sx.out cb h1;omega) (fun h1=>by have:=Jq.out;omega)));have ah1:=hd0 (NI.tree WG.out Wu.out);have ajc:=hd0 (EM NI WG.out Wu.out);have XI:Hid (eA w p v a u a2 w4):=hd0 (eA.ahead bw.out (yT.out.trans NI));clear hf RL NI FI c0 c1 c2 c3 c4 oq WG Wu;obtain⟨c0,c1,c2,c3,c4⟩:=cA FH.out
     cases b with
     |false=>
      have HDO:Hid (Bz v c=.ok (151,u)):=hd0 (by rw[HDV.out,au8 rfl]);go_wp2;go_ret;exact⟨151,u,a2,HDO.out,rfl,XI.out.did⟩
     |true=>
      have HDW:Hid (Bz v c=if c.kind=7 then(bD u u.b.list c.path).map fun u=>(0,u)
       else if c.kind=8 then(bD u (u.b.list.eraseIdx ((dy u c.path).getD 0)) []).map fun u=>(0,u)
       else if cH u<c.line.length+2 then .ok (72,u)
       else .ok (0,{ u with T:=T,recs:=u.recs++[c.line] })):=hd0 (by rw[HDV.out,ava (by decide)])
      have HS:=hd0 (uG.out.trans HFN.out.1);have Vz:Hid (u.b.id<=1099511627777/\u.num<1099511627776):=hd0 ⟨by rw[HS.out.id];exact HD.out.id,by have:=HD.out.num;have:=HFN.out.2.1;have:=HNU.out.1;omega⟩;have Jw:=hd0 ajh.out.at_;by_cases h7:c.kind=7
      ·have HR:Hid (Bz v c=(bD u u.b.list c.path).map fun u=>(0,u)):=hd0 (by rw[HDW.out,au8 h7]);have Xj:Hid (fI u u.b.list c.path):=hd0 (by
        obtain⟨h1,h2,h3⟩:=EK Z9.out h7;obtain⟨h4,h5,_⟩:=HD.out.name Cw.out h7;exact⟨List.Sublist.refl _,.inr ⟨h4,h5,fun x hx=>by rw[HS.out.list]at hx;exact xJ h1 x hx,by rw[HS.out.list];exact h2,by rw[HS.out.id];omega⟩⟩)
       rw[h7]at c0;have Yj:w4.cell? ⟨p,11,none⟩=some a2.sv:=aa Jw.out.own 11;have PO:Hid (∀ W,af w4 W->Calls prog 64 #[aq p,a2.sv,ax c.path] W fun e w'=>e=.returned (.int .i64 0)/\∃ x a',bD u u.b.list c.path=.ok x/\eA W p u a2 x a' w'):=hd0 (fun W k=>ke (tx (Jw.out.keep k)) HS.out.good.ready Xj.out Vz.out.1 Vz.out.2);clear h7 HDW HDV
       go_upto_region 15 with fail
       go_region_with (go_at_call 64;refine avd (PO.out _ ((ah.refl _ w4).drew)) ?_;rintro e wP ⟨rfl,x,a',hx,jq⟩;have HX:=hd0 hx;have HTP:=hd0 (eA.ahead ((ah.refl (fun _=>False) w4).drew) jq);clear hx jq)
       all_goals (go_wp2;go_ret;exact⟨0,x,a',by rw[HR.out,HX.out];rfl,rfl,(XI.out.trans HTP.out).did⟩)
      ·have b7:(c.kind==7)=false:=by simpa using h7
       by_cases h8:c.kind=8
       ·obtain⟨i,hi⟩:=IK Z9.out h8;rw[<-Rc HS.out.list]at hi;have VG:i<u.b.list.length:=by
         obtain⟨x,hx,_⟩:=II hi;exact(avf.1 hx).1
        have HR:Hid (Bz v c=(bD u (u.b.list.eraseIdx i) []).map fun u=>(0,u)):=hd0 (by rw[HDW.out,ava h7,au8 h8,hi];rfl);have Xj:Hid (fI u (u.b.list.eraseIdx i) []):=hd0 ⟨List.eraseIdx_sublist _ _,.inl rfl⟩;have DEL:=hd0 (ajp.out h8);have yo:u.b.list.length<=7:=HS.out.good.list.many;have hii:(i:Int)<=7:=by omega
        have NM:=xH Jw.out (by omega) c.path;rw[hi]at NM;have NM:=hd0 NM;have HIL:=hd0 (And.intro VG yo);rw[h8]at c0;clear h7 h8 HDW HDV hi VG yo b7;unfold xA at NM;simp only at NM;go_wp2_with fail;refine NM.out.mono ?_;rintro e w5 ⟨rfl,k5⟩;have HV5:=hd0 (Jw.out.keep k5);have mT:=hd0 k5;have Yj:w5.cell? ⟨p,11,none⟩=some a2.sv:=aa HV5.out.own 11;have CL:=hd0 (pk a2.sv u.b.list w5 HV5.out.list (by have:=HIL.out.2;omega));clear k5 NM c0 c1 c2 c3 c4;go_wp2_with fail;refine CL.out.mono ?_;rintro e w6 ⟨vl,rfl,Oe,k6⟩;have u9:=hd0 (mT.out.keep k6);have HO6:=hd0 Oe;have HS5:=hd0 mT.out.size;have DL:=hd0 (DEL.out u.b.list i vl w6 w5.heap.size Oe HIL.out.1 (by have:=HIL.out.2;omega));clear k6 Oe CL;go_wp2_with fail;refine DL.out.mono ?_;rintro e w7 ⟨vl2,rfl,ho7,m7⟩;have zi:Hid (af w4 w7):=hd0 (u9.out.trans m7 (fun g hl hg=>by have:=(HO6.out.lt g hg).1;have:=HS5.out;omega));have yj:=hd0 (Jw.out.keep zi.out);have HPM:Hid (Ao w7 p u a2 vl2 (u.b.list.eraseIdx i)):=hd0 ⟨yj.out,pW ho7,fun g hg=>by
         have h1:=(ho7.lt g hg).1;have h2:=HS5.out;refine⟨fun hf=>?_,fun hf=>?_,fun e=>?_⟩
         ·have:=Jw.out.lt (b:=g) (.inr (.inl hf));omega
         ·have:=Jw.out.lt (b:=g) (.inr (.inr (.inl hf)));omega
         ·have:=Jw.out.lt (b:=g) (.inl e);omega⟩
        have PO:=hd0 (ke HPM.out HS.out.good.ready Xj.out Vz.out.1 Vz.out.2);clear ho7 m7 DL Yj;go_wp2_with fail;refine PO.out.mono ?_;rintro e wP ⟨rfl,x,a',hx,jq⟩;have HX:=hd0 hx;have HTP:=hd0 (eA.ahead zi.out jq);clear hx jq PO;go_wp2;go_ret;exact⟨0,x,a',by rw[HR.out,HX.out];rfl,rfl,(XI.out.trans HTP.out).did⟩
       ·have b8:(c.kind==8)=false:=by simpa using h8
        have Xi:Hid (¬ cH u<c.line.length+2):=hd0 (by
         have h0:=Tc.out;have h9:=HLN.out.1;have Tv:∀ x:Vs,x.recs=[]->x.half=v.half->¬ cH x<c.line.length+2:=fun x e1 e2=>by
          unfold cH;rw[e1,e2];simp[ly];omega
         have Sp:¬ cH v1<c.line.length+2:=by
          by_cases hr:c.line.length+2<=cH v
          ·rw[au8 (.inr hr)]at h0;injection h0 with h0;subst h0;omega
          ·rw[ava (fun hh=>hh.elim (fun hh=>hh.elim h7 h8) hr)]at h0;obtain⟨y,q1,q2,_,q3,_⟩:=ic HD.out.good;rw[q1]at h0;injection h0 with h0;subst h0;exact Tv _ q3 q2.half
         rcases HFN.out.2.2 with e|e
         ·unfold cH at Sp ⊢;rw[e,HFN.out.1.half];exact Sp
         ·exact Tv u e HS.out.half)
        have HR:Hid (Bz v c=.ok (0,{ u with T:=T,recs:=u.recs++[c.line] })):=hd0 (by rw[HDW.out,ava h7,ava h8,ava Xi.out]);have c1':w4.cell? ⟨p,1,none⟩=some (aq a2.pl):=aa Jw.out.own 1;have hrm:(ly u.recs).length+c.line.length+2<=bG a2.dl*64:=by
         have h1:=Xi.out;unfold cH at h1;rw[Jw.out.half];omega
        have LA:=hd0 (DK Jw.out.log c.line HLN.out.2 hrm (by
         have h1:=Re u.recs;have h2:bG a2.dl<=8192:=by
          obtain⟨pd,lv,Fd,hl⟩:=Jw.out.log;have:=hl.many.2;unfold bG;omega
         omega))
        clear h7 h8 HDW HDV hrm;go_wp2_with fail;refine LA.out.mono ?_;rintro e w5 ⟨rfl,Fl2,hl5,mj⟩;have Xq:=ab mj.mod Jw.out.own Jw.out.nl;have f14:=ae Xq ⟨p,14,none⟩ rfl;have c14:w5.cell? ⟨p,14,none⟩=some (aq a2.pt):=aa Xq 14;obtain⟨Js,Kv⟩:=Vj Jw.out hl5 mj (MS _ _ _ _) ah1.out HWF.out ajc.out;have HD1:=hd0 Js;have HD2:=hd0 Kv;have YI:=hd0 mj;clear Js Kv mj hl5 Xq LA c1';go_wp2;go_ret;refine⟨0,_,_,HR.out,rfl,⟨HD1.out,?_,XI.out.mod.trans HD2.out (fun g hl hs=>(XI.out.foot g hs).elim id (fun h1=>absurd h1 (by omega))),fun e=>XI.out.text e⟩⟩;intro g hg;have up:a2.foot p g->a.foot p g\/w.heap.size<=g:=XI.out.foot g;rcases hg with hg|hg|hg|hg
        ·exact up (.inl hg)
        ·exact up (.inr (.inl hg))
        ·exact(YI.out.foot g hg).elim (fun h=>up (.inr (.inr (.inl h)))) (fun h=>.inr (auX XI.out.mod.size h))
        ·rcases hg with hg|hg|hg|hg|hg
         ·exact up (.inr (.inr (.inr (.inl hg))))
         ·exact(HRO.out g hg).elim (fun h=>.inl (.inr (.inr (.inr (.inr (.inl h)))))) .inr
         ·exact up (.inr (.inr (.inr (.inr (.inr (.inl hg))))))
         ·exact up (.inr (.inr (.inr (.inr (.inr (.inr (.inl hg)))))))
         ·exact up (.inr (.inr (.inr (.inr (.inr (.inr (.inr hg)))))))
end
section
open Go.RowKit
attribute [local go_sem] auV
theorem jE:ar Tr.new=[⟨1,true,1,[0]⟩]:=by
 have e:l8 []=[0]:=by unfold l8;rw[aG,dif_pos (by decide)];rfl
 simp[ar,Tr.new,Nd.told,e]
theorem xN:iE (ar Tr.new):=by
 refine⟨⟨by rw[jE];decide,by rw[jE];decide,fun x hx=>?_,fun x hx=>?_⟩,Tr.new,_,GA,rfl⟩
 ·rw[jE]at hx;simp at hx;subst hx;decide
 ·rw[jE]at hx;simp at hx;subst hx;decide
theorem MT {w:World}{p1 p2:Nat}{d1 d2:Dk}{F1 F2:Nat->Prop}(h1:bC w p1 d1 F1)(h2:bC w p2 d2 F2)(nP:∀ b,F1 b->¬ F2 b)(sM:128<=d1.size)(jH:43<=d2.size):
  Calls prog 49 #[aq p1,aq p2] w fun e w'=>∃ p u a,e=.returned (.tuple #[aq p,.int .i64 0])/\lz w' p u a/\bD (dL (iq d1) (d1.size/4) 1 (bG d2*64) Tr.new) [] []=.ok u/\a.text=fX u.b/\(∀ g,a.foot p g->F1 g\/F2 g\/w.heap.size<=g)/\ah (fun g=>F1 g\/F2 g) w w':=by
 have H1:=hd0 h1;have H2:=hd0 h2;have HAP:=hd0 nP;have HS:=hd0 (And.intro sM jH);have ik:d1.size<=16384:=h1.ok.many;have df:d2.size<=16384:=h2.ok.many;have HM:=hd0 (And.intro ik df);have SE:=hd0 (jx h2);have VF:=hd0 (DE h1 (by omega) [] (by decide));have q1:¬(d2.size:Int)<43:=by omega
 clear h1 h2 nP sM jH ik df;go_enter func49,ntmps49;go_wp2_with fail;refine SE.out.mono ?_;rintro e wz ⟨rfl,hz⟩;rw[hz];clear hz;go_wp2_with fail;refine VF.out.mono ?_;rintro e w1 ⟨pv,rfl,Xo,Fv,OD,hkv⟩;have HVA:=hd0 OD;have HKV:=hd0 hkv;have HPV:=hd0 Xo;have VB:=oL OD;have cV:(kH (d1.put 0 (List.replicate 64 0)) [] 1).size=d1.size:=by rw[qE,fA]
 rw[cV]at VB;have VB:=hd0 VB;have WC:=hd0 cV;have H2b:Hid (bC w1 p2 d2 F2):=hd0 (H2.out.same (hkv.mod.on fun b hb h1=>HAP.out b h1 hb) hkv.mod.size);have NF:=hd0 (DG H2b.out (by have:=HS.out.2;omega) 1 (by decide));have q2:¬((d1.size/4:Nat):Int)<32:=by have:=HS.out.1;omega
 clear OD hkv Xo cV q1 SE VF;go_wp2_with fail;refine VB.out.mono ?_;rintro e wz ⟨rfl,hz⟩;rw[hz];clear hz;go_wp2_with fail;refine NF.out.mono ?_;rintro e w3 ⟨pl,rfl,nQ,Fl,hla,zk⟩;have HLA:=hd0 hla;have YI:=hd0 zk;have HPL:=hd0 nQ;have aau:=HVA.out.same (zk.mod.on fun b hb h2=>(HKV.out.foot b hb).elim (fun h1=>HAP.out b h1 h2) (fun h1=>by have:=H2.out.lt b h2;omega)) zk.mod.size;have akD:=hd0 aau;have VB3:=oL aau;rw[WC.out]at VB3;have VB3:=hd0 VB3;clear hla zk nQ aau VB NF q2;go_wp2_with fail;refine VB3.out.mono ?_;rintro e wz ⟨rfl,hz⟩;rw[hz];clear hz;have PN:=hd0 (P4 w3 (d1.size/4) (by have:=HS.out.1;have:=HM.out.1;omega));clear VB3;go_wp2_with fail;refine PN.out.mono ?_;rintro e w5 ⟨pm,rfl,hpm,KM,k5⟩;have HMA:=hd0 KM;have HPM:=hd0 hpm;have mT:=hd0 k5;have TN:=hd0 (UZ w5);clear KM hpm k5 PN;go_wp2_with fail;refine TN.out.mono ?_;rintro e w6 ⟨pt,tb,A,M,role,rfl,ht,hr,k6⟩;have HTR:=hd0 ht;have HRO:=hd0 hr;have u9:=hd0 (mT.out.keep k6);have afH:=hd0 (HMA.out.mod k6 id);clear ht hr k6 TN;go_wp2_with fail;obtain⟨v0,FW⟩:∃ v0,dL (iq d1) (d1.size/4) 1 (bG d2*64) Tr.new=v0:=⟨_,rfl⟩
 obtain⟨a0,ha0⟩:∃ a0:eY,(⟨pv,pl,pm,pt,.slice none 0 0,.slice none 0 0,.slice none 0 0,kH (d1.put 0 (List.replicate 64 0)) [] 1,em d2 1 0,[],role,Fv,Fl⟩:eY)=a0:=⟨_,rfl⟩
 obtain⟨W,hW⟩:∃ W,w6.alloc (.cells #[aq pv,aq pl,.int .i64 0,.int .i64 0,.int .i64 0,.int .i64 0,.int .i64 0,.int .i64 0,.int .i64 1,.int .i64 1,.slice none 0 0,.slice none 0 0,aq pm,.slice none 0 0,.pointer (some ⟨pt,0,none⟩),.bool false] 102)=W:=⟨_,rfl⟩
 obtain⟨vb,ZY⟩:∃ vb,w6.heap.size=vb:=⟨_,rfl⟩
 have kW:af w6 W:=by rw[<-hW];exact(ah.refl _ w6).alloc _
 have bW:World.blk W vb #[aq pv,aq pl,.int .i64 0,.int .i64 0,.int .i64 0,.int .i64 0,.int .i64 0,.int .i64 0,.int .i64 1,.int .i64 1,.slice none 0 0,.slice none 0 0,aq pm,.slice none 0 0,.pointer (some ⟨pt,0,none⟩),.bool false] 102:=by rw[<-hW,<-ZY];exact av _ _ _
 have kW4:af w3 W:=u9.out.keep kW;have hFv:∀ b,Fv b->F1 b\/w.heap.size<=b:=HKV.out.foot;have RT:∀ b,Fl b->F2 b\/w1.heap.size<=b:=YI.out.foot;have s1:w.heap.size<=w1.heap.size:=HKV.out.mod.size;have s2:w1.heap.size<=w3.heap.size:=YI.out.mod.size;have s3:w3.heap.size<=w5.heap.size:=mT.out.size;have s4:w3.heap.size<=vb:=by rw[<-ZY];exact u9.out.size
 have lv:∀ b,Fv b->b<w1.heap.size:=fun b hb=>HVA.out.lt b hb;have ll:∀ b,Fl b->b<w3.heap.size:=fun b hb=>HLA.out.lt b hb;have lr:∀ b,role b≠.none->w5.heap.size<=b/\b<vb:=fun b hb=>⟨HRO.out b hb,by rw[<-ZY];exact HTR.out.lt b hb⟩
 have lm:w3.heap.size<=pm/\pm<vb:=⟨HPM.out,by rw[<-ZY];exact afH.out.lt⟩
 have l2:∀ b,F2 b->b<w1.heap.size:=fun b hb=>H2b.out.lt b hb;have hx:lz W vb v0 a0:=by
  rw[<-FW,<-ha0];refine⟨bW,akD.out.same (kW4.on fun _ _=>id) kW4.size,?_,?_,HLA.out.same (kW4.on fun _ _=>id) kW4.size,?_,World.ownsRow_nil _ _ _ _,World.ownsRow_nil _ _ _ _,World.ownsRow_nil _ _ _ _,afH.out.mod kW id,⟨tb,A,M,HTR.out.keep kW⟩,⟨_,GA⟩,?_,?_,?_,?_⟩
  ·show iq (kH (d1.put 0 (List.replicate 64 0)) [] 1)=iq d1;rw[vB,tS _ _ (by omega)]
  ·show(kH (d1.put 0 (List.replicate 64 0)) [] 1).size/4=d1.size/4;rw[WC.out]
  ·show bG (em d2 1 0)*64=bG d2*64;unfold bG;rw[uo]
  ·intro b hb hl;have:=lv b hb;rcases RT b hl with h2|h2
   ·rcases hFv b hb with h1|h1
    ·exact HAP.out b h1 h2
    ·have:=H2.out.lt b h2;omega
   ·omega
  ·exact fun(hb:Fv vb)=>by have:=lv vb hb;omega
  ·exact fun(hb:Fl vb)=>by have:=ll vb hb;omega
  ·intro b hb;have key:w3.heap.size<=b/\b<vb:=by
    rcases hb with hb|hb|hb|hb|hb
    ·obtain rfl:b=pm:=hb;exact lm
    ·have:=lr b hb;exact⟨by omega,this.2⟩
    ·cases hb
    ·cases hb
    ·cases hb
   exact⟨fun(hf:Fv b)=>by have:=lv b hf;omega,fun(hf:Fl b)=>by have:=ll b hf;omega,by omega⟩
 have qv:∀ g,a0.foot vb g->F1 g\/F2 g\/w.heap.size<=g:=by
  intro g hg;rw[<-ha0]at hg;rcases hg with hg|hg|hg|hg
  ·exact .inr (.inr (by omega))
  ·exact(hFv g hg).imp id (fun h=>.inr h)
  ·exact(RT g hg).elim (fun h=>.inr (.inl h)) (fun h=>.inr (.inr (by omega)))
  ·rcases hg with hg|hg|hg|hg|hg
   ·have:g=pm:=hg;exact .inr (.inr (by omega))
   ·have:=lr g hg;exact .inr (.inr (by omega))
   ·cases hg
   ·cases hg
   ·cases hg
 have dF:ah (fun g=>F1 g\/F2 g) w W:=((HKV.out.mod.mono fun _ _ h=>.inl h).trans (YI.out.mod.mono (T:=fun g=>F1 g\/F2 g) fun _ _ h=>.inr h) (fun _ _ h=>h)).trans (kW4.mono (T:=fun g=>F1 g\/F2 g) fun _ _ h=>h.elim) (fun _ _ h=>h);have RH:mM v0:=by
  rw[<-FW];exact xL _ _ _ _ (by have:=HS.out.1;have:=HM.out.1;omega) xN (by rw[jE];rfl) (fun x hx=>by rw[jE]at hx;simp at hx;subst hx;decide)
 have hpm:Ao W vb v0 a0 (.slice none 0 0) []:=⟨hx,World.ownsRow_nil _ _ _ _,fun g hg=>by cases hg⟩
 have yz:v0.b.list=[]:=by rw[<-FW];rfl
 have PO:=un hpm RH (more:=[]) ⟨by rw[yz];exact List.Sublist.refl _,.inl rfl⟩ (by rw[<-FW];show(1:Nat)<=_;omega) (by rw[<-FW];show(1:Nat)<_;omega);rw[<-FW]at PO;have PO:=hd0 PO;have HF:=hd0 qv;have HMO:=hd0 dF;have HSW:Hid (w.heap.size<=W.heap.size):=hd0 dF.size;have H10:Hid (dL (iq d1) (d1.size/4) 1 (bG d2*64) Tr.new=v0):=hd0 FW;have T0:Hid (∀ g,Fv g\/Fl g\/g=vb->F1 g\/F2 g\/w.heap.size<=g):=hd0 (fun g hg=>by
  rcases hg with hg|hg|hg
  ·exact(hFv g hg).imp id (fun h=>.inr h)
  ·exact(RT g hg).elim (fun h=>.inr (.inl h)) (fun h=>.inr (.inr (by omega)))
  ·exact .inr (.inr (by omega)))
 rw[hW,ZY];clear hx qv dF RH hpm yz lv ll lr lm l2 s1 s2 s3 s4 hFv RT kW4 kW bW hW ZY FW;go_wp2_with fail;refine PO.out.mono ?_;rintro e w7 ⟨rfl,u,a',hu,Km,jq⟩;have HTX:=hd0 Km;have HU:=hd0 hu;have yT:=hd0 jq;clear hu jq Km PO;go_wp2;go_ret2;refine⟨vb,u,a',rfl,yT.out.at_,HU.out,HTX.out,fun g hg=>(yT.out.foot g hg).elim (HF.out g) (fun h=>.inr (.inr (auX HSW.out h))),HMO.out.trans yT.out.mod (fun g hl hs=>(HF.out g hs).elim .inl (fun h=>h.elim .inr (fun h=>absurd h (by omega))))⟩
end
section
open Go.RowKit
attribute [local go_sem] auV
theorem xO {w:World}{p:Nat}{v:Vs}{a:eY}(h:lz w p v a)(hl:v.b.list.length<=1000):
  Calls prog 55 #[aq p] w fun e w'=>∃ x,e=.returned x/\ec ue 5 85 w' w.heap.size x v.b.list/\af w w':=by
 have Yj:w.cell? ⟨p,11,none⟩=some a.sv:=aa h.own 11;have CL:=hd0 (pk a.sv v.b.list w h.list hl);clear h;go_enter func55,ntmps55;go_wp2_with fail;refine CL.out.mono ?_;rintro e w1 ⟨x,rfl,ho,k⟩;have HO:=hd0 ho;have HK:=hd0 k;clear ho k CL;go_wp2;go_ret;exact⟨x,rfl,HO.out,HK.out⟩
theorem xP {w:World}{p:Nat}{v:Vs}{a:eY}(h:lz w p v a):
  Calls prog 45 #[aq p] w fun e w'=>∃ m,e=.returned (aq m)/\w.heap.size<=m/\dx w' m v.blocks v.b.planes/\af w w':=by
 have c12:w.cell? ⟨p,12,none⟩=some (aq a.pm):=aa h.own 12;have CL:=hd0 (wK h.map);clear h;go_enter func45,ntmps45;go_wp2_with fail;refine CL.out.mono ?_;rintro e w1 ⟨m,rfl,hm,KM,k⟩;have HM:=hd0 (And.intro hm (And.intro KM k));clear hm KM k CL;go_wp2;go_ret;exact⟨m,rfl,HM.out⟩
theorem Vl {w w':World}{p:Nat}{v:Vs}{a:eY}(h:lz w p v a){F:Nat->Prop}(hv:gW w' a.pv a.d a.text v.num F)(k:dX a.Fv F w w'):eA w p v a v { a with Fv:=F } w':=by
 have Tj:∀ b,a.still b->¬ a.Fv b:=fun b hb=>(h.stays b hb).1;have hF:∀ b,F b->a.Fv b\/w.heap.size<=b:=k.foot;have hFn:∀ b,b<w.heap.size->¬ a.Fv b->¬ F b:=fun b hb hn hf=>(hF b hf).elim hn (fun h1=>by omega);refine⟨⟨ab k.mod h.own h.nv,hv,h.rd,h.size,h.log.same (k.mod.on fun g hg hh=>h.apart g hh hg) k.mod.size,h.half,?_,?_,?_,?_,?_,h.wf,?_,hFn p (ak h.own) h.nv,h.nl,?_⟩,rfl,?_,k.mod.mono (fun g _ h=>.inr (.inl h)),fun b hb hl=>k.mod.block b hl (Tj b (.inr (.inl hb))),id⟩
 ·exact az h.inos fun g hg=>k.mod.block g (ee h.inos hg) (Tj g (.inr (.inr (.inl hg))))
 ·exact az h.list fun g hg=>k.mod.block g (ee h.list hg) (Tj g (.inr (.inr (.inr (.inl hg)))))
 ·exact az h.nodes fun g hg=>k.mod.block g (ee h.nodes hg) (Tj g (.inr (.inr (.inr (.inr hg)))))
 ·exact h.map.mod k.mod (Tj a.pm (.inl rfl))
 ·obtain⟨tb,A,M,t⟩:=h.tree;exact⟨tb,A,M,t.same (k.mod.on fun b hb=>Tj b (.inr (.inl hb))) k.mod.size⟩
 ·exact fun b hb hl=>(hF b hb).elim (fun h1=>h.apart b h1 hl) (fun h1=>by have:=h.log.lt b hl;omega)
 ·intro b hb;have hs:=h.stays b hb;exact⟨hFn b (h.lt (.inr (.inr (.inr hb)))) hs.1,hs.2.1,hs.2.2⟩
 ·intro g hg;rcases hg with hg|hg|hg|hg
  ·exact .inl (.inl hg)
  ·exact(hF g hg).imp (fun h=>.inr (.inl h)) id
  ·exact .inl (.inr (.inr (.inl hg)))
  ·exact .inl (.inr (.inr (.inr hg)))
theorem IL {w:World}{p:Nat}{v:Vs}{a:eY}(h:lz w p v a)(n:Nat)(h1:1<=n)(h2:n<v.blocks)(s:ay)(hs:v.rd n=.ok s):
  Calls prog 22 #[aq p,.int .i64 (n:Int)] w fun e w'=>e=.returned (.tuple #[ax s,.int .i64 0])/\∃ a',eA w p v a v a' w'/\a'.text=a.text:=by
 have c0:w.cell? ⟨p,0,none⟩=some (aq a.pv):=aa h.own 0;have RD:=hd0 (zC h.vol n h1 (by rw[h.size];exact h2) s (by rw[h.rd];exact hs));have H:=hd0 h;clear h hs;go_enter func22,ntmps22;go_wp2_with fail;refine RD.out.mono ?_;rintro e w1 ⟨rfl,F,hv,hk⟩;have HT:=hd0 (Vl H.out hv hk);clear hv hk RD;go_wp2;go_ret2;exact⟨rfl,_,HT.out,rfl⟩
end
end Go.Proofs.YtkghpdcloaiflaaGreatDoor
