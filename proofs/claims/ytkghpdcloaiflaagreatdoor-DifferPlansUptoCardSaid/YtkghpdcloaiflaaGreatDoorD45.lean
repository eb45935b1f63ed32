import Derived.Test.YtkghpdcloaiflaaGreatDoorD44
set_option maxHeartbeats 16000000
set_option maxRecDepth 100000
namespace Go.Proofs.YtkghpdcloaiflaaGreatDoor
open _root_.Go.Proofs.Tryz
section
open Go.RowKit
attribute [local go_sem] auG
structure yS (w ws:World)(Ls:Nat->Prop)(p:Nat)(v:Vs)(a:eV)(q:Nat)(h:Hd)(l:List Nat)(lv:Value)(wr:World):Prop where
 at_:lp wr p v a
 foot:∀ g,a.foot p g->w.heap.size<=g
 keep:af w wr
 plan:fN wr p a q h l lv
 size:ws.heap.size<=wr.heap.size
 own:∀ b,Ls b->b<ws.heap.size/\wr.heap[b]?=ws.heap[b]?/\¬ a.foot p b
section
variable {w ws wr w2:World}{Ls:Nat->Prop}{p:Nat}{v:Vs}{a a2:eV}{q:Nat}{h:Hd}{l:List Nat}{lv:Value}
theorem yS.keep' (s:yS w ws Ls p v a q h l lv wr)(k:af wr w2):yS w ws Ls p v a q h l lv w2:=
 ⟨s.at_.keep k,s.foot,s.keep.keep k,s.plan.keep k,auI s.size k.size,fun b hb=>⟨(s.own b hb).1,(k.block b (auW (s.own b hb).1 s.size) id).trans (s.own b hb).2.1,(s.own b hb).2.2⟩⟩
theorem yS.to (s:yS w ws Ls p v a q h l lv wr)(_hw:w.heap.size<=ws.heap.size)(k:ei wr p v a v a2 w2):yS w ws Ls p v a2 q h l lv w2 where
 at_:=k.at_
 foot g hg:=(k.foot g hg).elim (s.foot g) (fun h1=>auI s.keep.size h1)
 keep:=s.keep.trans k.mod (fun g hl hg=>by have:=s.foot g hg;omega)
 plan:=s.plan.to (_v:=v) (_u:=v) k.mod k.foot
 size:=auI s.size k.mod.size
 own b hb:=⟨(s.own b hb).1,(k.mod.block b (auW (s.own b hb).1 s.size) (s.own b hb).2.2).trans (s.own b hb).2.1,fun hf=>(k.foot b hf).elim (s.own b hb).2.2 (fun h1=>by have:=(s.own b hb).1;have:=s.size;omega)⟩
theorem yS.cell (s:yS w ws Ls p v a q h l lv wr){c:Addr}{x:Value}(hb:Ls c.block)(hc:ws.cell? c=some x):wr.cell? c=some x:=by
 rw[World.cell?_of_block (w:=ws) (s.own c.block hb).2.1];exact hc
end
theorem RK {w:World}{b:Nat}{t:TypeId}{c0 c1 c2 c3 c4 c5 c6:Value}(h:World.blk w b #[c0,c1,c2,c3,c4,c5,c6] t):
  w.cell? ⟨b,0,none⟩=some c0/\w.cell? ⟨b,1,none⟩=some c1/\w.cell? ⟨b,2,none⟩=some c2/\w.cell? ⟨b,3,none⟩=some c3/\w.cell? ⟨b,4,none⟩=some c4/\w.cell? ⟨b,5,none⟩=some c5/\w.cell? ⟨b,6,none⟩=some c6:=
 ⟨aa h 0,aa h 1,aa h 2,aa h 3,aa h 4,aa h 5,aa h 6⟩
def iL (v:Vs)(n:Nat):ay:=match v.rd n with
 | .ok s=>s
 | .error _=>[]
theorem IQ {v:Vs}(hg:jY v){b t:ay}{h:Hd}{l:List Nat}(hp:jI v b t=.ok (h,l)):∀ n∈l,1<=n/\n<v.blocks/\v.rd n=.ok (iL v n)/\(iL v n).length<=240:=by
 have key:∀ x∈v.b.list,∀ n,ai (dh v x) n=true->1<=n/\n<v.blocks/\v.rd n=.ok (iL v n)/\(iL v n).length<=240:=by
  intro x hx n hn;obtain⟨h1,h2,s,h3,h4⟩:=Nv hg hx n hn;have:iL v n=s:=by unfold iL;rw[h3]
  exact⟨h1,h2,by rw[this];exact h3,by rw[this];exact h4⟩
 intro n hn;unfold jI at hp
 cases hd:bR v b t with
 |error e=>rw[hd]at hp;cases hp
 |ok x=>
  obtain⟨ne,drop⟩:=x;rw[hd]at hp;simp only at hp;split at hp
  ·cases hp
  ·injection hp with hp;injection hp with _ hp;subst hp;rw[oI]at hn;unfold bR at hd;split at hd
   ·cases hd
   ·split at hd
    ·cases hd
    ·rename_i y hy
     split at hd
     ·injection hd with hd;injection hd with hd _;subst hd;exact key y (dQ hy) n hn
     ·split at hd
      ·cases hd
      ·injection hd with hd;injection hd with hd _;subst hd;rw[mw,au4]at hn;exact key y (dQ hy) n hn.1
structure RO (v:Vs)(b t:ay)(h:Hd)(l:List Nat):Prop where
 diff:bR v b t=.ok (dfA (bR v b t),dfB (bR v b t))
 list:l=cq (dfA (bR v b t))
 id:h.id=bM v.b.list t
 base:h.base=bM v.b.list b
 less:bM v.b.list b<bM v.b.list t
 name:h.name=t/\aG t=true
 first:((aP v.b.list h.name).getD eS).id=h.id
 count:h.count=(l.length:Int)
 drop:h.drop=dfB (bR v b t)
 few:l.length<=4800
theorem Nz {v:Vs}(hg:jY v){b t:ay}{h:Hd}{l:List Nat}(hp:jI v b t=.ok (h,l)):RO v b t h l:=by
 unfold jI at hp
 cases hd:bR v b t with
 |error e=>rw[hd]at hp;cases hp
 |ok x=>
  obtain⟨ne,drop⟩:=x;have afx:=(Kd hg b t).1;rw[hd]at hp afx;simp only at hp;have nU:∃ y,aP v.b.list t=some y/\aG t=true:=by
   unfold bR at hd;split at hd
   ·cases hd
   ·rename_i c
    cases hy:aP v.b.list t with
    |none=>rw[hy]at hd;cases hd
    |some y=>exact⟨y,rfl,by cases hn:aG t with|true=>rfl|false=>exact absurd (.inl hn) c⟩
  obtain⟨y,hy,nU⟩:=nU;have YH:y.name=t:=by
   have:=avI hy;simpa using this
  split at hp
  ·cases hp
  ·rename_i aK
   injection hp with hp;injection hp with h1 h2;rw[<-fZ hg.list.names,<-fZ hg.list.names]at aK;have e1:h.name=t:=by rw[<-h1];show((aP v.b.list t).getD eS).name=t;rw[hy];exact YH
   refine⟨by rw[hd];rfl,by rw[hd];exact h2.symm,by rw[<-h1,fZ hg.list.names],by rw[<-h1,fZ hg.list.names],by omega,⟨e1,nU⟩,by rw[e1,<-h1],by rw[<-h1,h2],by rw[hd,<-h1];rfl,?_⟩;rw[<-h2];have:=rT ne;show(cq ne).length<=4800;have hf:ne.length<=600:=afx;omega
theorem NA {v:Vs}(hg:jY v){b t:ay}{e:Int}(hp:jI v b t=.error e):e≠0/\((Zt (bR v b t)≠0/\e=Zt (bR v b t))\/(Zt (bR v b t)=0/\bM v.b.list t<=bM v.b.list b/\e=190)):=by
 unfold jI at hp
 cases hd:bR v b t with
 |error e0=>
  rw[hd]at hp;injection hp with hp;subst hp;have:=Nx hd;exact⟨by omega,.inl ⟨by show e0≠0;omega,rfl⟩⟩
 |ok x=>
  obtain⟨ne,drop⟩:=x;rw[hd]at hp;simp only at hp;split at hp
  ·rename_i aK
   injection hp with hp;rw[<-fZ hg.list.names,<-fZ hg.list.names]at aK;exact⟨by omega,.inr ⟨rfl,aK,hp.symm⟩⟩
  ·cases hp
theorem NC (w:World)(he:t8 w)(blocks:Int)(hb:-9223372036854775808<=blocks/\blocks<=9223372036854775807)(av bv:Value)(cs:List bU)(hr:ko qk 5 w av cs)(hs:∀ c∈cs,c.Small)(hl:cs.length<=1048576)
  (base target:ay) (h1:base.length<=140737488351232) (h2:target.length<=140737488351232):
  Calls prog 4 #[acI blocks av bv base target] w fun e w'=>e=.returned (.bool true)/\af w w':=by
 have dF:Hid (af w (w.alloc (.cells #[.int .i64 blocks,av,bv,.string ⟨base.toArray⟩,.string ⟨target.toArray⟩] 31))):=hd0 ((ah.refl _ w).alloc _);have HZ0:Hid (World.blk (w.alloc (.cells #[.int .i64 blocks,av,bv,.string ⟨base.toArray⟩,.string ⟨target.toArray⟩] 31)) w.heap.size #[.int .i64 blocks,av,bv,.string ⟨base.toArray⟩,.string ⟨target.toArray⟩] 31):=hd0 (aw _ _ _);have LD:=hd0 (Ay (he.keep dF.out) blocks hb cs av (eZ hr dF.out) hs hl (fun _=>Nw));have HE:=hd0 he;have FF:=hd0 (And.intro h1 h2);clear he hb hr hs hl h1 h2;go_enter func4,ntmps4;go_wp2_with fail;refine LD.out.mono ?_;rintro e w1 ⟨p,v0,v,a,rfl,_,_,gy,_,ni⟩;have HG:=hd0 gy.good;have HA:=hd0 ni;have bS:Hid (af w w1):=hd0 (dF.out.keep ni.keep);have Xr:=hd0 (ab ni.keep HZ0.out id);obtain⟨_,_,_,c3,c4⟩:=mS Xr.out;have HL7:Hid (v.b.list.length<=1000):=hd0 (by have:=HG.out.list.many;omega);have NW:=hd0 (Au ni.at_ HL7.out gy.good.list.plane (fun x y hx hy=>⟨fO gy.good hx,auI (jh _ _) (Nat.max_le.2 ⟨fO gy.good hx,fO gy.good hy⟩)⟩) base target (by have:=FF.out.1;omega) (by have:=FF.out.2;omega));clear gy ni LD;go_wp2_with fail;refine NW.out.mono ?_;rintro e w2 ⟨k2,j8⟩;have bw:=hd0 k2;obtain⟨_,_,_,d3,d4⟩:=mS (ab k2 Xr.out id);have DF:Hid (Calls prog 16 #[aq p,aB base,aB target] w2 fun e w'=>e=.returned (.tuple #[aB (dfA (bR v base target)),aB (dfB (bR v base target)),.int .i64 (Zt (bR v base target))])/\af w2 w'):=hd0 (by
  rw[<-Fa];exact At (HA.out.at_.keep k2) HL7.out HG.out.list.plane base target (by have:=FF.out.1;omega) (by have:=FF.out.2;omega))
 have IDS:Hid (∀ W,af w1 W->Calls prog 17 #[aq p,aB base,aB target] W fun e w'=>e=.returned (.tuple #[.int .i64 (bM v.b.list base),.int .i64 (bM v.b.list target)])/\af W w'):=hd0 (fun W k=>RI (HA.out.at_.keep k) HL7.out base target);have FXW:Hid (∀ W,af w W->Calls prog 13 #[] W fun e w'=>e=.returned (.bool true)/\af W w'):=hd0 (fun W k=>Nl (HE.out.keep k));clear k2 NW c3 c4
 cases Gb:jI v base target with
 |error er=>
  rw[Gb]at j8;simp only at j8;subst j8;obtain⟨dZ,adC⟩:=NA HG.out Gb;have aa4:=hd0 adC;have HNE:=hd0 dZ;clear Gb adC dZ;go_wp2_with fail;refine DF.out.mono ?_;rintro e w3 ⟨rfl,k3⟩;have dJ:=hd0 (bw.out.keep k3);obtain⟨_,_,_,e3,e4⟩:=mS (ab (bw.out.keep k3) Xr.out id);clear k3 d3 d4 DF;go_wp2_with fail;refine(IDS.out w3 dJ.out).mono ?_;rintro e w4 ⟨rfl,k4⟩;have lZ:=hd0 (dJ.out.keep k4);have FX:=hd0 (FXW.out w4 (bS.out.keep lZ.out));clear k4 e3 e4 IDS;have b0:(er != 0)=true:=by simpa using HNE.out
  have b1:(er==er)=true:=by simp
  have b2:(er != er)=false:=by simp
  generalize bM v.b.list base=x at*;generalize bM v.b.list target=y at*;rcases aa4.out with⟨hd,hee⟩|⟨hd,FH,hee⟩
  ·have b3:(Zt (bR v base target)==0)=false:=by simpa using hd
   rw[<-hee]at b3 ⊢;clear hd hee aa4 HNE;go_wp2_with fail;refine FX.out.mono ?_;rintro e w5 ⟨rfl,k5⟩;have lz:=hd0 ((bS.out.keep lZ.out).keep k5);clear k5 FX;go_wp2;go_ret;exact⟨rfl,lz.out⟩
  ·rw[hd];subst hee;clear hd aa4 HNE b0 b1 b2;go_wp2_with fail;refine FX.out.mono ?_;rintro e w5 ⟨rfl,k5⟩;have lz:=hd0 ((bS.out.keep lZ.out).keep k5);clear k5 FX;go_wp2;go_ret;exact⟨rfl,lz.out⟩
 |ok pl=>
  obtain⟨h,l⟩:=pl;rw[Gb]at j8;simp only at j8;obtain⟨q,lv,rfl,FL⟩:=j8;have PS:=hd0 (Nz HG.out Gb);have RD:=hd0 (IQ HG.out Gb);have XF:=hd0 FL;clear Gb FL;go_wp2_with fail;refine DF.out.mono ?_;rintro e w3 ⟨rfl,k3⟩;have dJ:=hd0 (bw.out.keep k3);have Tk:=hd0 (XF.out.keep k3);obtain⟨_,_,_,e3,e4⟩:=mS (ab (bw.out.keep k3) Xr.out id);clear k3 d3 d4 DF;go_wp2_with fail;refine(IDS.out w3 dJ.out).mono ?_;rintro e w4 ⟨rfl,k4⟩;have lZ:=hd0 (dJ.out.keep k4);have N8:=hd0 (Tk.out.keep k4);have PH:=hd0 (Av N8.out);have tO:Zt (bR v base target)=0:=by rw[PS.out.diff];rfl
  have Kq:=PS.out.less;rw[tO];have aoY:¬ bM v.b.list target<=bM v.b.list base:=by omega
  clear k4 e3 e4 IDS tO Kq;have RL:=hd0 (fun W=>No (dfA (bR v base target)) W (by have:=(Kd HG.out base target).1;omega));have b1:(h.id != bM v.b.list target)=false:=by rw[PS.out.id];simp
  have b2:(h.base != bM v.b.list base)=false:=by rw[PS.out.base];simp
  have b3:(h.name==target)=true:=by rw[PS.out.name.1];simp
  have b4:(h.drop==dfB (bR v base target))=true:=by rw[PS.out.drop];simp
  have NM0:=Np h.name;rw[show aG h.name=true by rw[PS.out.name.1];exact PS.out.name.2]at NM0;have NM:=hd0 (fun W=>NM0 W (by rw[PS.out.name.1];have:=FF.out.2;omega));clear NM0;generalize bM v.b.list target=ty at*;generalize bM v.b.list base=tx at*;go_wp2_with fail;refine PH.out.mono ?_;rintro e w5 ⟨rfl,k5⟩;have lz:=hd0 (lZ.out.keep k5);have SR:=hd0 (N8.out.keep k5);have k6:af w5 (w5.alloc (.cells #[.int .i64 h.id,.int .i64 h.base,.string ⟨h.name.toArray⟩,.int .i64 h.table.root,.int .i64 h.table.size,.int .i64 h.count,.string ⟨h.drop.toArray⟩] 44)):=(ah.refl _ w5).alloc _;have YJ:Hid (World.blk (w5.alloc (.cells #[.int .i64 h.id,.int .i64 h.base,.string ⟨h.name.toArray⟩,.int .i64 h.table.root,.int .i64 h.table.size,.int .i64 h.count,.string ⟨h.drop.toArray⟩] 44)) w5.heap.size #[.int .i64 h.id,.int .i64 h.base,.string ⟨h.name.toArray⟩,.int .i64 h.table.root,.int .i64 h.table.size,.int .i64 h.count,.string ⟨h.drop.toArray⟩] 44):=hd0 (aw _ _ _);have tL:=hd0 (lz.out.keep k6);have Tg:=hd0 (SR.out.keep k6);clear k5 k6 PH XF Tk N8;go_wp2_with fail;generalize w5.alloc (.cells #[.int .i64 h.id,.int .i64 h.base,.string ⟨h.name.toArray⟩,.int .i64 h.table.root,.int .i64 h.table.size,.int .i64 h.count,.string ⟨h.drop.toArray⟩] 44)=w6 at*;generalize w5.heap.size=hb at*;refine(RL.out _).mono ?_;rintro e w7 ⟨lr,rfl,aZ,k7⟩;rw[<-PS.out.list]at aZ;have uD:=hd0 (tL.out.keep k7);have WE:=Tg.out.keep k7;obtain⟨d0,d1,d2,_,_,d5,d6⟩:=RK (ab k7 YJ.out id);obtain⟨_,_,_,_,g4⟩:=mS (ab uD.out Xr.out id);obtain⟨la,cap,elr,co⟩:=aY aZ;have uE:(ba (eU l)).length=l.length:=by simp[ba,eU]
  rw[uE]at elr;have aK:∀ g,lr.ownBlock=some g->w1.heap.size<=g/\g<w7.heap.size:=fun g hg=>⟨auI tL.out.size (aZ.lt g hg).1,aU aZ hg⟩
  have sU:Hid (yS w w7 (fun b=>lr.ownBlock=some b) p v a q h l lv w7):=hd0 ⟨HA.out.at_.keep uD.out,fun g hg=>auI dF.out.size (HA.out.foot g hg),bS.out.keep uD.out,
   ⟨⟨_,WE⟩,fun hf=>by have h1:=HA.out.at_.lt hf;have h2:=WE.new;omega,fun g hg hf=>by have h1:=HA.out.at_.lt hf;have h2:=(WE.row.lt g hg).1;omega⟩,auP _,
   fun b hb=>⟨(aK b hb).2,rfl,fun hf=>by have h1:=HA.out.at_.lt hf;have h2:=(aK b hb).1;omega⟩⟩
  have HRW:Hid (∀ i n,l[i]?=some n->∃ b o,la=some ⟨b,o,none⟩/\w7.cell? ⟨b,o+i,none⟩=some (.int .i64 ((n:Nat):Int))):=hd0 (fun i n hn=>co i _ (by simp[ba,eU,hn]));have Cd:Hid (w.heap.size<=w7.heap.size/\v.blocks<=4096):=hd0 ⟨(bS.out.keep uD.out).size,HG.out.many.2⟩;have b5:(h.count != (l.length:Int))=false:=by rw[PS.out.count];simp
  have ae8:(l.length:Int)<=4800:=by have:=PS.out.few;omega
  subst elr;clear aZ k7 WE co uE aK RL SR Tg YJ Xr;go_wp2_with fail;refine(NM.out _).mono ?_;rintro e w8 ⟨rfl,rfl⟩;clear d0 d1 d2 d5 d6 g4 b1 b2 b3 b4 b5 NM;go_wp2_with fail
  go_loopw [13,14] (fun y z wr=>∃ k:Nat,k<=l.length/\z=.int .i64 (k:Int)/\y=aB (cZ (iL v) (l.take k))/\Hid (∃ a',yS w w7 (fun b=>(Value.slice la l.length cap).ownBlock=some b) p v a' q h l lv wr)) (fun _ z _=>l.length-(intOf z).toNat)
  case atStart=>exact⟨0,by omega,rfl,rfl,hd0 ⟨a,sU.out⟩⟩
  case round=>
   clear sU;obtain⟨k,hk,rfl,rfl,HR⟩:=hrel;obtain⟨a1,sT⟩:=HR.out;have Ky:=hd0 sT;clear sT HR;by_cases aK:k<l.length
   ·have dR:(k:Int)<(l.length:Int):=by omega
    obtain⟨n,hn⟩:∃ n,l[k]?=some n:=⟨_,auM aK⟩
    obtain⟨g1,g2,g3,g4⟩:=RD.out n (auN hn);obtain⟨rb,ro,rfl,hrc⟩:=HRW.out k n hn;have HN:=hd0 (And.intro g1 (And.intro g2 (And.intro g3 g4)));have PR:=hd0 (xZ Ky.out.at_ HL7.out Ky.out.plan PS.out.first k n hn (by have:=PS.out.few;omega) g1 g2 Cd.out.2 (iL v n) g3 g4);have Tw:cZ (iL v) (l.take (k+1))=cZ (iL v) (l.take k)++cX (n:Int) (iL v n):=by unfold cZ;rw[auO,hn];simp
    have rC:=nQ (iL v) (l.take k) (fun y hy=>by
     obtain⟨e1,e2,e3,e4⟩:=RD.out y (auR hy);exact⟨by have:=Cd.out.2;omega,e4⟩)
    have HT:=hd0 Tw;have HRC:=hd0 hrc;rw[auS]at rC;have NG:min k l.length<=4800:=by omega
    have rp:(cZ (iL v) (l.take k)).length<=1440000:=by omega
    have hel:(cX (n:Int) (iL v n)).length<=300:=by
     unfold cX;have e1:=bf (n:=(n:Int).toNat) (by have:=Cd.out.2;omega);have e2:=bf (n:=(iL v n).length) (by omega);simp only[au3];omega
    have sN:¬ 9223372036854775807<(cZ (iL v) (l.take k)).length+(cX (n:Int) (iL v n)).length:=by omega
    clear hn g1 g2 g3 g4 hrc Tw rC NG rp hel;generalize cZ (iL v) (l.take k)=j3 at*;go_wp2_with fail;refine PR.out.mono ?_;rintro e w9 ⟨rfl,a2,gW,AD,j8⟩;have jv:=Ky.out.to Cd.out.1 gW;have yC:=hd0 jv;have rc2:w9.cell? ⟨rb,ro+k,none⟩=some (.int .i64 (n:Int)):=jv.cell rfl HRC.out;have RV:=hd0 (xV jv.at_ n HN.out.1 HN.out.2.1 (iL v n) HN.out.2.2.1);clear jv gW AD j8 PR;go_wp2_with fail;refine RV.out.mono ?_;rintro e CB ⟨rfl,a3,gW,AD⟩;have qe:=yC.out.to Cd.out.1 gW;have AG:=hd0 qe;have rc3:CB.cell? ⟨rb,ro+k,none⟩=some (.int .i64 (n:Int)):=qe.cell rfl HRC.out;have RR:=Rv (n:Int) (iL v n) CB (by have:=HN.out.2.2.2;omega);rw[show xX (n:Int) (iL v n)=.tuple #[aB (cX (n:Int) (iL v n)),.int .i64 0]from auT ⟨by have:=HN.out.1;omega,by have:=HN.out.2.1;have:=Cd.out.2;omega,HN.out.2.2.2⟩]at RR;have RR:=hd0 RR;clear qe gW AD RV rc2;go_wp2_with fail;refine RR.out.mono ?_;rintro e w11 ⟨rfl,T9⟩;have YB:=hd0 (AG.out.keep' T9);clear T9 RR rc3;generalize cX (n:Int) (iL v n)=er at*;have beq:(er==er)=true:=by simp
    go_wp2_with fail;exact⟨⟨k+1,by omega,by go_num,by rw[HT.out],hd0 ⟨a3,YB.out⟩⟩,by simp[intOf];omega⟩
   ·obtain rfl:k=l.length:=by omega
    rw[auQ];have rC:=nQ (iL v) l (fun y hy=>by
     obtain⟨e1,e2,e3,e4⟩:=RD.out y hy;exact⟨by have:=Cd.out.2;omega,e4⟩)
    have PU:=hd0 (EZ Ky.out.at_ HL7.out Ky.out.plan PS.out.first (by have:=PS.out.few;omega) Cd.out.2 (iL v) RD.out);have SU:=hd0 (fun W=>CP fY (cZ (iL v) l) W rfl (by omega));clear rC;generalize N4:KV fY (cZ (iL v) l)=sm at*;generalize cZ (iL v) l=j3 at*;clear N4 hk;have beq:(sm==sm)=true:=by simp
    go_wp2_with fail;refine PU.out.mono ?_;rintro e w9 ⟨rfl,a2,gW,AD,j8⟩;have yC:=hd0 (Ky.out.to Cd.out.1 gW);clear gW AD j8 PU;go_wp2_with fail;refine(SU.out _).mono ?_;rintro e CB ⟨rfl,SC⟩;have AG:=hd0 (yC.out.keep' SC);have P1:=hd0 (nP AG.out.plan (-1) (.inl (by omega)));clear SC SU;go_wp2_with fail;refine P1.out.mono ?_;rintro e w11 ⟨rfl,T9⟩;have YB:=hd0 (AG.out.keep' T9);have P2:=hd0 (nP YB.out.plan (l.length:Int) (.inr (Int.le_refl _)));clear T9 P1;go_wp2_with fail;refine P2.out.mono ?_;rintro e AM ⟨rfl,k12⟩;have HS5:=hd0 (YB.out.keep' k12);have FX:=hd0 (FXW.out AM HS5.out.keep);clear k12 P2;go_wp2_with fail;refine FX.out.mono ?_;rintro e w13 ⟨rfl,Yt⟩;have ajl:=hd0 (HS5.out.keep.keep Yt);clear Yt FX;go_wp2;go_ret;exact⟨rfl,ajl.out⟩
end
end Go.Proofs.YtkghpdcloaiflaaGreatDoor
section
namespace Go.Proofs.YtkghpdcloaiflaaGreatDoor.lawPlans
open _root_.Go.Proofs.Tryz
open Go.ChangeShapes Go.WideShapes Go.ChangeAt Go.RowKit
open Go.ChangeMaps (open_string shut_string)
theorem own:ownKnob prog.godebug=none:=by kernel_rfl
theorem VK:laidOutB prog=true:=by kernel_rfl
theorem acJ (os:Os){H:Type}(enc:TypeId×Value->H):∃ places,DataW.whole enc prog ((BJ os).forCall (fun _ _=>0) ⟨#[],#[.agg #[.int .i64 0,.slice none 0 0,.slice none 0 0,.string .empty,.string .empty]],[]⟩).memory Tryz.f4.params.toList Rows.differPlansSpec.vars false (#[.agg #[.int .i64 0,.slice none 0 0,.slice none 0 0,.string .empty,.string .empty]]:Array Value).toList 8=some ([.agg [.lit (.int .i64 0),.nil,.nil,.lit (.string []),.lit (.string [])]],[],places):=
 ⟨[],by kernel_rfl⟩
theorem lifted (os:Os)(started:os.Started)(H:Type)(enc:TypeId×Value->H)(F:Stop.Interp):
  ReturnsInHanded {} Tryz.checked os 4 .any ((Rows.OpenSpec.upto Rows.differPlansSpec).preRow enc prog Tryz.f4 Rows.differPlansUptoRow.domain false Rows.differPlansUptoRow.laid) (((Rows.OpenSpec.upto Rows.differPlansSpec).at F).post enc prog Tryz.f4 false true false false):=by
 obtain⟨places,hx⟩:=acJ os enc;refine returnsInHanded_of_row (C:=Tryz.checked) (s:=Rows.OpenSpec.upto Rows.differPlansSpec) own started (by kernel_rfl) func4
  (witness_row_atRef (enc:=enc) (C:=Tryz.checked) false (BJ os) #[.agg #[.int .i64 0,.slice none 0 0,.slice none 0 0,.string .empty,.string .empty]] (Nn _) (by kernel_rfl) (by kernel_rfl) (by kernel_rfl)
   (OpenSpec.preRow_of_cond 8 hx (by kernel_rfl) (fun k hk=>by cases hk;kernel_rfl) (by kernel_rfl) (RA os _))) ?_
 intro W base args ds gs before Xk hW _ aeq zk hL aaT _;have akX:t8 W:=YR aaT (CZ hL (by kernel_rfl)) (C0 hL (by kernel_rfl)) (C3 hL (by kernel_rfl));have cJ:(DataW.weightsEach prog (Tryz.f4.params.toList++Rows.differPlansSpec.plain.varTypes prog) (ds++gs)).all (·<=reachBytes)=true:=zk;have Se:∀(j:Nat) t v,Tryz.f4.params[j]?=some t->args[j]?=some v->Value.okWide prog W .any base t v:=Xk;clear zk Xk;have hW':=hW;obtain⟨p,q,hA0,hV,rfl,_,_⟩:=hW;have hA:DataW.TrodAll enc prog W 0 (fun _=>true) true Tryz.f4.params.toList args.toList ds p:=hA0;clear hA0;rw[params4]at hA Se cJ;obtain⟨v0,vs0,d0,ds0,p0,q0,aoi,rfl,rfl,h0,r0⟩:=trodAll_cons hA;obtain⟨rfl,rfl,rfl⟩:=trodAll_nil r0;obtain rfl:args=#[v0]:=by cases args;simp_all
 obtain⟨rfl,rfl⟩:=trodVars_none hV;have KI:=aeq _ rfl;obtain⟨n0,av0,bv0,N7,bs0,wb0,wt0,rfl,Jd,YG,hq0,uN,T8,R9,hu0,iJ,ht0⟩:=RJ (Se 0 31 v0 rfl rfl) h0 KI (j:=0) rfl;refine(NC W akX n0 Jd av0 bv0 N7 YG R9 uN wb0 wt0 (auI iJ (by decide)) (auI ht0 (by decide))).mono fun e W' ⟨he,hk⟩=>?_;subst he;exact⟨_,rfl,Nk VK (by kernel_rfl) rfl rfl underlying4 rfl hW' hk⟩
end Go.Proofs.YtkghpdcloaiflaaGreatDoor.lawPlans
end
