import Derived.Test.YtkghpdcloaiflaaGreatDoorW01
import Derived.Maps.AppendAt
set_option maxHeartbeats 16000000
set_option maxRecDepth 100000
namespace Go.Proofs.YtkghpdcloaiflaaGreatDoor
open _root_.Go.Proofs.Tryz
section
open Go.RowKit
attribute [local go_sem] auv
theorem bx {P:Program}{ts te:TypeId}{z:Value}{bytes:Nat}(hs:P.underlying ts=some (.slice te))(hi:(P.info? te).map (fun i=>(i.zero,i.size,i.bytes))=some (some z,1,bytes))(hz:z.cells.size=1)(base:Nat)(v:Value)(n:Nat)(xs:List Value)(w:World)
  (bw:w.ownsRow base te 1 v n xs) (news:List Value) (h1:∀ u∈news,u.oneCell'=true) (hn:n+news.length<=maxLen) (Cd:(n+news.length)*bytes<=140737488355328) (FC:base<=w.heap.size):
  ∃ v' w',(Builtin.append_ #[ts,ts] ts #[v,.slice (some ⟨w.heap.size,0,none⟩) news.length news.length]).run P (w.alloc (.cells news.toArray te))=.ok v' w'/\w'.ownsRow base te 1 v' (n+news.length) (xs++news)/\ah (fun b=>v.ownBlock=some b) w w'/\(v'.ownBlock=v.ownBlock\/v'.ownBlock=some (w.heap.size+1)):=by
 obtain⟨i0,hi,nX,mZ,oH⟩:=auO hi;obtain⟨v',w',h1,h2,h3,_,h5⟩:=run_append_own_at (P:=P) (w:=w.alloc (.cells news.toArray te)) base ts ts te i0 z 1 bytes hs hi nX mZ oH hz (by decide) v n xs (bw.alloc _) ⟨w.heap.size,0,none⟩ news.length news.length news (by simp) (fun j u hu=>by
  rw[gA,avm,World.cell?_alloc_at _ _ _ _ rfl];simpa using hu) h1 (by exact hn) Cd (by simp;omega)
 exact⟨v',w',h1,h2,ah.grown ((ah.refl _ w).alloc _) h3 (fun k hk=>.inl hk),by simpa using h5⟩
structure al (w ws:World)(Ls:Nat->Prop)(p:Nat)(v:Vs)(a:eF)(q:Nat)(h:Hd)(l:List Nat)(lv:Value)(rv:Value)(done:List Nat)(wr:World):Prop extends qk w ws Ls p v a q h l lv wr where
 row:aN wr ws.heap.size rv (gy done)
 rfoot:∀ g,rv.ownBlock=some g->¬ a.foot p g
section
variable {w ws wr w2:World}{Ls:Nat->Prop}{p:Nat}{v:Vs}{a a2:eF}{q:Nat}{h:Hd}{l:List Nat}{lv rv d1:Value}{done d2:List Nat}
theorem al.keep1 (s:al w ws Ls p v a q h l lv rv done wr)(k:af wr w2):al w ws Ls p v a q h l lv rv done w2:=
 ⟨s.toqk.keep' k,aA s.row (fun g hg=>k.block g (aT s.row hg) id),s.rfoot⟩
theorem al.to1 (s:al w ws Ls p v a q h l lv rv done wr)(hw:w.heap.size<=ws.heap.size)(k:eg wr p v a v a2 w2):al w ws Ls p v a2 q h l lv rv done w2:=
 ⟨s.toqk.to hw k,aA s.row (fun g hg=>k.mod.block g (aT s.row hg) (s.rfoot g hg)),fun g hg hf=>(k.foot g hf).elim (s.rfoot g hg) (fun h1=>by have:=aT s.row hg;omega)⟩
theorem al.app (s:al w ws Ls p v a q h l lv rv done wr)(hw:w.heap.size<=ws.heap.size)(hq:q<ws.heap.size)(eU:∀ g,lv.ownBlock=some g->g<ws.heap.size)(m:ah (fun b=>rv.ownBlock=some b) wr w2)(ho:aN w2 ws.heap.size d1 (gy d2))(hb:d1.ownBlock=rv.ownBlock\/d1.ownBlock=some (wr.heap.size+1)):al w ws Ls p v a q h l lv d1 d2 w2:=by
 have d4:∀ g,rv.ownBlock=some g->ws.heap.size<=g:=fun g hg=>(s.row.lt g hg).1;obtain⟨base,jJ⟩:=s.plan.at_;refine⟨⟨s.at_.same (m.on fun g hg e=>s.rfoot g e hg) m.size,s.foot,?_,⟨⟨base,ab m jJ.own (fun e=>by have:=d4 q e;omega),aA jJ.row (fun g hg=>m.block g (aT jJ.row hg) (fun e=>by have:=d4 g e;have:=eU g hg;omega)),jJ.new⟩,s.plan.qf,s.plan.lf⟩,aux s.size m.size,fun b N7=>⟨(s.own b N7).1,(m.block b (auL (s.own b N7).1 s.size) (fun e=>by have:=d4 b e;have:=(s.own b N7).1;omega)).trans (s.own b N7).2.1,(s.own b N7).2.2⟩⟩,ho,fun g hg hf=>?_⟩
 ·exact s.keep.trans m (fun g hl hg=>by have:=d4 g hg;omega)
 ·rcases hb with e|e
  ·exact s.rfoot g (e▸hg) hf
  ·rw[e]at hg;injection hg with hg;have:=s.at_.lt hf;omega
theorem qk.here (s:qk w ws Ls p v a q h l lv wr):qk w wr Ls p v a q h l lv wr:=⟨s.at_,s.foot,s.keep,s.plan,auE _,fun b hb=>⟨auL (s.own b hb).1 s.size,rfl,(s.own b hb).2.2⟩⟩
end
theorem b4 (w:World)(he:tr w)(blocks:Int)(hb:-9223372036854775808<=blocks/\blocks<=9223372036854775807)(av bv:Value)(cs:List bP)(hr:jS oE 5 w av cs)(hs:∀ c∈cs,c.Small)(hl:cs.length<=1048576)
  (base target:az) (h1:base.length<=140737488351232) (h2:target.length<=140737488351232):
  Calls prog 8 #[acy blocks av bv base target] w fun e w'=>e=.returned (.bool true)/\af w w':=by
 obtain⟨W0,rA⟩:∃ W,w.alloc (.cells #[.int .i64 blocks,av,bv,.string ⟨base.toArray⟩,.string ⟨target.toArray⟩] 31)=W:=⟨_,rfl⟩
 obtain⟨wb,Cm⟩:∃ b,w.heap.size=b:=⟨_,rfl⟩
 have dO:Hid (af w W0):=hd0 (by rw[<-rA];exact(ah.refl _ w).alloc _);have dv:Hid (World.blk W0 wb #[.int .i64 blocks,av,bv,.string ⟨base.toArray⟩,.string ⟨target.toArray⟩] 31):=hd0 (by rw[<-rA,<-Cm];exact aw _ _ _);have LD:=hd0 (Au (he.keep dO.out) blocks hb cs av (eZ hr dO.out) hs hl (fun _=>Aw) (fun c _=>Ek c));have HE:=hd0 he;have Oc:=hd0 (And.intro h1 h2);obtain⟨z0,z1,_,_,_⟩:=Ax dv.out;clear he hb hr hs hl h1 h2;go_enter func8,ntmps8
 go_upto_region 1 with fail
 try rw[rA]
 try rw[Cm]
 go_wp2_with fail;refine LD.out.mono ?_;rintro e w1 ⟨p,v0,v,a,rfl,_,_,eU,_,ni⟩;have HG:=hd0 eU.good;have HA:=hd0 ni;have bU:Hid (af w w1):=hd0 (dO.out.keep ni.keep);have ci:=hd0 (ab ni.keep dv.out id);obtain⟨_,_,_,c3,c4⟩:=Ax ci.out;have eo:Hid (v.b.list.length<=1000):=hd0 (by have:=HG.out.list.many;omega);have NW:=hd0 (As ni.at_ eo.out eU.good.list.plane (fun x y hx hy=>⟨fN eU.good hx,aux (ji _ _) (Nat.max_le.2 ⟨fN eU.good hx,fN eU.good hy⟩)⟩) base target (by have:=Oc.out.1;omega) (by have:=Oc.out.2;omega));clear eU ni LD z0 z1;go_wp2_with fail;refine NW.out.mono ?_;rintro e w2 ⟨k2,jJ⟩;have bu:=hd0 k2;have f6:Hid (∀ W,af w W->Calls prog 13 #[] W fun e w'=>e=.returned (.bool true)/\af W w'):=hd0 (fun W k=>Nn (HE.out.keep k));clear k2 NW c3 c4
 cases FW:iS v base target with
 |error er=>
  rw[FW]at jJ;simp only at jJ;subst jJ;have FX:=hd0 (f6.out w2 (bU.out.keep bu.out));clear FW;go_wp2_with fail;refine FX.out.mono ?_;rintro e w3 ⟨rfl,k3⟩;have dZ:=hd0 ((bU.out.keep bu.out).keep k3);clear k3 FX;go_wp2;go_ret;exact⟨rfl,dZ.out⟩
 |ok pl=>
  obtain⟨h,l⟩:=pl;rw[FW]at jJ;simp only at jJ;obtain⟨q,lv,rfl,Ff⟩:=jJ;have PS:=hd0 (Az HG.out FW);have RD:=hd0 (ye HG.out FW);obtain⟨y,f7⟩:=bm HG.out FW;have WP:=hd0 f7;have Xb:=hd0 Ff;have PH:=hd0 (tP Ff);clear FW Ff f7;go_wp2_with fail;refine PH.out.mono ?_;rintro e w5 ⟨rfl,k5⟩;have lZ:=hd0 (bu.out.keep k5);have Sk:=hd0 (Xb.out.keep k5);obtain⟨w6,ed⟩:∃ W,w5.alloc (.cells #[.int .i64 h.id,.int .i64 h.base,.string ⟨h.name.toArray⟩,.int .i64 h.table.root,.int .i64 h.table.size,.int .i64 h.count,.string ⟨h.drop.toArray⟩] 44)=W:=⟨_,rfl⟩
  obtain⟨hb,Yp⟩:∃ b,w5.heap.size=b:=⟨_,rfl⟩
  have k6:af w5 w6:=by rw[<-ed];exact(ah.refl _ w5).alloc _
  have FM:Hid (World.blk w6 hb #[.int .i64 h.id,.int .i64 h.base,.string ⟨h.name.toArray⟩,.int .i64 h.table.root,.int .i64 h.table.size,.int .i64 h.count,.string ⟨h.drop.toArray⟩] 44):=hd0 (by rw[<-ed,<-Yp];exact aw _ _ _);have rz:=hd0 (lZ.out.keep k6);have Js:=hd0 (Sk.out.keep k6);have i4:=hd0 (ab rz.out ci.out id);have rB:Hid (qk w w6 (fun b=>b=wb\/b=hb) p v a q h l lv w6):=hd0 (by
   have bO:=ai FM.out;have ki:w1.heap.size<=hb:=by rw[<-Yp];exact lZ.out.size
   have aqv:=ai ci.out;refine⟨HA.out.at_.keep rz.out,fun g hg=>aux dO.out.size (HA.out.foot g hg),bU.out.keep rz.out,⟨⟨_,Js.out⟩,fun hf=>?_,fun g hg hf=>?_⟩,auE _,fun b N7=>⟨?_,rfl,fun hf=>?_⟩⟩
   ·have h1:=HA.out.at_.lt hf;have h2:=Js.out.new;omega
   ·have h1:=HA.out.at_.lt hf;have h2:=(Js.out.row.lt g hg).1;omega
   ·rcases N7 with rfl|rfl
    ·have:=rz.out.size;omega
    ·exact bO
   ·rcases N7 with rfl|rfl
    ·have h1:=HA.out.foot _ hf;have:=ai dv.out;omega
    ·have h1:=HA.out.at_.lt hf;omega)
  have Fh:Hid (w.heap.size<=w6.heap.size/\v.blocks<=4096):=hd0 ⟨(bU.out.keep rz.out).size,HG.out.many.2⟩;have d3:w6.cell? ⟨wb,3,none⟩=some (.string ⟨base.toArray⟩):=aa i4.out 3;have r3:w6.cell? ⟨hb,3,none⟩=some (.int .i64 h.table.root):=aa FM.out 3;have r4:w6.cell? ⟨hb,4,none⟩=some (.int .i64 h.table.size):=aa FM.out 4;obtain⟨bw,bO⟩:∃ x,an v base h=x:=⟨_,rfl⟩
  have di:=WP.out.few.1;have ep:=WP.out.none;have ek:=WP.out.all;rw[bO]at di ep ek;have OR:Hid (∀(s:az) (W:World),ga s->(∀ n,am s n=true↔am (co v y) n=true)->Calls prog 27 #[.string ⟨bw.toArray⟩,.string ⟨(iO l).toArray⟩] W fun e w'=>e=.returned (.string ⟨s.toArray⟩)/\af W w'):=hd0 (fun s W h1 h2=>by
   rw[<-ek s h1 h2];exact lT bw (iO l) W (by omega) (by
    have:(iO l).length<=4096/8+1:=Ba fun x hx=>by have:=(RD.out x hx).2.1;have:=Fh.out.2;omega
    omega))
  have hQ:Hid (∀ n∈l,∀ W,Calls prog 33 #[.string ⟨bw.toArray⟩,.int .i64 (n:Int)] W fun e w'=>e=.returned (.bool false)/\af W w'):=hd0 (fun n hn W=>by
   have:=JY bw (n:Int) W (by omega) (by have:=(RD.out n hn).2.1;have:=Fh.out.2;omega);rw[show wS bw (n:Int)=am bw n by simp[wS],ep n hn]at this;exact this.mono fun e w' ⟨h1,h2⟩=>⟨h1,h2▸ah.refl _ _⟩)
  have fe:Hid (∀(W:World) (a':eF),kg W p v a'->Calls prog 32 #[.iface 32 (aq p),.agg #[.int .i64 h.table.root,.int .i64 h.table.size]] W fun e w'=>∃ s,e=.returned (.tuple #[aC s,.int .i64 0])/\(s.length<=600/\ga s/\∀ n,am s n=true↔am (co v y) n=true)/\∃ a2,Ve W p v a' v a2 w'):=hd0 (fun W a' hv=>by
   obtain⟨ac,a6,g8,hT⟩:=b0 HG.out WP.out.mem;have VR:=bq (bX p v a'.text) (w:=W) (F:=a'.foot p) ⟨a',hv,rfl,fun _=>Iff.rfl⟩ hT g8;rw[<-WP.out.table]at VR;refine VR.mono ?_;rintro e w' ⟨s,rfl,hs,F',⟨a2,OP,OD,Yd⟩,hk⟩;exact⟨s,rfl,hs,a2,OP,fun g hg=>hk.foot g ((Yd g).2 hg),hk.mod,fun e=>by rw[OD];exact e⟩)
  clear k5 k6 PH Xb Sk Js di ep ek
  go_upto_region 9 with fail
  try rw[ed]
  try rw[Yp]
  clear ed Yp;by_cases c5:base=[]
  case' pos=>
   subst c5;have j2:bw=[]:=bO.symm.trans (auI rfl);subst j2;have HS:=rB;clear bO rB;go_wp2_with fail
  case' neg=>
   have fv:=WP.out.diff c5;have gj:Hid (bQ (cj (cX v [] base)) h.drop=bw):=hd0 ((auK c5).symm.trans bO);have DF:Hid (Calls prog 16 #[aq p,.string ⟨#[]⟩,aC base] w6 fun e w'=>e=.returned (.tuple #[aC (cj (cX v [] base)),aC (cS (cX v [] base)),.int .i64 (ef (cX v [] base))])/\af w6 w'):=hd0 (by
    rw[<-bk];exact Nc rB.out.at_ eo.out HG.out.list.plane [] base (by simp) (by have:=Oc.out.1;omega))
   have MI:=hd0 (fun W=>nD (cj (cX v [] base)) h.drop W (by have:=(Vp HG.out [] base).1;omega) (by have:=WP.out.few.2;omega));have hJ:(base==[])=false:=by simpa using c5
   rw[fv]at DF;clear fv bO c5 r3 r4;go_wp2_with fail;refine DF.out.mono ?_;rintro e w7 ⟨rfl,k7⟩;have yR:=hd0 k7;have g6:w7.cell? ⟨hb,6,none⟩=some (.string ⟨h.drop.toArray⟩):=aa (ab k7 FM.out id) 6;clear k7 DF d3;go_wp2_with fail;refine(MI.out _).mono ?_;rintro e w8 ⟨rfl,k8⟩;rw[gj.out];have HS:=hd0 (rB.out.keep' (yR.out.keep k8));have r3:w8.cell? ⟨hb,3,none⟩=some (.int .i64 h.table.root):=HS.out.cell (.inr rfl) (aa FM.out 3);have r4:w8.cell? ⟨hb,4,none⟩=some (.int .i64 h.table.size):=HS.out.cell (.inr rfl) (aa FM.out 4);clear k8 MI rB gj g6 yR;go_wp2_with fail
  all_goals (
   refine(fe.out _ _ HS.out.at_).mono ?_;rintro e mV ⟨s,rfl,d8,a2,d9⟩;have nS:=hd0 (HS.out.did Fh.out.1 d9).here;have gb:=hd0 d8;have c6:Hid (∀ b,(b=wb\/b=hb)->mV.heap[b]?=w6.heap[b]?):=hd0 (fun b N7=>((HS.out.did Fh.out.1 d9).own b N7).2.1);have eu:Hid (w.heap.size<=mV.heap.size):=hd0 (aux Fh.out.1 (aux HS.out.size d9.mod.size));clear d9 d8 fe HS r3 r4;have Xa:Hid (al w mV (fun b=>b=wb\/b=hb) p v a2 q h l lv (.slice (some ⟨mV.heap.size,0,none⟩) 0 0) (l.take 0) (mV.alloc (.cells #[] 3))):=hd0 ⟨nS.out.keep' ((ah.refl _ mV).alloc _),⟨rfl,.inr ⟨mV.heap.size,0,#[],rfl,auE _,aw _ _ _,auE _,by decide,rfl,rfl⟩⟩,fun g hg hf=>by
    have e:mV.heap.size=g:=by injection hg
    have:=nS.out.at_.lt hf;omega⟩
   have h8:Hid (∀ wr a' rv d,al w mV (fun b=>b=wb\/b=hb) p v a' q h l lv rv d wr->wr.cell? ⟨hb,5,none⟩=some (.int .i64 (l.length:Int))):=hd0 (fun wr a' rv d s=>by
    rw[<-PS.out.count];have h5:mV.cell? ⟨hb,5,none⟩=some (.int .i64 h.count):=by
     rw[World.cell?_of_block (w:=w6) (c6.out hb (.inr rfl))];exact aa FM.out 5
    exact s.toqk.cell (.inr rfl) h5)
   have gn:Hid (q<mV.heap.size/\∀ g,lv.ownBlock=some g->g<mV.heap.size):=hd0 (by
    obtain⟨_,hp⟩:=nS.out.plan.at_;exact⟨ai hp.own,fun g hg=>aT hp.row hg⟩)
   have et:=hd0 PS.out.few;clear nS;go_wp2_with fail
   go_loopw [12,13,14] (fun rv x z wr=>∃ k:Nat,k<=l.length/\z=.int .i64 (k:Int)/\x=.int .i64 ((ao l k:Nat):Int)/\Hid (∃ a',al w mV (fun b=>b=wb\/b=hb) p v a' q h l lv rv (l.take k) wr)) (fun _ _ z _=>l.length-(intOf z).toNat)
   case atStart=>exact⟨0,by omega,rfl,rfl,hd0 ⟨a2,Xa.out⟩⟩
   case round=>
    clear Xa;obtain⟨k,hk,rfl,rfl,HR⟩:=hrel;obtain⟨a3,ct⟩:=HR.out;have cB:=hd0 ct;have h5:=h8.out _ _ _ _ ct;clear ct HR;by_cases aL:k<l.length
    ·have dN:(k:Int)<(l.length:Int):=by omega
     obtain⟨n,hn⟩:∃ n,l[k]?=some n:=⟨_,auB aL⟩
     have eG:=auC hn;obtain⟨g1,g2,g3,g4⟩:=RD.out n eG;have HN:=hd0 (And.intro g1 (And.intro g2 (And.intro g3 g4)));have PR:=hd0 (IM cB.out.at_ eo.out cB.out.plan PS.out.first k n hn (by have:=et.out;omega) g1 g2 Fh.out.2 (uM v n) g3 g4);have DP:=hd0 (fun W=>Ni n (uM v n) ⟨by omega,by have:=Fh.out.2;omega,g4⟩ W);have eB:=hd0 (hQ.out n eG);have tX:=cb WP.out.up hn g1;have hE:¬(n:Int)<=(ao l k:Int):=by omega
     have ew:=hd0 (And.intro (a0 hn) (show l.take (k+1)=l.take k++[n] by rw[auD,hn];simp));clear hn eG g1 g2 g3 g4 tX;generalize ao l k=lw at*;go_wp2_with fail;refine PR.out.mono ?_;rintro e fo ⟨rfl,a4,gW,AA,jJ⟩;have yS:=hd0 (cB.out.to1 eu.out gW);clear gW AA jJ PR cB h5;go_wp2_with fail;refine(DP.out _).mono ?_;rintro e Cy ⟨rfl,c8⟩;have b5:=hd0 (yS.out.keep1 c8);have RV:=hd0 (IK b5.out.at_ n HN.out.1 HN.out.2.1 (uM v n) HN.out.2.2.1);clear c8 DP yS;go_wp2_with fail;refine RV.out.mono ?_;rintro e gr ⟨rfl,a5,gW,AA⟩;have c9:=hd0 (b5.out.to1 eu.out gW);have bt:(uM v n==uM v n)=true:=by simp
     clear gW AA RV b5;go_wp2_with fail;refine(eB.out _).mono ?_;rintro e i9 ⟨rfl,fa⟩;have cu:=hd0 (c9.out.keep1 fa);have b7:k+1<=4800:=by have:=et.out;omega
     have Ha:=bx (P:=prog) underlying46 iX rfl mV.heap.size u12 _ _ i9 cu.out.row [.int .i64 (n:Int)] (by simp[Value.oneCell']) (by unfold maxLen;simp[gy];omega) (by simp[gy];omega) cu.out.toqk.size;obtain⟨gv,js,bi,bw,dh,zf⟩:=Ha;have es:=hd0 bi;have en:Hid (al w mV (fun b=>b=wb\/b=hb) p v a5 q h l lv gv (l.take (k+1)) js):=hd0 (cu.out.app eu.out gn.out.1 gn.out.2 dh (by
      have:=kv bw;rw[ew.out.2];simpa[gy]using this) zf)
     clear bi bw dh zf fa eB c9;go_wp2_with (at_builtin;refine aB es.out rfl rfl rfl rfl ?_);exact⟨⟨k+1,by omega,by go_num,by rw[ew.out.1],hd0 ⟨a5,en.out⟩⟩,by simp[intOf];omega⟩
    ·have nY:k=l.length:=by omega
     have ct:=cB.out;rw[nY,auF]at ct;have OF:=hd0 (Bc l u12 wr (by
      have h:=bd ct.row;have e:qj l=bo (gy l):=by simp[qj,bo,gy]
      rw[e];exact h) (by have:=et.out;omega) (fun n hn=>by have:=(RD.out n hn).2.1;have:=Fh.out.2;omega))
     have dN:¬(k:Int)<(l.length:Int):=by omega
     clear ct nY hk aL;generalize ao l k=lw at*;go_wp2_with fail;refine OF.out.mono ?_;rintro e fo ⟨rfl,f9⟩;have yS:=hd0 (cB.out.keep1 f9);have gk:=hd0 (OR.out s fo gb.out.2.1 gb.out.2.2);have kb:(s==s)=true:=by simp
     clear f9 OF h5;go_wp2_with fail;refine gk.out.mono ?_;rintro e Cy ⟨rfl,c8⟩;have b5:=hd0 (yS.out.keep1 c8);have FX:=hd0 (f6.out Cy b5.out.toqk.keep);clear c8 gk;go_wp2_with fail;refine FX.out.mono ?_;rintro e gr ⟨rfl,ff⟩;have ej:=hd0 (b5.out.toqk.keep.keep ff);clear ff FX;go_wp2;go_ret;exact⟨rfl,ej.out⟩)
end
end Go.Proofs.YtkghpdcloaiflaaGreatDoor
