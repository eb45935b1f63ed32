import Derived.Test.YtkghpdcloaiflaaGreatDoorH31
set_option maxHeartbeats 2000000
set_option maxRecDepth 100000
namespace Go.Proofs.YtkghpdcloaiflaaGreatDoor
open _root_.Go.Proofs.Tryz
variable {a b i k n p:Nat}{l o:List Bool}{w:World}
def Kn (n:Nat):List Nat:=if n<=1 then []else if n<=60 then [1]else [bQ n 60,1]
theorem EV (h:2<=n)(h2:n<=3600):Kn n=bQ n 60::Kn (bQ n 60):=by
 unfold Kn;rw[awf (by omega:¬ n<=1)];by_cases h3:n<=60
 ·have:bQ n 60=1:=by unfold bQ;omega
  rw[awd h3,this];rfl
 ·have h4:2<=bQ n 60/\bQ n 60<=60:=by unfold bQ;omega
  rw[awf h3,awf J,awd h4.2]
theorem Wb (h:n<=1):Kn n=[]:=awd h
theorem BC (h:2<=n):bQ n 60<n/\1<=bQ n 60:=by unfold bQ;omega
theorem qS (s:Nat)(h:1<=bQ s 240):ax s=bQ s 240::Kn (bQ s 240):=by
 unfold ax Kn;simp only;rw[awf J];by_cases h1:bQ s 240=1
 ·rw[awd h1,awd J,h1]
 ·have h2:¬ bQ s 240<=1:=J
  rw[awf h1];simp only[h2,if_false];split<;>rfl
def BD (br data:ay):Bool:=(ax br.length).length==(ax data.length).length
theorem Rp (br data:ay):cY br data=lR (iW br data)+cU (BD br data) (Kn (bQ data.length 240)) (bQ data.length 240) (bQ br.length 240) (iW br data):=by
 unfold cY;by_cases h:bQ data.length 240=0
 ·have e:ax data.length=[]:=by unfold ax;simp only;rw[awd h]
  rw[e,h];have:iW br data=[]:=by unfold iW;rw[h];rfl
  rw[this];rfl
 ·rw[qS data.length J];simp only;rw[<-qS data.length J];rfl
theorem EX (a:Bool)(h:n<=1)(was:Nat)(o:List Bool):cU a (Kn n) n was o=0:=by
 rw[Wb h];rfl
theorem BE (a:Bool)(h:2<=n)(h2:n<=3600)(was:Nat)(o:List Bool):
  cU a (Kn n) n was o=lR (iq a (bQ n 60) n was o)+cU a (Kn (bQ n 60)) (bQ n 60) (bQ was 60) (iq a (bQ n 60) n was o):=by
 rw[EV h h2];rfl
theorem ML (h:k<l.length):lR (l.take (k+1))=lR (l.take k)+(if l[k]=true then 1 else 0):=by
 unfold lR;rw[av8,av6 h,List.filter_append];simp only[Option.toList_some,awn]
 congr 1
 cases l[k]<;>simp
theorem MM (l:List Bool):lR l<=l.length:=awh _ _
def fV (l:List Bool)(k:Nat):List Bool:=l.take k++List.replicate (l.length-k) false
theorem MN (l:List Bool)(h:k<=l.length):(fV l k).length=l.length:=by simp[fV];omega
theorem xF (l:List Bool):fV l 0=List.replicate l.length false:=by simp[fV]
theorem An (l:List Bool):fV l l.length=l:=by simp[fV]
theorem Ao (h:k<l.length):(fV l k)[k]?=some false:=by
 unfold fV;rw[List.getElem?_append_right (by simp;omega)];simp[List.getElem?_replicate];omega
theorem xG (h:k<l.length):fV l (k+1)=(fV l k).set k l[k]:=by
 unfold fV;rw[List.set_append_right _ _ (by simp;omega)];have e1:k-(l.take k).length=0:=by simp;omega
 have e2:l.length-k=(l.length-(k+1))+1:=J
 rw[e1,e2,List.replicate_succ,List.set_cons_zero,av8,av6 h,awN];rfl
theorem EY (br data:ay):(iW br data).length=bQ data.length 240:=by simp[iW]
theorem EZ (br data:ay)(h:i<(iW br data).length):(iW br data)[i]=decide (aQ br i≠aQ data i):=by simp[iW]
theorem MO {s:ay}(h:bQ s.length 240<=i):aQ s i=[]:=by
 unfold aQ;have:s.length<=i*240:=by
  have:=(aL (n:=s.length) (each:=240) (k:=i) dc7).1 h;omega
 rw[axu this];rfl
theorem IR {s:ay}(h:i<bQ s.length 240):aQ s i≠[]:=by
 intro e;have h1:¬ s.length<=i*240:=λh2=>by
  have:=(aL (n:=s.length) (each:=240) (k:=i) dc7).2 J;omega
 unfold aQ at e;have:=axi List.length e;simp at this;omega
theorem Rq (br data:ay)(h:i<(iW br data).length)(h2:bQ br.length 240<=i):(iW br data)[i]=true:=by
 rw[EZ,MO h2];have:=IR (s:=data) (i:=i) (by rw[<-EY br];exact h);simp[Ne.symm this]
theorem Rr (a:Bool)(m n was:Nat)(o:List Bool):(iq a m n was o).length=m:=by simp[iq]
theorem Rs (a:Bool)(m n was:Nat)(o:List Bool)(h:i<(iq a m n was o).length):
  (iq a m n was o)[i]=(!a||decide (bQ was 60<=i)||decide (min (n-60*i) 60≠min (was-60*i) 60)||(dC o (60*i) 60).any id):=by simp[iq]
theorem Rt (h:a+k<o.length):(dC o a (k+1)).any id=((dC o a k).any id||o[a+k]):=by
 unfold dC;rw[av8,axd,av6 h,List.any_append];simp
theorem Ru (h:o.length<=a+k)(hk:k<=60):dC o a 60=dC o a k:=by
 unfold dC;rw[awQ (by simp;omega),awQ (by simp;omega)]
theorem MQ {U:ay}(h1:1<=n)(hn:∀ k,aq U k=true->1<=k/\k<n):(n:Int)-1-(jF U:Int)=(kF U n:Int):=by
 have e1:jF U=((List.range' 1 (n-1)).filter λk=>aq U k).length:=by
  unfold jF;refine List.Perm.length_eq ?_;have Ol:((List.range' 1 (n-1)).filter λk=>aq U k).Nodup:=(List.nodup_range' (step:=1)).sublist List.filter_sublist;rw[List.perm_ext_iff_of_nodup (vy U) Ol];intro k;rw[rC,av1,aw3]
  constructor
  ·intro h;have:=hn k h;exact⟨by omega,h⟩
  ·exact λh=>h.2
 have key:∀ l:List Nat,(l.filter λk=>aq U k).length+(l.filter λk=>!aq U k).length=l.length:=by
  intro l
  induction l with
  |nil=>rfl
  |cons x r ih=>
   simp only[axh,av5]
   cases aq U x<;>simp<;>omega
 have:=key (List.range' 1 (n-1));rw[List.length_range']at this;unfold kF;omega
section
open Go.RowKit
attribute [local go_sem] av0
theorem qU (n:Nat)(w:World)(hn:n<=1000000):
  Calls prog 273 #[.int .i64 (n:Int)] w λe w'=>e=.returned (.int .i64 ((bQ n 240:Nat):Int))/\w=w':=by
 have e1:((bQ n 240:Nat):Int)=((n:Int)+240-1)/240:=by unfold bQ;omega
 have e2:((n:Int)+240-1).tdiv 240=((n:Int)+240-1)/240:=axf J;have b1:(n:Int)<=1000000:=J
 have hq:((n:Int)+240-1)/240<=1000240:=J
 have hq0:(0:Int)<=((n:Int)+240-1)/240:=J
 go_enter func273,ntmps273;go_wp2;go_ret;exact⟨by rw[e1];rfl,rfl⟩
theorem xH (s:List UInt8)(i:Nat)(w:World)(hs:s.length<=100000)(hi:i<=100000):
  Calls prog 274 #[.string ⟨s.toArray⟩,.int .i64 (i:Int)] w λe w'=>e=.returned (.string ⟨(aQ s i).toArray⟩)/\w'=w:=by
 have hsi:(s.length:Int)<=100000:=J
 have hii:(i:Int)<=100000:=J
 have w1:IntKind.i64.wrap ((i:Int)*240)=(i:Int)*240:=eZ J;obtain⟨f,hf⟩:∃ f,min s.length (i*240)=f:=⟨_,rfl⟩
 have m1:min (s.length:Int) ((i:Int)*240)=(f:Int):=J
 have hfi:(f:Int)<=100000:=J
 have w2:IntKind.i64.wrap ((f:Int)+240)=(f:Int)+240:=eZ J;obtain⟨q,hq⟩:∃ q,min s.length (f+240)=q:=⟨_,rfl⟩
 have m2:min (s.length:Int) ((f:Int)+240)=(q:Int):=J
 have hcut:=λW=>AX s f q (f:Int) (q:Int) rfl rfl J J W;have e:(s.drop f).take (q-f)=aQ s i:=by
  unfold aQ;by_cases h:i*240<=s.length
  ·have:f=i*240:=J
   rw[this,List.take_eq_take_iff];simp;omega
  ·rw[axu (show s.length<=f by omega),axu J];simp
 have He:=Z e;clear e hf hq;go_enter func274,ntmps274;go_wp2;go_ret;exact⟨by rw[<-He.o];rfl,rfl⟩
def tu (n:Nat):Nat:=if n=0 then 0 else 1+(Kn n).length
theorem E4 (s:Nat):tu (bQ s 240)=(ax s).length:=by
 unfold tu;split
 ·rename_i h
  unfold ax;simp[h]
 ·rw[qS s J];simp;omega
theorem MR (h:2<=n)(h2:n<=3600):tu n=1+tu (bQ n 60):=by
 have h3:=BC h;unfold tu;rw[awf J,awf J,EV h h2];simp;omega
theorem Wc (n:Nat):tu n<=3:=by
 unfold tu Kn;split
 ·omega
 ·split
  ·simp
  ·split<;>simp
theorem ur (s:Nat)(w:World)(hs:s<=16384):
  Calls prog 275 #[.int .i64 (s:Int)] w λe w'=>e=.returned (.int .i64 (((ax s).length:Nat):Int))/\w=w':=by
 have CH:=Z (qU s w J);rw[<-E4];have hn:bQ s 240<=100:=(aL dc7).2 J;generalize bQ s 240=n at*;go_enter func275,ntmps275;go_wp2_with fail;refine CH.mono ?_;rintro e w1 ⟨rfl,rfl⟩;go_wp2_with fail;have Ut:=Wc n
 go_loopw [3,4] (λx y wr=>∃ m k:Nat,x=.int .i64 (m:Int)/\y=.int .i64 (k:Int)/\m<=100/\k+tu m=tu n/\wr=w) (λx _ _=>(intOf x).toNat)
 case atStart=>exact⟨n,0,rfl,rfl,hn,J,rfl⟩
 case round=>
  obtain⟨m,k,rfl,rfl,hm,hk,rfl⟩:=hrel;have hmi:(m:Int)<=100:=J
  have B9:(k:Int)<=3:=J
  by_cases h0:m=0
  ·subst h0;have e:k=tu n:=by rw[<-hk];simp[tu]
   go_wp2;go_ret;exact⟨by rw[e];rfl,rfl⟩
  ·have h0i:(0:Int)<(m:Int):=J
   by_cases h1:m=1
   ·subst h1;have e:((k:Int)+1)=(tu n:Int):=by rw[<-hk];simp[tu,Kn]
    go_wp2;go_ret;exact⟨by rw[<-e];rfl,rfl⟩
   ·have h1b:((m:Int)==1)=false:=by simp;omega
    have dh:=MR (n:=m) J J;have YB:=BC (n:=m) J;have e1:((bQ m 60:Nat):Int)=((m:Int)+60-1)/60:=by unfold bQ;omega
    have e2:((m:Int)+60-1).tdiv 60=((m:Int)+60-1)/60:=axf J;have hq:((m:Int)+60-1)/60<=160:=J
    have hq0:(0:Int)<=((m:Int)+60-1)/60:=J
    obtain⟨HE,HH⟩:=K2 e1 (And.intro dh (And.intro YB (And.intro hk hm)));clear dh YB hk e1 Ut hn;go_wp2_with fail;obtain⟨h5,h6,h7,h8⟩:=HH.o;refine⟨⟨bQ m 60,k+1,by rw[HE.o],by go_num,J,J,trivial⟩,?_⟩;have h9:=HE.o;simp only[intOf];rw[<-h9];omega
def bY (l:List Bool):Array Value:=(l.map Value.bool).toArray
theorem IT (l:List Bool)(k:Nat)(b:Bool):(bY l).setIfInBounds k (.bool b)=bY (l.set k b):=by simp[bY,List.map_set]
theorem IU {b:Bool}(h:l[k]?=some b):(bY l)[k]?=some (.bool b):=by simp[bY,h]
theorem MS:(prog.info? 4).map (λi=>(i.zero,i.size,i.bytes))=some (some (.bool false),1,1):=kr7
theorem oX (n:Nat)(hn:n<=100000)(W:World):
  (Instr.makeSlice 362 (.int .i64 (n:Int)) (.int .i64 (n:Int))).run prog W=.ok (.slice (some ⟨W.heap.size,0,none⟩) n n) (W.alloc (.cells (bY (List.replicate n false)) 4)):=by
 have h:=run_make_row' (P:=prog) 362 4 (.bool false) 1 underlying362 MS rfl .i64 .i64 n J J W;have e:madeCells #[Value.bool false] n=bY (List.replicate n false):=by
  have:=rz (.bool false) rfl n;simp only[bY,List.map_replicate]at this ⊢;rw[show(#[Value.bool false]:Array Value)=(Value.bool false).cells from rfl,this];simp
 rw[e]at h;exact h
theorem kQ {t:TypeId}(h:World.blk w b (bY l) t){x:Bool}(hk:l[k]?=some x):w.cell? ⟨b,k,none⟩=some (.bool x):=by
 rw[aa h k];exact IU hk
theorem tv {t:TypeId}(h:World.blk w b (bY l) t)(k:Nat)(x:Bool):World.blk (w.setCell ⟨b,k,none⟩ (.bool x)) b (bY (l.set k x)) t:=by
 rw[<-IT];exact ah h k _
structure ZZ (w:World)(AL:Bool)(total n m:Nat)(O:List Bool)(ob dm:Nat)(a:Bool)(wr:World):Prop where
 len:O.length=n
 few:n<=69/\m<=69
 blk:World.blk wr ob (bY O) 4
 keep:af w wr
 new:w.heap.size<=ob
 al:(a&&AL)=AL
 sum:dm+(lR O+cU AL (Kn n) n m O)=total
theorem Rv (old data:ay)(ho:old.length<=16384)(hd:data.length<=16384)(w:World):
  Calls prog 220 #[az old,az data] w λe w'=>e=.returned (.int .i64 ((cY old data:Nat):Int))/\af w w':=by
 obtain⟨C1,C2,PO,PD,LO,LD⟩:=K6 (qU data.length w J) (qU old.length w J) (λ(i:Nat) (hi:i<=1000) W=>xH old i W J J) (λ(i:Nat) (hi:i<=1000) W=>xH data i W J J) (λW=>ur old.length W ho) (λW=>ur data.length W hd);have hn:bQ data.length 240<=69:=(aL dc7).2 J;have hm:bQ old.length 240<=69:=(aL dc7).2 J;obtain⟨HC,HO,HG,HT⟩:=K4 (Rp old data) (EY old data) (λi h=>EZ old data (i:=i) h) (λi h=>Rq old data (i:=i) h);have HA:Hid (BD old data=(((ax old.length).length:Int)==((ax data.length).length:Int))):=Z (by unfold BD;rw[awM];simp;omega);have ajA:Hid (cY old data<=1000):=Z (by
  refine av2 (gq old data) ?_;unfold aU;have h2:bQ (bQ data.length 240) 60<=2:=(aL dc7).2 J;rcases aN data.length with⟨_,e⟩|⟨_,_,e⟩|⟨_,_,e⟩|⟨_,e⟩<;>rw[e]<;>simp only[av4,List.sum_nil]<;>omega)
 have HN:=Z (And.intro hn hm);generalize bQ data.length 240=n at*;generalize bQ old.length 240=m at*;generalize iW old data=O at*;generalize cY old data=total at*;generalize BD old data=AL at*;have rx:=oX n J w;clear ho hd hn hm;go_enter func220,ntmps220;go_wp2_with fail;refine C1.mono ?_;rintro e w1 ⟨rfl,rfl⟩;go_wp2_with fail;refine C2.mono ?_;rintro e w1 ⟨rfl,rfl⟩;go_wp2_with fail;have HB:Hid (World.blk (w.alloc (.cells (bY (List.replicate n false)) 4)) w.heap.size (bY (fV O 0)) 4):=Z (by rw[xF,HO.o];exact av _ _ _);have HK:Hid (af w (w.alloc (.cells (bY (List.replicate n false)) 4))):=Z ((ai.refl _ w).alloc _);obtain⟨ob,ib⟩:∃ ob,w.heap.size=ob:=⟨_,rfl⟩
 have yj:=Z ib;rw[ib]at HB;rw[ib];clear ib rx C1 C2;generalize (w.alloc (.cells (bY (List.replicate n false)) 4))=w0 at*;have hnI:(n:Int)<=69:=by have:=HN.1;omega
 go_loopw [28] (λi wr=>∃ k:Nat,k<=n/\i=.int .i64 (k:Int)/\af w wr/\World.blk wr ob (bY (fV O k)) 4) (λi _=>n-(intOf i).toNat)
 case atStart=>exact⟨0,J,rfl,HK.o,HB.o⟩
 case round=>
  clear HK HB;obtain⟨k,hk,rfl,hK,hB⟩:=hrel;obtain⟨HK,HB⟩:=K2 hK hB;clear hK hB;by_cases aP:k<n
  ·have dL:(k:Int)<(n:Int):=J
   have yA:k<O.length:=by rw[HO.o];exact aP
   have c0:wr.cell? ⟨ob,k,none⟩=some (.bool false):=kQ HB.o (Ao yA);have f0:=ae HB.o ⟨ob,k,none⟩ rfl;have uM:Hid (∀ x,O[k]=x->∃ k':Nat,k'<=n/\Value.int .i64 ((k:Int)+1)=.int .i64 (k':Int)/\k'=k+1/\af w (wr.setCell ⟨ob,k,none⟩ (.bool x))/\World.blk (wr.setCell ⟨ob,k,none⟩ (.bool x)) ob (bY (fV O k')) 4):=Z (λx hx=>by
    refine⟨k+1,J,by go_num,rfl,HK.setCell (p:=⟨ob,k,none⟩) (.inr (by rw[yj.o];exact av9 _)) _,?_⟩;rw[xG yA,hx];exact tv HB.o k x)
   by_cases hw:m<=k
   ·have hwi:(m:Int)<=(k:Int):=J
    have hx:=HT.o k yA hw;go_wp2_with fail;obtain⟨k',h1,h2,h3,h4,h5⟩:=uM.o true hx;exact⟨⟨k',h1,h2,h4,h5⟩,by simp[intOf];omega⟩
   ·have hwi:¬(m:Int)<=(k:Int):=J
    obtain⟨P1,P2⟩:=K2 (PO.o k J) (PD.o k J);have hx:=HG.o k yA;have HX:=Z hx;clear hx;go_wp2_with fail;refine(P1.o _).mono ?_;rintro e w2 ⟨rfl,rfl⟩;go_wp2_with fail;refine(P2.o _).mono ?_;rintro e w3 ⟨rfl,rfl⟩;go_wp2_with fail;obtain⟨k',h1,h2,h3,h4,h5⟩:=uM.o (decide (aQ old k≠aQ data k)) HX.o;have e:(!(aQ old k==aQ data k))=decide (aQ old k≠aQ data k):=by by_cases h:aQ old k=aQ data k<;>simp[h]
    rw[<-e]at h4 h5;exact⟨⟨k',h1,h2,h4,h5⟩,by simp[intOf];omega⟩
  ·obtain rfl:k=n:=J
   have hB:=HB.o;have e1:fV O k=O:=by rw[<-HO.o];exact An O
   rw[e1]at hB;have HS:Hid (ZZ w AL total k m O ob 0 true wr):=Z ⟨HO.o,HN.o,hB,HK.o,by rw[yj.o];exact av9 _,rfl,by rw[HC.o];omega⟩;clear hB e1 HB HK HC HO HG HT yj aP hk PO PD;go_wp2_with fail
   go_loopw [5,6,8,10,11] (λx y s c t wz=>∃(n m:Nat) (O:List Bool) (ob dm:Nat) (a:Bool),x=.int .i64 (n:Int)/\y=.int .i64 (m:Int)/\s=.slice (some ⟨ob,0,none⟩) n n/\c=.int .i64 (dm:Int)/\t=.bool a/\Hid (ZZ w AL total n m O ob dm a wz)) (λx _ _ _ _ _=>(intOf x).toNat)
   case atStart=>exact⟨k,m,O,ob,0,true,rfl,rfl,rfl,rfl,rfl,HS⟩
   case round=>
    clear HS HN;obtain⟨wq,rfl⟩:∃ wq,wq=wr:=⟨_,rfl⟩
    obtain⟨n,m,O,ob,dm,a,rfl,rfl,rfl,rfl,rfl,HS⟩:=hrel;have hn:=HS.few.1;have hnI:(n:Int)<=69:=J
    have hmI:(m:Int)<=69:=by have:=HS.few.2;omega
    have yf:dm+lR O<=1000:=by have:=HS.sum;have:=ajA.o;omega
    go_wp2_with fail
    go_loopw [51,10] (λi c wz=>∃ k:Nat,k<=n/\i=.int .i64 (k:Int)/\c=.int .i64 ((dm+lR (O.take k):Nat):Int)/\wz=wq) (λi _ _=>n-(intOf i).toNat)
    case atStart=>exact⟨0,J,rfl,by simp[lR],rfl⟩
    case round=>
     obtain⟨k,hk,rfl,rfl,rfl⟩:=hrel;by_cases aP:k<n
     ·have yA:k<O.length:=by rw[HS.len];exact aP
      have dL:(k:Int)<(n:Int):=J
      have c0:wr.cell? ⟨ob,k,none⟩=some (.bool O[k]):=kQ HS.blk (av6 yA);have hct:=ML yA;have AH:=MM (O.take k);have Ch:(O.take k).length<=69:=by rw[awc];omega
      have Tu:((dm+lR (O.take k):Nat):Int)<=2000:=J
      obtain⟨x,hx⟩:∃ x,O[k]=x:=⟨_,rfl⟩
      rw[hx]at c0 hct;have HCT:=Z hct;clear hct hx AH Ch;generalize hcc:dm+lR (O.take k)=cc at*;have Hcc:=Z hcc;clear hcc
      cases x with
      |true=>
       go_wp2_with fail;exact⟨⟨k+1,J,by go_num,by rw[HCT.o,awd rfl,<-awl,Hcc.o];go_num,trivial⟩,by simp[intOf];omega⟩
      |false=>
       go_wp2_with fail;exact⟨⟨k+1,J,by go_num,by rw[HCT.o];simp[Hcc.o],trivial⟩,by simp[intOf];omega⟩
     ·obtain rfl:k=n:=J
      rw[awQ (by rw[HS.len];exact av9 _)];clear aP hk;obtain⟨ac,hac⟩:∃ ac,dm+lR O=ac:=⟨_,rfl⟩
      rw[hac]at yf ⊢;have HAC:=Z hac;clear hac;by_cases h1:k<=1
      ·have h1i:(k:Int)<=1:=J
       have hs:=HS.sum;rw[EX AL h1]at hs;have e:ac=total:=by have:=HAC.o;omega
       clear hs;go_wp2;go_ret;exact⟨by rw[<-e];rfl,HS.keep⟩
      ·have h1i:¬(k:Int)<=1:=J
       have dh:=BE AL (n:=k) J J m O;have yo:=BC (n:=k) J;have aee:=λj=>aL (n:=k) (each:=60) (k:=j) dc7;have aer:=λj=>aL (n:=m) (each:=60) (k:=j) dc7;have e1:((k:Int)+60-1)/60=((bQ k 60:Nat):Int):=by unfold bQ;omega
       have e2:((k:Int)+60-1).tdiv 60=((k:Int)+60-1)/60:=axf J;have e3:((m:Int)+60-1)/60=((bQ m 60:Nat):Int):=by unfold bQ;omega
       have e4:((m:Int)+60-1).tdiv 60=((m:Int)+60-1)/60:=axf J;rw[e1]at e2;rw[e3]at e4;obtain⟨Tn,HL2,HUK,HUM,uM,HUP⟩:=K6 (λi h=>Rs AL (bQ k 60) k m O (i:=i) h) (Rr AL (bQ k 60) k m O) aee aer dh yo;have hu1:((bQ k 60:Nat):Int)<=69:=J
       have hu2:((bQ m 60:Nat):Int)<=69:=by unfold bQ;omega
       clear dh yo aee aer e1 e3;generalize bQ k 60=up at*;generalize bQ m 60=YJ at*;generalize iq AL up k m O=O2 at*
       go_upto_region 20 with fail
       go_cut [11]from 49 to 136 (λx wx=>x=.bool AL/\wx=wr)
       case first=>
        cases a with
        |false=>
         have OX:AL=false:=by have:=HS.al;simpa using this.symm
         go_wp2_with fail;go_meet
         case rel=>exact⟨by rw[OX],rfl⟩
        |true=>
         go_wp2_with fail;refine(LO.o _).mono ?_;rintro e w1 ⟨rfl,rfl⟩;go_wp2_with fail;refine(LD.o _).mono ?_;rintro e w1 ⟨rfl,rfl⟩;go_wp2_with fail;go_meet
         case rel=>exact⟨by rw[HA.o],rfl⟩
       case rest=>
        obtain⟨rfl,hwc⟩:=hcut;rw[hwc];clear hwc;have rx:=oX up J wr;go_wp2_with fail;have ro:af wr (wr.alloc (.cells (bY (List.replicate up false)) 4)):=(ai.refl _ wr).alloc _;have HN3:Hid (w.heap.size<=wr.heap.size/\ob<wr.heap.size):=Z ⟨HS.keep.size,ak HS.blk⟩;have HI:Hid (af w (wr.alloc (.cells (bY (List.replicate up false)) 4))/\World.blk (wr.alloc (.cells (bY (List.replicate up false)) 4)) ob (bY O) 4/\World.blk (wr.alloc (.cells (bY (List.replicate up false)) 4)) wr.heap.size (bY (fV O2 0)) 4):=
         Z ⟨HS.keep.keep ro,ab ro HS.blk id,by rw[xF,HL2.o];exact av _ _ _⟩
        generalize wr.alloc (.cells (bY (List.replicate up false)) 4)=w1 at*;generalize wr.heap.size=ob2 at*;clear rx ro
        go_loopw [83] (λi wz=>∃ j:Nat,j<=up/\i=.int .i64 (j:Int)/\Hid (af w wz/\World.blk wz ob (bY O) 4/\World.blk wz ob2 (bY (fV O2 j)) 4)) (λi _=>up-(intOf i).toNat)
        case atStart=>exact⟨0,J,rfl,HI⟩
        case round=>
         clear HI;obtain⟨wy,rfl⟩:∃ wy,wy=wr:=⟨_,rfl⟩
         obtain⟨j,hj,rfl,HI⟩:=hrel;have eG:ob≠ob2:=by have:=HN3.2;omega
         by_cases aP:j<up
         ·have dL:(j:Int)<(up:Int):=J
          have Ox:j<O2.length:=by rw[HL2.o];exact aP
          have AF:j*60<k:=by have:=HUK.o j;omega
          have hjb:YJ<=j↔m<=j*60:=HUM.o j;have c0:wy.cell? ⟨ob2,j,none⟩=some (.bool false):=kQ HI.2.2 (Ao Ox);have f0:=ae HI.2.2 ⟨ob2,j,none⟩ rfl;have Cu:=Tn.o j Ox;obtain⟨b0,ic⟩:∃ b0,(!AL||decide (YJ<=j)||decide (min (k-60*j) 60≠min (m-60*j) 60))=b0:=⟨_,rfl⟩
          rw[ic]at Cu;obtain⟨Hg2,Hb0⟩:=K2 Cu ic;clear Cu ic
          go_upto_region 25 with fail
          go_cut []from 84 to 133 (λwx=>wx=wy.setCell ⟨ob2,j,none⟩ (.bool b0))
          case first=>
           have FN:j*60<m->(min ((k:Int)-(j:Int)*60) 60==min ((m:Int)-(j:Int)*60) 60)=decide (min (k-60*j) 60=min (m-60*j) 60):=λh=>by
            rw[awM];simp only[awJ,awt];omega
           cases AL with
           |false=>
            have hb:b0=true:=by rw[<-Hb0.o];rfl
            subst hb;go_wp2_with fail;go_meet
            case rel=>rfl
           |true=>
            by_cases hq:YJ<=j
            ·have X9:(YJ:Int)<=(j:Int):=J
             have hb:b0=true:=by rw[<-Hb0.o,decide_eq_true hq];rfl
             subst hb;go_wp2_with fail;go_meet
             case rel=>rfl
            ·have X9:¬(YJ:Int)<=(j:Int):=J
             have WO:=FN J;have hb:(!decide (min (k-60*j) 60=min (m-60*j) 60))=b0:=by rw[<-Hb0.o,awe hq];simp
             rw[<-WO]at hb;have Hb:=Z hb;have Cy:IntKind.i64.wrap ((j:Int)*60)=(j:Int)*60:=eZ J;clear hb WO FN;go_wp2_with fail;go_meet
             case rel=>rw[<-Hb.o];rfl
          case rest=>
           obtain rfl:=hcut;have O7:Hid (af w (wy.setCell ⟨ob2,j,none⟩ (.bool b0))/\World.blk (wy.setCell ⟨ob2,j,none⟩ (.bool b0)) ob (bY O) 4/\World.blk (wy.setCell ⟨ob2,j,none⟩ (.bool b0)) ob2 (bY ((fV O2 j).set j (b0||(dC O (j*60) 0).any id))) 4):=Z ⟨HI.1.setCell (p:=⟨ob2,j,none⟩) (.inr HN3.1) _,aZ HI.2.1 ⟨ob2,j,none⟩ eG _,by
            have:=tv HI.2.2 j b0;simpa[dC]using this⟩
           generalize wy.setCell ⟨ob2,j,none⟩ (.bool b0)=wx at*;have sy:(j:Int)<=69:=J
           have nR:j<(fV O2 j).length:=by rw[MN O2 J];exact Ox
           have Hpl:=Z nR;clear c0 f0 HI nR;go_wp2_with fail
           go_loopw [18] (λx wz=>∃ i:Nat,i<=60/\j*60+i<=k/\x=.int .i64 ((j*60+i:Nat):Int)/\Hid (af w wz/\World.blk wz ob (bY O) 4/\World.blk wz ob2 (bY ((fV O2 j).set j (b0||(dC O (j*60) i).any id))) 4)) (λx _=>k-(intOf x).toNat)
           case atStart=>exact⟨0,J,J,by go_num,O7⟩
           case round=>
            clear O7;obtain⟨wv,rfl⟩:∃ wv,wv=wr:=⟨_,rfl⟩
            obtain⟨i,hi,hik,rfl,Gj⟩:=hrel;have UI:IntKind.i64.wrap (((j:Int)+1)*60)=((j:Int)+1)*60:=eZ J;have Yy:=HS.len;by_cases hc:i<60/\j*60+i<k
            ·have Tu:((j*60+i:Nat):Int)<min (k:Int) (((j:Int)+1)*60):=J
             obtain⟨dW,aaY⟩:∃ dW,(b0||(dC O (j*60) i).any id)=dW:=⟨_,rfl⟩
             have aa3:=Rt (o:=O) (a:=j*60) (k:=i) J;obtain⟨x,hx⟩:∃ x,O[j*60+i]?=some x:=⟨_,av6 J⟩
             have Sz:O[j*60+i]'(by omega)=x:=by rw[av6 J]at hx;injection hx
             rw[Sz]at aa3;have pn:(b0||(dC O (j*60) (i+1)).any id)=(dW||x):=by rw[aa3,<-aaY,Bool.or_assoc]
             rw[aaY]at Gj;have c1:wv.cell? ⟨ob2,j,none⟩=some (.bool dW):=kQ Gj.2.2 (by rw[List.getElem?_set_self Hpl.o]);have f1:=ae Gj.2.2 ⟨ob2,j,none⟩ rfl;have c2:wv.cell? ⟨ob,j*60+i,none⟩=some (.bool x):=kQ Gj.2.1 hx;have HN:Hid (∀ y,y=(dW||x)->af w (wv.setCell ⟨ob2,j,none⟩ (.bool y))/\World.blk (wv.setCell ⟨ob2,j,none⟩ (.bool y)) ob (bY O) 4/\World.blk (wv.setCell ⟨ob2,j,none⟩ (.bool y)) ob2 (bY ((fV O2 j).set j (b0||(dC O (j*60) (i+1)).any id))) 4):=Z (λy hy=>⟨Gj.1.setCell (p:=⟨ob2,j,none⟩) (.inr HN3.1) _,aZ Gj.2.1 ⟨ob2,j,none⟩ eG _,by
              have h:=tv Gj.2.2 j y;rw[List.set_set,hy]at h;rw[pn,hy];exact h⟩)
             have B9:(k:Int)<=69:=J
             have Hik:=Z hc;have FZ:((j*60+i:Nat):Int)<(k:Int):=J
             clear aa3 aaY hx Sz pn hc;generalize Ju:j*60+i=pos at*;have JI:=Z Ju;clear Ju
             cases dW with
             |true=>
              go_wp2_with fail;exact⟨⟨i+1,by have:=Hik.o;omega,by have:=Hik.o;have:=JI.o;omega,by have:=JI.o;go_num,Z (HN.o true rfl)⟩,by simp[intOf];omega⟩
             |false=>
              go_wp2_with fail;exact⟨⟨i+1,by have:=Hik.o;omega,by have:=Hik.o;have:=JI.o;omega,by have:=JI.o;go_num,Z (HN.o x sp7)⟩,by simp[intOf];omega⟩
            ·have Tu:¬((j*60+i:Nat):Int)<min (k:Int) (((j:Int)+1)*60):=J
             have gN:dC O (j*60) 60=dC O (j*60) i:=by
              by_cases AE:i=60
              ·rw[AE]
              ·exact Ru J hi
             have sK:=Gj.2.2;rw[<-gN,Hb0.symm,show j*60=60*j by omega]at sK;have yV:(!AL||decide (YJ<=j)||decide (min (k-60*j) 60≠min (m-60*j) 60)||(dC O (60*j) 60).any id)=O2[j]:=(Tn.o j Ox).symm;rw[yV,<-xG Ox]at sK;have HI4:=Z (And.intro Gj.1 (And.intro Gj.2.1 sK));clear yV gN sK Gj;go_wp2_with fail;exact⟨⟨j+1,J,by go_num,HI4⟩,by simp[intOf];omega⟩
         ·obtain rfl:j=up:=J
          have e5:fV O2 j=O2:=by rw[<-HL2.o];exact An O2
          have fh:=HI.2.2;rw[e5]at fh;have B3:Hid (ZZ w AL total j YJ O2 ob2 ac AL wy):=Z ⟨HL2.o,J,fh,HI.1,HN3.1,by cases AL<;>rfl,by have h1:=HS.sum;rw[uM.o]at h1;have h2:=HAC.o;omega⟩;have HLT:=Z HUP.1;clear fh e5 HI Tn HL2 uM HUP aP hj;go_wp2_with fail;exact⟨⟨j,YJ,O2,ob2,ac,AL,rfl,rfl,rfl,rfl,rfl,B3⟩,by have:=HLT.o;simp[intOf];omega⟩
end
section
open Go.RowKit Go.Maps
attribute [local go_sem] av0
theorem adj (x y:Nt):decide (x=y)=(x.num==y.num&&(x.dir==y.dir&&(x.links==y.links&&x.data==y.data))):=by
 obtain⟨a,b,c,e⟩:=x;obtain⟨a',b',c',e'⟩:=y;rw[awM];simp
theorem IV (x y:Nt)(W:World):(Op.equalIn 10000 221 (kP x) (kP y)).run prog W=.ok (decide (x=y)) W:=by
 have u1:=underlying3;have u2:=underlying4;have u3:=underlying9;have hS:prog.underlying 221=some (.struct (prog.fieldsOf 221)):=kr7
 have hp:prog.stoodInHeld 221=false:=kr7
 rw[show(10000:Nat)=9999+1 from rfl,run_equalIn_agg W 9999 221 _ _ hS hp,adj];simp only[Program.fieldsOf,underlying221]
 go_simp
 by_cases h1:x.num=y.num<;>by_cases h2:x.dir=y.dir<;>by_cases h3:x.links=y.links<;>by_cases h4:x.data=y.data<;>simp[h1,h2,h3,h4]
theorem BF (x y:Nt)(W:World):(Op.equalIn 10000 221 (kP x) (kP y)).run prog W=.ok (decide (x=y)) W:=IV x y W
theorem us (va vb:Value)(l m:List Nt)(w:World)(ha:ms gt 4 w va l)(hb:ms gt 4 w vb m)(hl:l.length<=1000000)(_hm:m.length<=1000000):
  Calls prog 147 #[va,vb] w λe w'=>e=.returned (.bool (decide (l=m)))/\af w w':=by
 obtain⟨a,ca,rfl,hA⟩:=ha;obtain⟨b,cb,rfl,hB⟩:=hb;by_cases bt:l.length=m.length
 ·obtain⟨N,hN⟩:∃ N,m.length=N:=⟨_,rfl⟩
  rw[hN]at bt;rw[bt,hN];rw[bt]at hl;obtain⟨HA,HB,Tw,HN⟩:=K4 hA hB bt hN;clear hA hB bt hN _hm;have hq:((N:Int) != (N:Int))=false:=by rw[bne_eq_false_iff_eq]
  go_enter func147,ntmps147;go_wp2_with fail
  go_loopw [13] (λi wr=>∃(k n:Nat),k<=N/\i=.int .i64 (k:Int)/\wr=w.drewN n/\Hid (l.take k=m.take k)) (λi _=>N-(intOf i).toNat)
  case atStart=>exact⟨0,0,J,rfl,rfl,Z rfl⟩
  case round=>
   obtain⟨k,n,hk,rfl,rfl,Ht⟩:=hrel;by_cases aP:k<N
   ·have Hx:Hid (∃ x y,l[k]?=some x/\m[k]?=some y):=Z ⟨_,_,av6 (by rw[Tw.o];exact aP),av6 (by rw[HN.o];exact aP)⟩;obtain⟨x,y,hx,hy⟩:=Hx.o;obtain⟨Hxx,Hyy⟩:=K2 hx hy;obtain⟨b1,o1,rfl,c1⟩:=HA.o k x hx;obtain⟨b2,o2,rfl,c2⟩:=HB.o k y hy;have x0:=c1 0 _ rfl;have x1:=c1 1 _ rfl;have x2:=c1 2 _ rfl;have x3:=c1 3 _ rfl;have y0:=c2 0 _ rfl;have y1:=c2 1 _ rfl;have y2:=c2 2 _ rfl;have y3:=c2 3 _ rfl;rw[Nat.add_zero]at x0 y0;have heq:=BF x y;clear hx hy Hx c1 c2;go_wp2_with fail;refine cK kr7 kr7 ?_
    repeat (quiet_step (fail))
    refine awX ?_;intro _ bD;obtain⟨nq,rfl⟩:=bD;by_cases hxy:x=y
    ·rw[show decide (x=y)=true from decide_eq_true hxy];have Hxy:=Z hxy;clear hxy;go_wp2_with fail;refine⟨⟨k+1,_,J,by go_num,rfl,Z ?_⟩,by simp[intOf];omega⟩;rw[av8,av8,Ht.o,Hxx.o,Hyy.o,Hxy.o]
    ·rw[show decide (x=y)=false from awe hxy];have Xy:Hid (decide (l=m)=false):=Z (awe (λe=>hxy (by have hx:=Hxx.o;rw[e,Hyy.o]at hx;exact(axa hx).symm)));clear hxy;go_wp2;go_ret;exact⟨by rw[Xy.o];rfl,(ai.refl _ _).drewN _⟩
   ·have dK:k=N:=J
    have YO:decide (l=m)=true:=by
     rw[decide_eq_true_iff];have h1:=Ht.o;rw[dK]at h1
     rwa [awQ (by rw[Tw.o];exact av9 _),awQ (by rw[HN.o];exact av9 _)]at h1
    have Xy:=Z YO;clear dK YO;go_wp2;go_ret;exact⟨by rw[Xy.o];rfl,(ai.refl _ _).drewN _⟩
 ·have hq:((l.length:Int) != (m.length:Int))=true:=by rw[bne_iff_ne];omega
  have YO:decide (l=m)=false:=awe (λe=>bt (by rw[e]));have Xy:=Z YO;clear bt YO hA hB;go_enter func147,ntmps147;go_wp2;go_ret;exact⟨by rw[Xy.o];rfl,ai.refl _ _⟩
def Rw (v:Value):Option (DataW Value×List MemPlace):=match v with
 | .agg c=>match c.toList with
  |[.int .i64 _,.bool _,.int .i64 _,.string _]=>some (.held v,[])
  |_=>none
 |_=>none
theorem Rx:nM prog 221 Rw (λx=>.held (kP x)) kP (λ_=>True) ⟨0,false,0,[]⟩:=Al (mk:=kP) (λ_=>rfl) (λv y h=>by
  unfold Rw at h;split at h
  ·rename_i c
   split at h
   ·rename_i n d l s e
    refine⟨⟨n,d,l,s.data.toList⟩,?_⟩;unfold kP
    congr 1
    exact Array.ext' (by rw[e])
   ·cases h
  ·cases h) (λ_=>kr7) (λa b h=>by
  obtain⟨n,d,l,s⟩:=a;obtain⟨n',d',l',s'⟩:=b;simpa[kP]using h)
abbrev Ry (w:World)(b:Nat)(l:List (Int×Nt)):Prop:=eY prog 3 Rw (λx=>.held (kP x)) w b l
def oY (l:List Nt):List (Int×Nt):=l.foldl (λm y=>ee jS y.num y m) []
theorem qV (l:List Nt)(y:Nt):oY (l++[y])=ee jS y.num y (oY l):=by unfold oY;rw[List.foldl_append];rfl
theorem MT (l:List Nt)(k:Int):((bM k (oY l)).getD ⟨0,false,0,[]⟩).data=cF l k:=by
 have key:∀ l:List Nt,bM k (oY l)=(l.filter λx=>x.num==k).getLast?:=by
  refine pr ?_ ?_
  ·rfl
  ·intro l y ih;rw[qV,List.filter_append];by_cases h:y.num=k
   ·subst h;rw[j7,awd rfl];simp
   ·rw[j7,awf (Ne.symm h),ih];have:(y.num==k)=false:=by simpa using h
    simp[this]
 rw[key];unfold cF
 cases (l.filter λx=>x.num==k).getLast?<;>rfl
theorem MV:∀ l:List Nt,(oY l).length<=l.length:=by
 refine pr (av9 _) ?_;intro l y ih;rw[qV,awn,List.length_singleton];have:=py y.num y (oY l);split at this<;>omega
end
section
open Go.RowKit
attribute [local go_sem] av0
theorem lc.keep {w':World}{v:Vs}{a:eX}(h:lc w p v a)(k:af w w'):lc w' p v a:=h.same (k.on λ_ _=>id) k.size
theorem Ap {v:Vs}{a:eX}(h:lc w p v a)(hb:v.blocks<=4096):
  Calls prog 219 #[au p] w λe w'=>e=.returned (.int .i64 ((bP v:Nat):Int))/\af w w':=by
 have c12:w.cell? ⟨p,12,none⟩=some (au a.pm):=aa h.own 12;obtain⟨PB,SH⟩:=K2 (gX h.map) (tr v.blocks w J);unfold bP;clear h;go_enter func219,ntmps219;go_wp2_with fail;refine PB.mono ?_;rintro e w1 ⟨rfl,rfl⟩;go_wp2_with fail;refine SH.mono ?_;rintro e w2 ⟨rfl,k2⟩;have HK:=Z k2;clear k2;go_wp2;go_ret;exact⟨rfl,HK.o⟩
theorem MW {v:Vs}{a:eX}(h:lc w p v a)(h1:1<=v.blocks)(hu:(cT v.b.planes).length<=100000)(hn:∀ k,aq (cT v.b.planes) k=true->1<=k/\k<v.blocks):
  Calls prog 146 #[au p] w λe w'=>e=.returned (.int .i64 ((de v:Nat):Int))/\af w w':=by
 have c12:w.cell? ⟨p,12,none⟩=some (au a.pm):=aa h.own 12;have PF:=LZ h.map h1 hu;rw[MQ h1 hn]at PF;have PF:=Z PF;unfold de;clear h hn hu;go_enter func146,ntmps146;go_wp2_with fail;refine PF.mono ?_;rintro e w1 ⟨rfl,k1⟩;have HK:=Z k1;clear k1;go_wp2;go_ret;exact⟨rfl,HK.o⟩
theorem fF (h:b<=16384):aU b<=100:=by
 unfold aU;have h1:bQ b 240<=69:=(aL dc7).2 J;have h2:bQ (bQ b 240) 60<=2:=(aL dc7).2 J;rcases aN b with⟨_,e⟩|⟨_,_,e⟩|⟨_,_,e⟩|⟨_,e⟩<;>rw[e]<;>simp only[av4,List.sum_nil]<;>omega
theorem IW {v:Vs}{a:eX}(h:lc w p v a)(hb:v.blocks<=4096)(kind:Int):
  Calls prog 145 #[au p,.int .i64 kind] w λe w'=>e=.returned (.int .i64 ((cQ v kind:Nat):Int))/\af w w':=by
 have HO:=Z (Ap h hb);have hh:bP v<=100:=fF J;have hhi:(bP v:Int)<=100:=J
 have HH:=Z hh;clear h hh;unfold cQ;generalize bP v=H at*;by_cases h8:kind=8
 ·subst h8;go_enter func145,ntmps145;go_wp2;go_ret;exact⟨by simp,ai.refl _ _⟩
 ·rw[awf h8];have b8:(kind==8)=false:=by simpa using h8
  by_cases h3:kind=3
  ·subst h3;go_enter func145,ntmps145;go_wp2_with fail;refine HO.mono ?_;rintro e w1 ⟨rfl,k1⟩;have HK:=Z k1;clear k1;go_wp2;go_ret;exact⟨by simp,HK.o⟩
  ·have b3:(kind==3)=false:=by simpa using h3
   by_cases h6:kind=6
   ·subst h6;go_enter func145,ntmps145;go_wp2_with fail;refine HO.mono ?_;rintro e w1 ⟨rfl,k1⟩;have HK:=Z k1;clear k1;go_wp2;go_ret;exact⟨by simp,HK.o⟩
   ·have b6:(kind==6)=false:=by simpa using h6
    rw[awf (λh=>h.elim h3 h6)];go_enter func145,ntmps145;go_wp2_with fail;refine HO.mono ?_;rintro e w1 ⟨rfl,k1⟩;have HK:=Z k1;clear k1;go_wp2;go_ret;exact⟨by push_cast;rfl,HK.o⟩
theorem xI {v:Vs}{a:eX}(h:lc w p v a)(hl:v.b.list.length<=1000)(s:ay):
  Calls prog 66 #[au p,az s] w λe w'=>e=.returned (.int .i64 (xB (dt v s)))/\af w w':=by
 have hmf:∀(fn:Fn) (first cap:Array Value) (w:World),(Instr.makeFunc fn first cap).run prog w=.ok (.func fn first cap) w:=λ_ _ _ _=>rfl;have hk:=(ai.refl (λ_=>False) w).alloc (.cells #[az s] 9);have Zm:(w.alloc (.cells #[az s] 9)).cell? ⟨p,11,none⟩=some a.sv:=aa (h.keep hk).own 11;obtain⟨ID,HK⟩:=K2 (Ah v.b.list a.sv _ (cg jk (h.keep hk).list) hl (V2 (w.alloc (.cells #[az s] 9)) w.heap.size s v.b.list (aa (av w #[az s] 9) 0))) hk;unfold dt;clear h hk;go_enter func66,ntmps66;go_wp2_with fail;refine ID.mono ?_;rintro e w1 ⟨rfl,k1⟩;have cC:=Z (HK.keep k1);clear k1;go_wp2;go_ret;exact⟨rfl,cC.o⟩
end
end Go.Proofs.YtkghpdcloaiflaaGreatDoor
