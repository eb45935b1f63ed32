import Derived.Test.YtkghpdcloaiflaaGreatDoorB32
set_option maxHeartbeats 2000000
set_option maxRecDepth 100000
namespace Go.Proofs.YtkghpdcloaiflaaGreatDoor
open _root_.Go.Proofs.Tryz
def Kb (n:Nat):List Nat:=if n<=1 then []else if n<=60 then [1]else [bN n 60,1]
theorem ED {n:Nat}(h:2<=n)(h2:n<=3600):Kb n=bN n 60::Kb (bN n 60):=by
 unfold Kb;rw[ava (by omega:¬ n<=1)];by_cases h3:n<=60
 ·have:bN n 60=1:=by unfold bN;omega
  rw[au8 h3,this];rfl
 ·have h4:2<=bN n 60/\bN n 60<=60:=by unfold bN;omega
  rw[ava h3,ava (by omega),au8 h4.2]
theorem Vf {n:Nat}(h:n<=1):Kb n=[]:=au8 h
theorem Bt {n:Nat}(h:2<=n):bN n 60<n/\1<=bN n 60:=by unfold bN;omega
theorem qX (s:Nat)(h:1<=bN s 240):au s=bN s 240::Kb (bN s 240):=by
 unfold au Kb;simp only;rw[ava (by omega)];by_cases h1:bN s 240=1
 ·rw[au8 h1,au8 (by omega),h1]
 ·have h2:¬ bN s 240<=1:=by omega
  rw[ava h1];simp only[h2,if_false];split<;>rfl
def Bu (bg data:ay):Bool:=(au bg.length).length==(au data.length).length
theorem QY (bg data:ay):db bg data=l9 (i6 bg data)+cY (Bu bg data) (Kb (bN data.length 240)) (bN data.length 240) (bN bg.length 240) (i6 bg data):=by
 unfold db;by_cases h:bN data.length 240=0
 ·have e:au data.length=[]:=by unfold au;simp only;rw[au8 h]
  rw[e,h];have:i6 bg data=[]:=by unfold i6;rw[h];rfl
  rw[this];rfl
 ·rw[qX data.length (by omega)];simp only;rw[<-qX data.length (by omega)];rfl
theorem EE (a:Bool){n:Nat}(h:n<=1)(was:Nat)(o:List Bool):cY a (Kb n) n was o=0:=by
 rw[Vf h];rfl
theorem Bw (a:Bool){n:Nat}(h:2<=n)(h2:n<=3600)(was:Nat)(o:List Bool):
  cY a (Kb n) n was o=l9 (iA a (bN n 60) n was o)+cY a (Kb (bN n 60)) (bN n 60) (bN was 60) (iA a (bN n 60) n was o):=by
 rw[ED h h2];rfl
theorem MB {l:List Bool}{k:Nat}(h:k<l.length):l9 (l.take (k+1))=l9 (l.take k)+(if l[k]=true then 1 else 0):=by
 unfold l9;rw[au3,au1 h,List.filter_append];simp only[Option.toList_some,avi]
 congr 1
 cases l[k]<;>simp
theorem MC (l:List Bool):l9 l<=l.length:=avc _ _
def fZ (l:List Bool)(k:Nat):List Bool:=l.take k++List.replicate (l.length-k) false
theorem MD (l:List Bool){k:Nat}(h:k<=l.length):(fZ l k).length=l.length:=by simp[fZ];omega
theorem xE (l:List Bool):fZ l 0=List.replicate l.length false:=by simp[fZ]
theorem Ap (l:List Bool):fZ l l.length=l:=by simp[fZ]
theorem Aq {l:List Bool}{k:Nat}(h:k<l.length):(fZ l k)[k]?=some false:=by
 unfold fZ;rw[List.getElem?_append_right (by simp;omega)];simp[List.getElem?_replicate];omega
theorem xF {l:List Bool}{k:Nat}(h:k<l.length):fZ l (k+1)=(fZ l k).set k l[k]:=by
 unfold fZ;rw[List.set_append_right _ _ (by simp;omega)];have e1:k-(l.take k).length=0:=by simp;omega
 have e2:l.length-k=(l.length-(k+1))+1:=by omega
 rw[e1,e2,List.replicate_succ,List.set_cons_zero,au3,au1 h,avJ];rfl
theorem EF (bg data:ay):(i6 bg data).length=bN data.length 240:=by simp[i6]
theorem EG (bg data:ay){i:Nat}(h:i<(i6 bg data).length):(i6 bg data)[i]=decide (aO bg i≠aO data i):=by simp[i6]
theorem ME {s:ay}{i:Nat}(h:bN s.length 240<=i):aO s i=[]:=by
 unfold aO;have:s.length<=i*240:=by
  have:=(aI (n:=s.length) (each:=240) (k:=i) (by decide)).1 h;omega
 rw[awq this];rfl
theorem Iz {s:ay}{i:Nat}(h:i<bN s.length 240):aO s i≠[]:=by
 intro e;have h1:¬ s.length<=i*240:=fun h2=>by
  have:=(aI (n:=s.length) (each:=240) (k:=i) (by decide)).2 (by omega);omega
 unfold aO at e;have:=awe List.length e;simp at this;omega
theorem QZ (bg data:ay){i:Nat}(h:i<(i6 bg data).length)(h2:bN bg.length 240<=i):(i6 bg data)[i]=true:=by
 rw[EG,ME h2];have:=Iz (s:=data) (i:=i) (by rw[<-EF bg];exact h);simp[Ne.symm this]
theorem Q0 (a:Bool)(m n was:Nat)(o:List Bool):(iA a m n was o).length=m:=by simp[iA]
theorem Q5 (a:Bool)(m n was:Nat)(o:List Bool){i:Nat}(h:i<(iA a m n was o).length):
  (iA a m n was o)[i]=(!a||decide (bN was 60<=i)||decide (min (n-60*i) 60≠min (was-60*i) 60)||(dJ o (60*i) 60).any id):=by simp[iA]
theorem Q6 {o:List Bool}{a k:Nat}(h:a+k<o.length):(dJ o a (k+1)).any id=((dJ o a k).any id||o[a+k]):=by
 unfold dJ;rw[au3,av9,au1 h,List.any_append];simp
theorem Q7 {o:List Bool}{a k:Nat}(h:o.length<=a+k)(hk:k<=60):dJ o a 60=dJ o a k:=by
 unfold dJ;rw[avM (by simp;omega),avM (by simp;omega)]
theorem MF {U:ay}{n:Nat}(h1:1<=n)(hn:∀ k,am U k=true->1<=k/\k<n):(n:Int)-1-(jI U:Int)=(kT U n:Int):=by
 have e1:jI U=((List.range' 1 (n-1)).filter fun k=>am U k).length:=by
  unfold jI;refine List.Perm.length_eq ?_;have NP:((List.range' 1 (n-1)).filter fun k=>am U k).Nodup:=(List.nodup_range' (step:=1)).sublist List.filter_sublist;rw[List.perm_ext_iff_of_nodup (vx U) NP];intro k;rw[rE,auW,avZ]
  constructor
  ·intro h;have:=hn k h;exact⟨by omega,h⟩
  ·exact fun h=>h.2
 have key:∀ l:List Nat,(l.filter fun k=>am U k).length+(l.filter fun k=>!am U k).length=l.length:=by
  intro l
  induction l with
  |nil=>rfl
  |cons x r ih=>
   simp only[awd,au0]
   cases am U x<;>simp<;>omega
 have:=key (List.range' 1 (n-1));rw[List.length_range']at this;unfold kT;omega
section
open Go.RowKit
attribute [local go_sem] auV
theorem qY (n:Nat)(w:World)(hn:n<=1000000):
  Calls prog 273 #[.int .i64 (n:Int)] w fun e w'=>e=.returned (.int .i64 ((bN n 240:Nat):Int))/\w=w':=by
 have e1:((bN n 240:Nat):Int)=((n:Int)+240-1)/240:=by unfold bN;omega
 have e2:((n:Int)+240-1).tdiv 240=((n:Int)+240-1)/240:=awb (by omega);have b1:(n:Int)<=1000000:=by omega
 have hq:((n:Int)+240-1)/240<=1000240:=by omega
 have hq0:(0:Int)<=((n:Int)+240-1)/240:=by omega
 go_enter func273,ntmps273;go_wp2;go_ret;exact⟨by rw[e1];rfl,rfl⟩
theorem xG (s:List UInt8)(i:Nat)(w:World)(hs:s.length<=100000)(hi:i<=100000):
  Calls prog 274 #[.string ⟨s.toArray⟩,.int .i64 (i:Int)] w fun e w'=>e=.returned (.string ⟨(aO s i).toArray⟩)/\w'=w:=by
 have Yk:(s.length:Int)<=100000:=by omega
 have hii:(i:Int)<=100000:=by omega
 have w1:IntKind.i64.wrap ((i:Int)*240)=(i:Int)*240:=fi (by omega);obtain⟨f,hf⟩:∃ f,min s.length (i*240)=f:=⟨_,rfl⟩
 have m1:min (s.length:Int) ((i:Int)*240)=(f:Int):=by omega
 have hfi:(f:Int)<=100000:=by omega
 have w2:IntKind.i64.wrap ((f:Int)+240)=(f:Int)+240:=fi (by omega);obtain⟨q,hq⟩:∃ q,min s.length (f+240)=q:=⟨_,rfl⟩
 have m2:min (s.length:Int) ((f:Int)+240)=(q:Int):=by omega
 have hcut:=fun W=>AV s f q (f:Int) (q:Int) rfl rfl (by omega) (by omega) W;have e:(s.drop f).take (q-f)=aO s i:=by
  unfold aO;by_cases h:i*240<=s.length
  ·have:f=i*240:=by omega
   rw[this,List.take_eq_take_iff];simp;omega
  ·rw[awq (show s.length<=f by omega),awq (by omega)];simp
 have He:=hd0 e;clear e hf hq;go_enter func274,ntmps274;go_wp2;go_ret;exact⟨by rw[<-He.out];rfl,rfl⟩
def tt (n:Nat):Nat:=if n=0 then 0 else 1+(Kb n).length
theorem EH (s:Nat):tt (bN s 240)=(au s).length:=by
 unfold tt;split
 ·rename_i h
  unfold au;simp[h]
 ·rw[qX s (by omega)];simp;omega
theorem MG {n:Nat}(h:2<=n)(h2:n<=3600):tt n=1+tt (bN n 60):=by
 have h3:=Bt h;unfold tt;rw[ava (by omega),ava (by omega),ED h h2];simp;omega
theorem Vg (n:Nat):tt n<=3:=by
 unfold tt Kb;split
 ·omega
 ·split
  ·simp
  ·split<;>simp
theorem ul (s:Nat)(w:World)(hs:s<=16384):
  Calls prog 275 #[.int .i64 (s:Int)] w fun e w'=>e=.returned (.int .i64 (((au s).length:Nat):Int))/\w=w':=by
 have CH:=hd0 (qY s w (by omega));rw[<-EH];have hn:bN s 240<=100:=(aI (by decide)).2 (by omega);generalize bN s 240=n at*;go_enter func275,ntmps275;go_wp2_with fail;refine CH.out.mono ?_;rintro e w1 ⟨rfl,rfl⟩;go_wp2_with fail;have Kq:=Vg n
 go_loopw [3,4] (fun x y wr=>∃ m k:Nat,x=.int .i64 (m:Int)/\y=.int .i64 (k:Int)/\m<=100/\k+tt m=tt n/\wr=w) (fun x _ _=>(intOf x).toNat)
 case atStart=>exact⟨n,0,rfl,rfl,hn,by omega,rfl⟩
 case round=>
  obtain⟨m,k,rfl,rfl,hm,hk,rfl⟩:=hrel;have hmi:(m:Int)<=100:=by omega
  have BX:(k:Int)<=3:=by omega
  by_cases h0:m=0
  ·subst h0;have e:k=tt n:=by rw[<-hk];simp[tt]
   go_wp2;go_ret;exact⟨by rw[e];rfl,rfl⟩
  ·have h0i:(0:Int)<(m:Int):=by omega
   by_cases h1:m=1
   ·subst h1;have e:((k:Int)+1)=(tt n:Int):=by rw[<-hk];simp[tt,Kb]
    go_wp2;go_ret;exact⟨by rw[<-e];rfl,rfl⟩
   ·have h1b:((m:Int)==1)=false:=by simp;omega
    have dr:=MG (n:=m) (by omega) (by omega);have Xl:=Bt (n:=m) (by omega);have e1:((bN m 60:Nat):Int)=((m:Int)+60-1)/60:=by unfold bN;omega
    have e2:((m:Int)+60-1).tdiv 60=((m:Int)+60-1)/60:=awb (by omega);have hq:((m:Int)+60-1)/60<=160:=by omega
    have hq0:(0:Int)<=((m:Int)+60-1)/60:=by omega
    have HE:=hd0 e1;have HH:=hd0 (And.intro dr (And.intro Xl (And.intro hk hm)));clear dr Xl hk e1 Kq hn;go_wp2_with fail;obtain⟨h5,h6,h7,h8⟩:=HH.out;refine⟨⟨bN m 60,k+1,by rw[HE.out],by go_num,by omega,by omega,trivial⟩,?_⟩;have h9:=HE.out;simp only[intOf];rw[<-h9];omega
end
section
open Go.RowKit
attribute [local go_sem] auV
def bY (l:List Bool):Array Value:=(l.map Value.bool).toArray
theorem IA (l:List Bool)(k:Nat)(b:Bool):(bY l).setIfInBounds k (.bool b)=bY (l.set k b):=by simp[bY,List.map_set]
theorem IB {l:List Bool}{k:Nat}{b:Bool}(h:l[k]?=some b):(bY l)[k]?=some (.bool b):=by simp[bY,h]
theorem MH:(prog.info? 4).map (fun i=>(i.zero,i.size,i.bytes))=some (some (.bool false),1,1):=by kernel_rfl
theorem pn (n:Nat)(hn:n<=100000)(W:World):
  (Instr.makeSlice 362 (.int .i64 (n:Int)) (.int .i64 (n:Int))).run prog W=.ok (.slice (some ⟨W.heap.size,0,none⟩) n n) (W.alloc (.cells (bY (List.replicate n false)) 4)):=by
 have h:=run_make_row' (P:=prog) 362 4 (.bool false) 1 underlying362 MH rfl .i64 .i64 n (by omega) (by omega) W;have e:madeCells #[Value.bool false] n=bY (List.replicate n false):=by
  have:=rB (.bool false) rfl n;simp only[bY,List.map_replicate]at this ⊢;rw[show(#[Value.bool false]:Array Value)=(Value.bool false).cells from rfl,this];simp
 rw[e]at h;exact h
theorem ln {w:World}{b:Nat}{l:List Bool}{t:TypeId}(h:World.blk w b (bY l) t){k:Nat}{x:Bool}(hk:l[k]?=some x):w.cell? ⟨b,k,none⟩=some (.bool x):=by
 rw[aa h k];exact IB hk
theorem tu {w:World}{b:Nat}{l:List Bool}{t:TypeId}(h:World.blk w b (bY l) t)(k:Nat)(x:Bool):World.blk (w.setCell ⟨b,k,none⟩ (.bool x)) b (bY (l.set k x)) t:=by
 rw[<-IA];exact ag h k _
structure Ze (w:World)(AL:Bool)(total n m:Nat)(O:List Bool)(ob dw:Nat)(a:Bool)(wr:World):Prop where
 len:O.length=n
 few:n<=69/\m<=69
 blk:World.blk wr ob (bY O) 4
 keep:af w wr
 new:w.heap.size<=ob
 al:(a&&AL)=AL
 sum:dw+(l9 O+cY AL (Kb n) n m O)=total
theorem Q8 (old data:ay)(ho:old.length<=16384)(hd:data.length<=16384)(w:World):
  Calls prog 220 #[ax old,ax data] w fun e w'=>e=.returned (.int .i64 ((db old data:Nat):Int))/\af w w':=by
 have C1:=hd0 (qY data.length w (by omega));have C2:=hd0 (qY old.length w (by omega));have PO:=hd0 (fun(i:Nat) (hi:i<=1000) W=>xG old i W (by omega) (by omega));have PD:=hd0 (fun(i:Nat) (hi:i<=1000) W=>xG data i W (by omega) (by omega));have LO:=hd0 (fun W=>ul old.length W ho);have LD:=hd0 (fun W=>ul data.length W hd);have hn:bN data.length 240<=69:=(aI (by decide)).2 (by omega);have hm:bN old.length 240<=69:=(aI (by decide)).2 (by omega);have HC:=hd0 (QY old data);have HO:=hd0 (EF old data);have HG:=hd0 (fun i h=>EG old data (i:=i) h);have HT:=hd0 (fun i h=>QZ old data (i:=i) h);have HA:Hid (Bu old data=(((au old.length).length:Int)==((au data.length).length:Int))):=hd0 (by unfold Bu;rw[avI];simp;omega);have akv:Hid (db old data<=1000):=hd0 (by
  refine auX (gw old data) ?_;unfold aR;have h2:bN (bN data.length 240) 60<=2:=(aI (by decide)).2 (by omega);rcases aM data.length with⟨_,e⟩|⟨_,_,e⟩|⟨_,_,e⟩|⟨_,e⟩<;>rw[e]<;>simp only[auZ,List.sum_nil]<;>omega)
 have HN:=hd0 (And.intro hn hm);generalize bN data.length 240=n at*;generalize bN old.length 240=m at*;generalize i6 old data=O at*;generalize db old data=total at*;generalize Bu old data=AL at*;have oe:=pn n (by omega) w;clear ho hd hn hm;go_enter func220,ntmps220;go_wp2_with fail;refine C1.out.mono ?_;rintro e w1 ⟨rfl,rfl⟩;go_wp2_with fail;refine C2.out.mono ?_;rintro e w1 ⟨rfl,rfl⟩;go_wp2_with fail;have HB:Hid (World.blk (w.alloc (.cells (bY (List.replicate n false)) 4)) w.heap.size (bY (fZ O 0)) 4):=hd0 (by rw[xE,HO.out];exact av _ _ _);have HK:Hid (af w (w.alloc (.cells (bY (List.replicate n false)) 4))):=hd0 ((ah.refl _ w).alloc _);obtain⟨ob,ij⟩:∃ ob,w.heap.size=ob:=⟨_,rfl⟩
 have yv:=hd0 ij;rw[ij]at HB;rw[ij];clear ij oe C1 C2;generalize (w.alloc (.cells (bY (List.replicate n false)) 4))=w0 at*;have hnI:(n:Int)<=69:=by have:=HN.out.1;omega
 go_loopw [28] (fun i wr=>∃ k:Nat,k<=n/\i=.int .i64 (k:Int)/\af w wr/\World.blk wr ob (bY (fZ O k)) 4) (fun i _=>n-(intOf i).toNat)
 case atStart=>exact⟨0,by omega,rfl,HK.out,HB.out⟩
 case round=>
  clear HK HB;obtain⟨k,hk,rfl,hK,hB⟩:=hrel;have HK:=hd0 hK;have HB:=hd0 hB;clear hK hB;by_cases aL:k<n
  ·have dU:(k:Int)<(n:Int):=by omega
   have zk:k<O.length:=by rw[HO.out];exact aL
   have c0:wr.cell? ⟨ob,k,none⟩=some (.bool false):=ln HB.out (Aq zk);have f0:=ae HB.out ⟨ob,k,none⟩ rfl;have uG:Hid (∀ x,O[k]=x->∃ k':Nat,k'<=n/\Value.int .i64 ((k:Int)+1)=.int .i64 (k':Int)/\k'=k+1/\af w (wr.setCell ⟨ob,k,none⟩ (.bool x))/\World.blk (wr.setCell ⟨ob,k,none⟩ (.bool x)) ob (bY (fZ O k')) 4):=hd0 (fun x hx=>by
    refine⟨k+1,by omega,by go_num,rfl,HK.out.setCell (p:=⟨ob,k,none⟩) (.inr (by rw[yv.out];exact au4 _)) _,?_⟩;rw[xF zk,hx];exact tu HB.out k x)
   by_cases hw:m<=k
   ·have hwi:(m:Int)<=(k:Int):=by omega
    have hx:=HT.out k zk hw;go_wp2_with fail;obtain⟨k',h1,h2,h3,h4,h5⟩:=uG.out true hx;exact⟨⟨k',h1,h2,h4,h5⟩,by simp[intOf];omega⟩
   ·have hwi:¬(m:Int)<=(k:Int):=by omega
    have P1:=hd0 (PO.out k (by omega));have P2:=hd0 (PD.out k (by omega));have hx:=HG.out k zk;have HX:=hd0 hx;clear hx;go_wp2_with fail;refine(P1.out _).mono ?_;rintro e w2 ⟨rfl,rfl⟩;go_wp2_with fail;refine(P2.out _).mono ?_;rintro e w3 ⟨rfl,rfl⟩;go_wp2_with fail;obtain⟨k',h1,h2,h3,h4,h5⟩:=uG.out (decide (aO old k≠aO data k)) HX.out;have e:(!(aO old k==aO data k))=decide (aO old k≠aO data k):=by by_cases h:aO old k=aO data k<;>simp[h]
    rw[<-e]at h4 h5;exact⟨⟨k',h1,h2,h4,h5⟩,by simp[intOf];omega⟩
  ·obtain rfl:k=n:=by omega
   have hB:=HB.out;have e1:fZ O k=O:=by rw[<-HO.out];exact Ap O
   rw[e1]at hB;have HS:Hid (Ze w AL total k m O ob 0 true wr):=hd0 ⟨HO.out,HN.out,hB,HK.out,by rw[yv.out];exact au4 _,rfl,by rw[HC.out];omega⟩;clear hB e1 HB HK HC HO HG HT yv aL hk PO PD;go_wp2_with fail
   go_loopw [5,6,8,10,11] (fun x y s c t wz=>∃(n m:Nat) (O:List Bool) (ob dw:Nat) (a:Bool),x=.int .i64 (n:Int)/\y=.int .i64 (m:Int)/\s=.slice (some ⟨ob,0,none⟩) n n/\c=.int .i64 (dw:Int)/\t=.bool a/\Hid (Ze w AL total n m O ob dw a wz)) (fun x _ _ _ _ _=>(intOf x).toNat)
   case atStart=>exact⟨k,m,O,ob,0,true,rfl,rfl,rfl,rfl,rfl,HS⟩
   case round=>
    clear HS HN;obtain⟨wq,rfl⟩:∃ wq,wq=wr:=⟨_,rfl⟩
    obtain⟨n,m,O,ob,dw,a,rfl,rfl,rfl,rfl,rfl,HS⟩:=hrel;have hn:=HS.out.few.1;have hnI:(n:Int)<=69:=by omega
    have hmI:(m:Int)<=69:=by have:=HS.out.few.2;omega
    have yl:dw+l9 O<=1000:=by have:=HS.out.sum;have:=akv.out;omega
    go_wp2_with fail
    go_loopw [51,10] (fun i c wz=>∃ k:Nat,k<=n/\i=.int .i64 (k:Int)/\c=.int .i64 ((dw+l9 (O.take k):Nat):Int)/\wz=wq) (fun i _ _=>n-(intOf i).toNat)
    case atStart=>exact⟨0,by omega,rfl,by simp[l9],rfl⟩
    case round=>
     obtain⟨k,hk,rfl,rfl,rfl⟩:=hrel;by_cases aL:k<n
     ·have zk:k<O.length:=by rw[HS.out.len];exact aL
      have dU:(k:Int)<(n:Int):=by omega
      have c0:wr.cell? ⟨ob,k,none⟩=some (.bool O[k]):=ln HS.out.blk (au1 zk);have hct:=MB zk;have AF:=MC (O.take k);have BJ:(O.take k).length<=69:=by rw[au7];omega
      have RP:((dw+l9 (O.take k):Nat):Int)<=2000:=by omega
      obtain⟨x,hx⟩:∃ x,O[k]=x:=⟨_,rfl⟩
      rw[hx]at c0 hct;have HCT:=hd0 hct;clear hct hx AF BJ;generalize hcc:dw+l9 (O.take k)=cc at*;have Hcc:=hd0 hcc;clear hcc
      cases x with
      |true=>
       go_wp2_with fail;exact⟨⟨k+1,by omega,by go_num,by rw[HCT.out,au8 rfl,<-avg,Hcc.out];go_num,trivial⟩,by simp[intOf];omega⟩
      |false=>
       go_wp2_with fail;exact⟨⟨k+1,by omega,by go_num,by rw[HCT.out];simp[Hcc.out],trivial⟩,by simp[intOf];omega⟩
     ·obtain rfl:k=n:=by omega
      rw[avM (by rw[HS.out.len];exact au4 _)];clear aL hk;obtain⟨ac,hac⟩:∃ ac,dw+l9 O=ac:=⟨_,rfl⟩
      rw[hac]at yl ⊢;have HAC:=hd0 hac;clear hac;by_cases h1:k<=1
      ·have h1i:(k:Int)<=1:=by omega
       have hs:=HS.out.sum;rw[EE AL h1]at hs;have e:ac=total:=by have:=HAC.out;omega
       clear hs;go_wp2;go_ret;exact⟨by rw[<-e];rfl,HS.out.keep⟩
      ·have h1i:¬(k:Int)<=1:=by omega
       have dr:=Bw AL (n:=k) (by omega) (by omega) m O;have yk:=Bt (n:=k) (by omega);have afj:=fun j=>aI (n:=k) (each:=60) (k:=j) (by decide);have aeD:=fun j=>aI (n:=m) (each:=60) (k:=j) (by decide);have e1:((k:Int)+60-1)/60=((bN k 60:Nat):Int):=by unfold bN;omega
       have e2:((k:Int)+60-1).tdiv 60=((k:Int)+60-1)/60:=awb (by omega);have e3:((m:Int)+60-1)/60=((bN m 60:Nat):Int):=by unfold bN;omega
       have e4:((m:Int)+60-1).tdiv 60=((m:Int)+60-1)/60:=awb (by omega);rw[e1]at e2;rw[e3]at e4;have N6:=hd0 (fun i h=>Q5 AL (bN k 60) k m O (i:=i) h);have Om:=hd0 (Q0 AL (bN k 60) k m O);have HUK:=hd0 afj;have HUM:=hd0 aeD;have uG:=hd0 dr;have HUP:=hd0 yk;have hu1:((bN k 60:Nat):Int)<=69:=by omega
       have hu2:((bN m 60:Nat):Int)<=69:=by unfold bN;omega
       clear dr yk afj aeD e1 e3;generalize bN k 60=up at*;generalize bN m 60=XW at*;generalize iA AL up k m O=O2 at*
       go_upto_region 20 with fail
       go_cut [11]from 49 to 136 (fun x wx=>x=.bool AL/\wx=wr)
       case first=>
        cases a with
        |false=>
         have ON:AL=false:=by have:=HS.out.al;simpa using this.symm
         go_wp2_with fail;go_meet
         case rel=>exact⟨by rw[ON],rfl⟩
        |true=>
         go_wp2_with fail;refine(LO.out _).mono ?_;rintro e w1 ⟨rfl,rfl⟩;go_wp2_with fail;refine(LD.out _).mono ?_;rintro e w1 ⟨rfl,rfl⟩;go_wp2_with fail;go_meet
         case rel=>exact⟨by rw[HA.out],rfl⟩
       case rest=>
        obtain⟨rfl,hwc⟩:=hcut;rw[hwc];clear hwc;have oe:=pn up (by omega) wr;go_wp2_with fail;have mZ:af wr (wr.alloc (.cells (bY (List.replicate up false)) 4)):=(ah.refl _ wr).alloc _;have HN3:Hid (w.heap.size<=wr.heap.size/\ob<wr.heap.size):=hd0 ⟨HS.out.keep.size,ak HS.out.blk⟩;have HI:Hid (af w (wr.alloc (.cells (bY (List.replicate up false)) 4))/\World.blk (wr.alloc (.cells (bY (List.replicate up false)) 4)) ob (bY O) 4/\World.blk (wr.alloc (.cells (bY (List.replicate up false)) 4)) wr.heap.size (bY (fZ O2 0)) 4):=
         hd0 ⟨HS.out.keep.keep mZ,ab mZ HS.out.blk id,by rw[xE,Om.out];exact av _ _ _⟩
        generalize wr.alloc (.cells (bY (List.replicate up false)) 4)=w1 at*;generalize wr.heap.size=ob2 at*;clear oe mZ
        go_loopw [83] (fun i wz=>∃ j:Nat,j<=up/\i=.int .i64 (j:Int)/\Hid (af w wz/\World.blk wz ob (bY O) 4/\World.blk wz ob2 (bY (fZ O2 j)) 4)) (fun i _=>up-(intOf i).toNat)
        case atStart=>exact⟨0,by omega,rfl,HI⟩
        case round=>
         clear HI;obtain⟨wy,rfl⟩:∃ wy,wy=wr:=⟨_,rfl⟩
         obtain⟨j,hj,rfl,HI⟩:=hrel;have dV:ob≠ob2:=by have:=HN3.out.2;omega
         by_cases aL:j<up
         ·have dU:(j:Int)<(up:Int):=by omega
          have Oa:j<O2.length:=by rw[Om.out];exact aL
          have yb:j*60<k:=by have:=HUK.out j;omega
          have hjb:XW<=j↔m<=j*60:=HUM.out j;have c0:wy.cell? ⟨ob2,j,none⟩=some (.bool false):=ln HI.out.2.2 (Aq Oa);have f0:=ae HI.out.2.2 ⟨ob2,j,none⟩ rfl;have ye:=N6.out j Oa;obtain⟨b0,iI⟩:∃ b0,(!AL||decide (XW<=j)||decide (min (k-60*j) 60≠min (m-60*j) 60))=b0:=⟨_,rfl⟩
          rw[iI]at ye;have Hg2:=hd0 ye;have Hb0:=hd0 iI;clear ye iI
          go_upto_region 25 with fail
          go_cut []from 84 to 133 (fun wx=>wx=wy.setCell ⟨ob2,j,none⟩ (.bool b0))
          case first=>
           have Fx:j*60<m->(min ((k:Int)-(j:Int)*60) 60==min ((m:Int)-(j:Int)*60) 60)=decide (min (k-60*j) 60=min (m-60*j) 60):=fun h=>by
            rw[avI];simp only[avF,avo];omega
           cases AL with
           |false=>
            have hb:b0=true:=by rw[<-Hb0.out];rfl
            subst hb;go_wp2_with fail;go_meet
            case rel=>rfl
           |true=>
            by_cases hq:XW<=j
            ·have Yg:(XW:Int)<=(j:Int):=by omega
             have hb:b0=true:=by rw[<-Hb0.out,decide_eq_true hq];rfl
             subst hb;go_wp2_with fail;go_meet
             case rel=>rfl
            ·have Yg:¬(XW:Int)<=(j:Int):=by omega
             have V3:=Fx (by omega);have hb:(!decide (min (k-60*j) 60=min (m-60*j) 60))=b0:=by rw[<-Hb0.out,au9 hq];simp
             rw[<-V3]at hb;have Hb:=hd0 hb;have Cq:IntKind.i64.wrap ((j:Int)*60)=(j:Int)*60:=fi (by omega);clear hb V3 Fx;go_wp2_with fail;go_meet
             case rel=>rw[<-Hb.out];rfl
          case rest=>
           obtain rfl:=hcut;have OI:Hid (af w (wy.setCell ⟨ob2,j,none⟩ (.bool b0))/\World.blk (wy.setCell ⟨ob2,j,none⟩ (.bool b0)) ob (bY O) 4/\World.blk (wy.setCell ⟨ob2,j,none⟩ (.bool b0)) ob2 (bY ((fZ O2 j).set j (b0||(dJ O (j*60) 0).any id))) 4):=hd0 ⟨HI.out.1.setCell (p:=⟨ob2,j,none⟩) (.inr HN3.out.1) _,bE HI.out.2.1 ⟨ob2,j,none⟩ dV _,by
            have:=tu HI.out.2.2 j b0;simpa[dJ]using this⟩
           generalize wy.setCell ⟨ob2,j,none⟩ (.bool b0)=wx at*;have sq:(j:Int)<=69:=by omega
           have nQ:j<(fZ O2 j).length:=by rw[MD O2 (by omega)];exact Oa
           have Hpl:=hd0 nQ;clear c0 f0 HI nQ;go_wp2_with fail
           go_loopw [18] (fun x wz=>∃ i:Nat,i<=60/\j*60+i<=k/\x=.int .i64 ((j*60+i:Nat):Int)/\Hid (af w wz/\World.blk wz ob (bY O) 4/\World.blk wz ob2 (bY ((fZ O2 j).set j (b0||(dJ O (j*60) i).any id))) 4)) (fun x _=>k-(intOf x).toNat)
           case atStart=>exact⟨0,by omega,by omega,by go_num,OI⟩
           case round=>
            clear OI;obtain⟨wv,rfl⟩:∃ wv,wv=wr:=⟨_,rfl⟩
            obtain⟨i,hi,hik,rfl,FG⟩:=hrel;have TE:IntKind.i64.wrap (((j:Int)+1)*60)=((j:Int)+1)*60:=fi (by omega);have Yy:=HS.out.len;by_cases hc:i<60/\j*60+i<k
            ·have RP:((j*60+i:Nat):Int)<min (k:Int) (((j:Int)+1)*60):=by omega
             obtain⟨d7,abq⟩:∃ d7,(b0||(dJ O (j*60) i).any id)=d7:=⟨_,rfl⟩
             have aa1:=Q6 (o:=O) (a:=j*60) (k:=i) (by omega);obtain⟨x,hx⟩:∃ x,O[j*60+i]?=some x:=⟨_,au1 (by omega)⟩
             have R7:O[j*60+i]'(by omega)=x:=by rw[au1 (by omega)]at hx;injection hx
             rw[R7]at aa1;have pA:(b0||(dJ O (j*60) (i+1)).any id)=(d7||x):=by rw[aa1,<-abq,Bool.or_assoc]
             rw[abq]at FG;have c1:wv.cell? ⟨ob2,j,none⟩=some (.bool d7):=ln FG.out.2.2 (by rw[List.getElem?_set_self Hpl.out]);have f1:=ae FG.out.2.2 ⟨ob2,j,none⟩ rfl;have c2:wv.cell? ⟨ob,j*60+i,none⟩=some (.bool x):=ln FG.out.2.1 hx;have HN:Hid (∀ y,y=(d7||x)->af w (wv.setCell ⟨ob2,j,none⟩ (.bool y))/\World.blk (wv.setCell ⟨ob2,j,none⟩ (.bool y)) ob (bY O) 4/\World.blk (wv.setCell ⟨ob2,j,none⟩ (.bool y)) ob2 (bY ((fZ O2 j).set j (b0||(dJ O (j*60) (i+1)).any id))) 4):=hd0 (fun y hy=>⟨FG.out.1.setCell (p:=⟨ob2,j,none⟩) (.inr HN3.out.1) _,bE FG.out.2.1 ⟨ob2,j,none⟩ dV _,by
              have h:=tu FG.out.2.2 j y;rw[List.set_set,hy]at h;rw[pA,hy];exact h⟩)
             have BX:(k:Int)<=69:=by omega
             have Hik:=hd0 hc;have AE:((j*60+i:Nat):Int)<(k:Int):=by omega
             clear aa1 abq hx R7 pA hc;generalize yg:j*60+i=pos at*;have zc:=hd0 yg;clear yg
             cases d7 with
             |true=>
              go_wp2_with fail;exact⟨⟨i+1,by have:=Hik.out;omega,by have:=Hik.out;have:=zc.out;omega,by have:=zc.out;go_num,hd0 (HN.out true rfl)⟩,by simp[intOf];omega⟩
             |false=>
              go_wp2_with fail;exact⟨⟨i+1,by have:=Hik.out;omega,by have:=Hik.out;have:=zc.out;omega,by have:=zc.out;go_num,hd0 (HN.out x (by simp))⟩,by simp[intOf];omega⟩
            ·have RP:¬((j*60+i:Nat):Int)<min (k:Int) (((j:Int)+1)*60):=by omega
             have gQ:dJ O (j*60) 60=dJ O (j*60) i:=by
              by_cases sK:i=60
              ·rw[sK]
              ·exact Q7 (by omega) hi
             have uJ:=FG.out.2.2;rw[<-gQ,Hb0.out.symm,show j*60=60*j by omega]at uJ;have yU:(!AL||decide (XW<=j)||decide (min (k-60*j) 60≠min (m-60*j) 60)||(dJ O (60*j) 60).any id)=O2[j]:=(N6.out j Oa).symm;rw[yU,<-xF Oa]at uJ;have HI4:=hd0 (And.intro FG.out.1 (And.intro FG.out.2.1 uJ));clear yU gQ uJ FG;go_wp2_with fail;exact⟨⟨j+1,by omega,by go_num,HI4⟩,by simp[intOf];omega⟩
         ·obtain rfl:j=up:=by omega
          have e5:fZ O2 j=O2:=by rw[<-Om.out];exact Ap O2
          have eV:=HI.out.2.2;rw[e5]at eV;have Ck:Hid (Ze w AL total j XW O2 ob2 ac AL wy):=hd0 ⟨Om.out,by omega,eV,HI.out.1,HN3.out.1,by cases AL<;>rfl,by have h1:=HS.out.sum;rw[uG.out]at h1;have h2:=HAC.out;omega⟩;have HLT:=hd0 HUP.out.1;clear eV e5 HI N6 Om uG HUP aL hj;go_wp2_with fail;exact⟨⟨j,XW,O2,ob2,ac,AL,rfl,rfl,rfl,rfl,rfl,Ck⟩,by have:=HLT.out;simp[intOf];omega⟩
end
section
open Go.RowKit Go.Maps
attribute [local go_sem] auV
theorem acG (x y:Nt):decide (x=y)=(x.num==y.num&&(x.dir==y.dir&&(x.links==y.links&&x.data==y.data))):=by
 obtain⟨a,b,c,e⟩:=x;obtain⟨a',b',c',e'⟩:=y;rw[avI];simp
theorem IC (x y:Nt)(W:World):(Op.equalIn 10000 221 (lg x) (lg y)).run prog W=.ok (decide (x=y)) W:=by
 have u1:=underlying3;have u2:=underlying4;have u3:=underlying9;have hS:prog.underlying 221=some (.struct (prog.fieldsOf 221)):=by kernel_rfl
 have hp:prog.stoodInHeld 221=false:=by kernel_rfl
 rw[show(10000:Nat)=9999+1 from rfl,run_equalIn_agg W 9999 221 _ _ hS hp,acG];simp only[Program.fieldsOf,underlying221]
 go_simp
 by_cases h1:x.num=y.num<;>by_cases h2:x.dir=y.dir<;>by_cases h3:x.links=y.links<;>by_cases h4:x.data=y.data<;>simp[h1,h2,h3,h4]
theorem By (x y:Nt)(W:World):(Op.equalIn 10000 221 (lg x) (lg y)).run prog W=.ok (decide (x=y)) W:=IC x y W
theorem um (va vb:Value)(l m:List Nt)(w:World)(ha:mC gx 4 w va l)(hb:mC gx 4 w vb m)(hl:l.length<=1000000)(_hm:m.length<=1000000):
  Calls prog 147 #[va,vb] w fun e w'=>e=.returned (.bool (decide (l=m)))/\af w w':=by
 obtain⟨a,ca,rfl,hA⟩:=ha;obtain⟨b,cb,rfl,hB⟩:=hb;by_cases bA:l.length=m.length
 ·obtain⟨N,hN⟩:∃ N,m.length=N:=⟨_,rfl⟩
  rw[hN]at bA;rw[bA,hN];rw[bA]at hl;have HA:=hd0 hA;have HB:=hd0 hB;have SD:=hd0 bA;have HN:=hd0 hN;clear hA hB bA hN;have hq:((N:Int) != (N:Int))=false:=by rw[bne_eq_false_iff_eq]
  go_enter func147,ntmps147;go_wp2_with fail
  go_loopw [13] (fun i wr=>∃(k n:Nat),k<=N/\i=.int .i64 (k:Int)/\wr=w.drewN n/\Hid (l.take k=m.take k)) (fun i _=>N-(intOf i).toNat)
  case atStart=>exact⟨0,0,by omega,rfl,rfl,hd0 rfl⟩
  case round=>
   obtain⟨k,n,hk,rfl,rfl,Ht⟩:=hrel;by_cases aL:k<N
   ·have Hx:Hid (∃ x y,l[k]?=some x/\m[k]?=some y):=hd0 ⟨_,_,au1 (by rw[SD.out];exact aL),au1 (by rw[HN.out];exact aL)⟩;obtain⟨x,y,hx,hy⟩:=Hx.out;have Hxx:=hd0 hx;have Hyy:=hd0 hy;obtain⟨b1,o1,rfl,c1⟩:=HA.out k x hx;obtain⟨b2,o2,rfl,c2⟩:=HB.out k y hy;have x0:=c1 0 _ rfl;have x1:=c1 1 _ rfl;have x2:=c1 2 _ rfl;have x3:=c1 3 _ rfl;have y0:=c2 0 _ rfl;have y1:=c2 1 _ rfl;have y2:=c2 2 _ rfl;have y3:=c2 3 _ rfl;rw[Nat.add_zero]at x0 y0;have heq:=By x y;clear hx hy Hx c1 c2;go_wp2_with fail;refine bT (by kernel_rfl) (by kernel_rfl) ?_
    repeat (quiet_step (fail))
    refine avT ?_;intro _ bf;obtain⟨nq,rfl⟩:=bf;by_cases hxy:x=y
    ·rw[show decide (x=y)=true from decide_eq_true hxy];have Hxy:=hd0 hxy;clear hxy;go_wp2_with fail;refine⟨⟨k+1,_,by omega,by go_num,rfl,hd0 ?_⟩,by simp[intOf];omega⟩;rw[au3,au3,Ht.out,Hxx.out,Hyy.out,Hxy.out]
    ·rw[show decide (x=y)=false from au9 hxy];have Wg:Hid (decide (l=m)=false):=hd0 (au9 (fun e=>hxy (by have hx:=Hxx.out;rw[e,Hyy.out]at hx;exact(av6 hx).symm)));clear hxy;go_wp2;go_ret;exact⟨by rw[Wg.out];rfl,(ah.refl _ _).drewN _⟩
   ·have dd:k=N:=by omega
    have XM:decide (l=m)=true:=by
     rw[decide_eq_true_iff];have h1:=Ht.out;rw[dd]at h1
     rwa [avM (by rw[SD.out];exact au4 _),avM (by rw[HN.out];exact au4 _)]at h1
    have Wg:=hd0 XM;clear dd XM;go_wp2;go_ret;exact⟨by rw[Wg.out];rfl,(ah.refl _ _).drewN _⟩
 ·have hq:((l.length:Int) != (m.length:Int))=true:=by rw[bne_iff_ne];omega
  have XM:decide (l=m)=false:=au9 (fun e=>bA (by rw[e]));have Wg:=hd0 XM;clear bA XM hA hB;go_enter func147,ntmps147;go_wp2;go_ret;exact⟨by rw[Wg.out];rfl,ah.refl _ _⟩
def Q9 (v:Value):Option (DataW Value×List MemPlace):=match v with
 | .agg c=>match c.toList with
  |[.int .i64 _,.bool _,.int .i64 _,.string _]=>some (.held v,[])
  |_=>none
 |_=>none
theorem Ra:nX prog 221 Q9 (fun x=>.held (lg x)) lg (fun _=>True) ⟨0,false,0,[]⟩:=An (mk:=lg) (fun _=>rfl) (fun v y h=>by
  unfold Q9 at h;split at h
  ·rename_i c
   split at h
   ·rename_i n d l s e
    refine⟨⟨n,d,l,s.data.toList⟩,?_⟩;unfold lg
    congr 1
    exact Array.ext' (by rw[e])
   ·cases h
  ·cases h) (fun _=>by kernel_rfl) (fun a b h=>by
  obtain⟨n,d,l,s⟩:=a;obtain⟨n',d',l',s'⟩:=b;simpa[lg]using h)
abbrev Rb (w:World)(b:Nat)(l:List (Int×Nt)):Prop:=fh prog 3 Q9 (fun x=>.held (lg x)) w b l
def po (l:List Nt):List (Int×Nt):=l.foldl (fun m y=>ei j4 y.num y m) []
theorem qZ (l:List Nt)(y:Nt):po (l++[y])=ei j4 y.num y (po l):=by unfold po;rw[List.foldl_append];rfl
theorem MJ (l:List Nt)(k:Int):((bF k (po l)).getD ⟨0,false,0,[]⟩).data=cG l k:=by
 have key:∀ l:List Nt,bF k (po l)=(l.filter fun x=>x.num==k).getLast?:=by
  refine pE ?_ ?_
  ·rfl
  ·intro l y ih;rw[qZ,List.filter_append];by_cases h:y.num=k
   ·subst h;rw[ko,au8 rfl];simp
   ·rw[ko,ava (Ne.symm h),ih];have:(y.num==k)=false:=by simpa using h
    simp[this]
 rw[key];unfold cG
 cases (l.filter fun x=>x.num==k).getLast?<;>rfl
theorem MK:∀ l:List Nt,(po l).length<=l.length:=by
 refine pE (au4 _) ?_;intro l y ih;rw[qZ,avi,List.length_singleton];have:=pJ y.num y (po l);split at this<;>omega
end
section
open Go.RowKit
attribute [local go_sem] auV
theorem lz.keep {w w':World}{p:Nat}{v:Vs}{a:eY}(h:lz w p v a)(k:af w w'):lz w' p v a:=h.same (k.on fun _ _=>id) k.size
theorem Ar {w:World}{p:Nat}{v:Vs}{a:eY}(h:lz w p v a)(hb:v.blocks<=4096):
  Calls prog 219 #[aq p] w fun e w'=>e=.returned (.int .i64 ((bM v:Nat):Int))/\af w w':=by
 have c12:w.cell? ⟨p,12,none⟩=some (aq a.pm):=aa h.own 12;have PB:=hd0 (hZ h.map);have SH:=hd0 (tq v.blocks w (by omega));unfold bM;clear h;go_enter func219,ntmps219;go_wp2_with fail;refine PB.out.mono ?_;rintro e w1 ⟨rfl,rfl⟩;go_wp2_with fail;refine SH.out.mono ?_;rintro e w2 ⟨rfl,k2⟩;have HK:=hd0 k2;clear k2;go_wp2;go_ret;exact⟨rfl,HK.out⟩
theorem ML {w:World}{p:Nat}{v:Vs}{a:eY}(h:lz w p v a)(h1:1<=v.blocks)(hu:(cX v.b.planes).length<=100000)(hn:∀ k,am (cX v.b.planes) k=true->1<=k/\k<v.blocks):
  Calls prog 146 #[aq p] w fun e w'=>e=.returned (.int .i64 ((dm v:Nat):Int))/\af w w':=by
 have c12:w.cell? ⟨p,12,none⟩=some (aq a.pm):=aa h.own 12;have PF:=LK h.map h1 hu;rw[MF h1 hn]at PF;have PF:=hd0 PF;unfold dm;clear h hn hu;go_enter func146,ntmps146;go_wp2_with fail;refine PF.out.mono ?_;rintro e w1 ⟨rfl,k1⟩;have HK:=hd0 k1;clear k1;go_wp2;go_ret;exact⟨rfl,HK.out⟩
theorem fJ {b:Nat}(h:b<=16384):aR b<=100:=by
 unfold aR;have h1:bN b 240<=69:=(aI (by decide)).2 (by omega);have h2:bN (bN b 240) 60<=2:=(aI (by decide)).2 (by omega);rcases aM b with⟨_,e⟩|⟨_,_,e⟩|⟨_,_,e⟩|⟨_,e⟩<;>rw[e]<;>simp only[auZ,List.sum_nil]<;>omega
theorem IE {w:World}{p:Nat}{v:Vs}{a:eY}(h:lz w p v a)(hb:v.blocks<=4096)(kind:Int):
  Calls prog 145 #[aq p,.int .i64 kind] w fun e w'=>e=.returned (.int .i64 ((cT v kind:Nat):Int))/\af w w':=by
 have HO:=hd0 (Ar h hb);have hh:bM v<=100:=fJ (by omega);have hhi:(bM v:Int)<=100:=by omega
 have HH:=hd0 hh;clear h hh;unfold cT;generalize bM v=H at*;by_cases h8:kind=8
 ·subst h8;go_enter func145,ntmps145;go_wp2;go_ret;exact⟨by simp,ah.refl _ _⟩
 ·rw[ava h8];have b8:(kind==8)=false:=by simpa using h8
  by_cases h3:kind=3
  ·subst h3;go_enter func145,ntmps145;go_wp2_with fail;refine HO.out.mono ?_;rintro e w1 ⟨rfl,k1⟩;have HK:=hd0 k1;clear k1;go_wp2;go_ret;exact⟨by simp,HK.out⟩
  ·have b3:(kind==3)=false:=by simpa using h3
   by_cases h6:kind=6
   ·subst h6;go_enter func145,ntmps145;go_wp2_with fail;refine HO.out.mono ?_;rintro e w1 ⟨rfl,k1⟩;have HK:=hd0 k1;clear k1;go_wp2;go_ret;exact⟨by simp,HK.out⟩
   ·have b6:(kind==6)=false:=by simpa using h6
    rw[ava (fun h=>h.elim h3 h6)];go_enter func145,ntmps145;go_wp2_with fail;refine HO.out.mono ?_;rintro e w1 ⟨rfl,k1⟩;have HK:=hd0 k1;clear k1;go_wp2;go_ret;exact⟨by push_cast;rfl,HK.out⟩
theorem xH {w:World}{p:Nat}{v:Vs}{a:eY}(h:lz w p v a)(hl:v.b.list.length<=1000)(s:ay):
  Calls prog 66 #[aq p,ax s] w fun e w'=>e=.returned (.int .i64 (xA (dy v s)))/\af w w':=by
 have hmf:∀(fn:Fn) (first cap:Array Value) (w:World),(Instr.makeFunc fn first cap).run prog w=.ok (.func fn first cap) w:=fun _ _ _ _=>rfl;have hk:=(ah.refl (fun _=>False) w).alloc (.cells #[ax s] 9);have Yj:(w.alloc (.cells #[ax s] 9)).cell? ⟨p,11,none⟩=some a.sv:=aa (h.keep hk).own 11;have ID:=hd0 (Aj v.b.list a.sv _ (cl jo (h.keep hk).list) hl (Vb (w.alloc (.cells #[ax s] 9)) w.heap.size s v.b.list (aa (av w #[ax s] 9) 0)));have HK:=hd0 hk;unfold dy;clear h hk;go_enter func66,ntmps66;go_wp2_with fail;refine ID.out.mono ?_;rintro e w1 ⟨rfl,k1⟩;have bZ:=hd0 (HK.out.keep k1);clear k1;go_wp2;go_ret;exact⟨rfl,bZ.out⟩
end
end Go.Proofs.YtkghpdcloaiflaaGreatDoor
