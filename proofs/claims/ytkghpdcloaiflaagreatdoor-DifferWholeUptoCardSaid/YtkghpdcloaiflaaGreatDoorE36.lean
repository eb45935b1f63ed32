import Derived.Test.YtkghpdcloaiflaaGreatDoorE32
set_option maxHeartbeats 2000000
set_option maxRecDepth 100000
namespace Go.Proofs.YtkghpdcloaiflaaGreatDoor
open _root_.Go.Proofs.Tryz
def J9 (n:Nat):List Nat:=if n<=1 then []else if n<=60 then [1]else [bN n 60,1]
theorem EJ {n:Nat}(h:2<=n)(h2:n<=3600):J9 n=bN n 60::J9 (bN n 60):=by
 unfold J9;rw[auK (by omega:¬ n<=1)];by_cases h3:n<=60
 ·have:bN n 60=1:=by unfold bN;omega
  rw[auI h3,this];rfl
 ·have h4:2<=bN n 60/\bN n 60<=60:=by unfold bN;omega
  rw[auK h3,auK (by omega),auI h4.2]
theorem Vb {n:Nat}(h:n<=1):J9 n=[]:=auI h
theorem BA {n:Nat}(h:2<=n):bN n 60<n/\1<=bN n 60:=by unfold bN;omega
theorem qZ (s:Nat)(h:1<=bN s 240):au s=bN s 240::J9 (bN s 240):=by
 unfold au J9;simp only;rw[auK (by omega)];by_cases h1:bN s 240=1
 ·rw[auI h1,auI (by omega),h1]
 ·have h2:¬ bN s 240<=1:=by omega
  rw[auK h1];simp only[h2,if_false];split<;>rfl
def BB (bh data:az):Bool:=(au bh.length).length==(au data.length).length
theorem Q6 (bh data:az):dc bh data=mh (jf bh data)+cW (BB bh data) (J9 (bN data.length 240)) (bN data.length 240) (bN bh.length 240) (jf bh data):=by
 unfold dc;by_cases h:bN data.length 240=0
 ·have e:au data.length=[]:=by unfold au;simp only;rw[auI h]
  rw[e,h];have:jf bh data=[]:=by unfold jf;rw[h];rfl
  rw[this];rfl
 ·rw[qZ data.length (by omega)];simp only;rw[<-qZ data.length (by omega)];rfl
theorem EK (a:Bool){n:Nat}(h:n<=1)(was:Nat)(o:List Bool):cW a (J9 n) n was o=0:=by
 rw[Vb h];rfl
theorem BC (a:Bool){n:Nat}(h:2<=n)(h2:n<=3600)(was:Nat)(o:List Bool):
  cW a (J9 n) n was o=mh (iE a (bN n 60) n was o)+cW a (J9 (bN n 60)) (bN n 60) (bN was 60) (iE a (bN n 60) n was o):=by
 rw[EJ h h2];rfl
theorem MH {l:List Bool}{k:Nat}(h:k<l.length):mh (l.take (k+1))=mh (l.take k)+(if l[k]=true then 1 else 0):=by
 unfold mh;rw[auD,auB h,List.filter_append];simp only[Option.toList_some,auS]
 congr 1
 cases l[k]<;>simp
theorem MJ (l:List Bool):mh l<=l.length:=auM _ _
def gh (l:List Bool)(k:Nat):List Bool:=l.take k++List.replicate (l.length-k) false
theorem MK (l:List Bool){k:Nat}(h:k<=l.length):(gh l k).length=l.length:=by simp[gh];omega
theorem xN (l:List Bool):gh l 0=List.replicate l.length false:=by simp[gh]
theorem Ao (l:List Bool):gh l l.length=l:=by simp[gh]
theorem Ap {l:List Bool}{k:Nat}(h:k<l.length):(gh l k)[k]?=some false:=by
 unfold gh;rw[List.getElem?_append_right (by simp;omega)];simp[List.getElem?_replicate];omega
theorem xO {l:List Bool}{k:Nat}(h:k<l.length):gh l (k+1)=(gh l k).set k l[k]:=by
 unfold gh;rw[List.set_append_right _ _ (by simp;omega)];have e1:k-(l.take k).length=0:=by simp;omega
 have e2:l.length-k=(l.length-(k+1))+1:=by omega
 rw[e1,e2,List.replicate_succ,List.set_cons_zero,auD,auB h,avi];rfl
theorem EL (bh data:az):(jf bh data).length=bN data.length 240:=by simp[jf]
theorem EM (bh data:az){i:Nat}(h:i<(jf bh data).length):(jf bh data)[i]=decide (aO bh i≠aO data i):=by simp[jf]
theorem ML {s:az}{i:Nat}(h:bN s.length 240<=i):aO s i=[]:=by
 unfold aO;have:s.length<=i*240:=by
  have:=(aJ (n:=s.length) (each:=240) (k:=i) (by decide)).1 h;omega
 rw[av1 this];rfl
theorem Iy {s:az}{i:Nat}(h:i<bN s.length 240):aO s i≠[]:=by
 intro e;have h1:¬ s.length<=i*240:=fun h2=>by
  have:=(aJ (n:=s.length) (each:=240) (k:=i) (by decide)).2 (by omega);omega
 unfold aO at e;have:=avO List.length e;simp at this;omega
theorem Q7 (bh data:az){i:Nat}(h:i<(jf bh data).length)(h2:bN bh.length 240<=i):(jf bh data)[i]=true:=by
 rw[EM,ML h2];have:=Iy (s:=data) (i:=i) (by rw[<-EL bh];exact h);simp[Ne.symm this]
theorem Q8 (a:Bool)(m n was:Nat)(o:List Bool):(iE a m n was o).length=m:=by simp[iE]
theorem Q9 (a:Bool)(m n was:Nat)(o:List Bool){i:Nat}(h:i<(iE a m n was o).length):
  (iE a m n was o)[i]=(!a||decide (bN was 60<=i)||decide (min (n-60*i) 60≠min (was-60*i) 60)||(dK o (60*i) 60).any id):=by simp[iE]
theorem Ra {o:List Bool}{a k:Nat}(h:a+k<o.length):(dK o a (k+1)).any id=((dK o a k).any id||o[a+k]):=by
 unfold dK;rw[auD,avJ,auB h,List.any_append];simp
theorem Rb {o:List Bool}{a k:Nat}(h:o.length<=a+k)(hk:k<=60):dK o a 60=dK o a k:=by
 unfold dK;rw[avl (by simp;omega),avl (by simp;omega)]
theorem MM {U:az}{n:Nat}(h1:1<=n)(hn:∀ k,am U k=true->1<=k/\k<n):(n:Int)-1-(jK U:Int)=(kX U n:Int):=by
 have e1:jK U=((List.range' 1 (n-1)).filter fun k=>am U k).length:=by
  unfold jK;refine List.Perm.length_eq ?_;have Ny:((List.range' 1 (n-1)).filter fun k=>am U k).Nodup:=(List.nodup_range' (step:=1)).sublist List.filter_sublist;rw[List.perm_ext_iff_of_nodup (vJ U) Ny];intro k;rw[mw,auw,avz]
  constructor
  ·intro h;have:=hn k h;exact⟨by omega,h⟩
  ·exact fun h=>h.2
 have key:∀ l:List Nat,(l.filter fun k=>am U k).length+(l.filter fun k=>!am U k).length=l.length:=by
  intro l
  induction l with
  |nil=>rfl
  |cons x r ih=>
   simp only[avN,auA]
   cases am U x<;>simp<;>omega
 have:=key (List.range' 1 (n-1));rw[List.length_range']at this;unfold kX;omega
section
open Go.RowKit
attribute [local go_sem] auv
theorem ra (n:Nat)(w:World)(hn:n<=1000000):
  Calls prog 273 #[.int .i64 (n:Int)] w fun e w'=>e=.returned (.int .i64 ((bN n 240:Nat):Int))/\w=w':=by
 have e1:((bN n 240:Nat):Int)=((n:Int)+240-1)/240:=by unfold bN;omega
 have e2:((n:Int)+240-1).tdiv 240=((n:Int)+240-1)/240:=avL (by omega);have b1:(n:Int)<=1000000:=by omega
 have hq:((n:Int)+240-1)/240<=1000240:=by omega
 have hq0:(0:Int)<=((n:Int)+240-1)/240:=by omega
 go_enter func273,ntmps273;go_wp2;go_ret;exact⟨by rw[e1];rfl,rfl⟩
theorem xP (s:List UInt8)(i:Nat)(w:World)(hs:s.length<=100000)(hi:i<=100000):
  Calls prog 274 #[.string ⟨s.toArray⟩,.int .i64 (i:Int)] w fun e w'=>e=.returned (.string ⟨(aO s i).toArray⟩)/\w'=w:=by
 have hsi:(s.length:Int)<=100000:=by omega
 have hii:(i:Int)<=100000:=by omega
 have w1:IntKind.i64.wrap ((i:Int)*240)=(i:Int)*240:=fA (by omega);obtain⟨f,hf⟩:∃ f,min s.length (i*240)=f:=⟨_,rfl⟩
 have m1:min (s.length:Int) ((i:Int)*240)=(f:Int):=by omega
 have hfi:(f:Int)<=100000:=by omega
 have w2:IntKind.i64.wrap ((f:Int)+240)=(f:Int)+240:=fA (by omega);obtain⟨q,hq⟩:∃ q,min s.length (f+240)=q:=⟨_,rfl⟩
 have m2:min (s.length:Int) ((f:Int)+240)=(q:Int):=by omega
 have hcut:=fun W=>AX s f q (f:Int) (q:Int) rfl rfl (by omega) (by omega) W;have e:(s.drop f).take (q-f)=aO s i:=by
  unfold aO;by_cases h:i*240<=s.length
  ·have:f=i*240:=by omega
   rw[this,List.take_eq_take_iff];simp;omega
  ·rw[av1 (show s.length<=f by omega),av1 (by omega)];simp
 have He:=hd0 e;clear e hf hq;go_enter func274,ntmps274;go_wp2;go_ret;exact⟨by rw[<-He.out];rfl,rfl⟩
def tL (n:Nat):Nat:=if n=0 then 0 else 1+(J9 n).length
theorem EO (s:Nat):tL (bN s 240)=(au s).length:=by
 unfold tL;split
 ·rename_i h
  unfold au;simp[h]
 ·rw[qZ s (by omega)];simp;omega
theorem MN {n:Nat}(h:2<=n)(h2:n<=3600):tL n=1+tL (bN n 60):=by
 have h3:=BA h;unfold tL;rw[auK (by omega),auK (by omega),EJ h h2];simp;omega
theorem Vc (n:Nat):tL n<=3:=by
 unfold tL J9;split
 ·omega
 ·split
  ·simp
  ·split<;>simp
theorem uy (s:Nat)(w:World)(hs:s<=16384):
  Calls prog 275 #[.int .i64 (s:Int)] w fun e w'=>e=.returned (.int .i64 (((au s).length:Nat):Int))/\w=w':=by
 have CH:=hd0 (ra s w (by omega));rw[<-EO];have hn:bN s 240<=100:=(aJ (by decide)).2 (by omega);generalize bN s 240=n at*;go_enter func275,ntmps275;go_wp2_with fail;refine CH.out.mono ?_;rintro e w1 ⟨rfl,rfl⟩;go_wp2_with fail;have Kt:=Vc n
 go_loopw [3,4] (fun x y wr=>∃ m k:Nat,x=.int .i64 (m:Int)/\y=.int .i64 (k:Int)/\m<=100/\k+tL m=tL n/\wr=w) (fun x _ _=>(intOf x).toNat)
 case atStart=>exact⟨n,0,rfl,rfl,hn,by omega,rfl⟩
 case round=>
  obtain⟨m,k,rfl,rfl,hm,hk,rfl⟩:=hrel;have hmi:(m:Int)<=100:=by omega
  have Cx:(k:Int)<=3:=by omega
  by_cases h0:m=0
  ·subst h0;have e:k=tL n:=by rw[<-hk];simp[tL]
   go_wp2;go_ret;exact⟨by rw[e];rfl,rfl⟩
  ·have h0i:(0:Int)<(m:Int):=by omega
   by_cases h1:m=1
   ·subst h1;have e:((k:Int)+1)=(tL n:Int):=by rw[<-hk];simp[tL,J9]
    go_wp2;go_ret;exact⟨by rw[<-e];rfl,rfl⟩
   ·have h1b:((m:Int)==1)=false:=by simp;omega
    have dg:=MN (n:=m) (by omega) (by omega);have Yi:=BA (n:=m) (by omega);have e1:((bN m 60:Nat):Int)=((m:Int)+60-1)/60:=by unfold bN;omega
    have e2:((m:Int)+60-1).tdiv 60=((m:Int)+60-1)/60:=avL (by omega);have hq:((m:Int)+60-1)/60<=160:=by omega
    have hq0:(0:Int)<=((m:Int)+60-1)/60:=by omega
    have HE:=hd0 e1;have HH:=hd0 (And.intro dg (And.intro Yi (And.intro hk hm)));clear dg Yi hk e1 Kt hn;go_wp2_with fail;obtain⟨h5,h6,h7,h8⟩:=HH.out;refine⟨⟨bN m 60,k+1,by rw[HE.out],by go_num,by omega,by omega,trivial⟩,?_⟩;have h9:=HE.out;simp only[intOf];rw[<-h9];omega
end
section
open Go.RowKit
attribute [local go_sem] auv
def cd (l:List Bool):Array Value:=(l.map Value.bool).toArray
theorem Iz (l:List Bool)(k:Nat)(b:Bool):(cd l).setIfInBounds k (.bool b)=cd (l.set k b):=by simp[cd,List.map_set]
theorem IA {l:List Bool}{k:Nat}{b:Bool}(h:l[k]?=some b):(cd l)[k]?=some (.bool b):=by simp[cd,h]
theorem MO:(prog.info? 4).map (fun i=>(i.zero,i.size,i.bytes))=some (some (.bool false),1,1):=by kernel_rfl
theorem px (n:Nat)(hn:n<=100000)(W:World):
  (Instr.makeSlice 362 (.int .i64 (n:Int)) (.int .i64 (n:Int))).run prog W=.ok (.slice (some ⟨W.heap.size,0,none⟩) n n) (W.alloc (.cells (cd (List.replicate n false)) 4)):=by
 have h:=run_make_row' (P:=prog) 362 4 (.bool false) 1 underlying362 MO rfl .i64 .i64 n (by omega) (by omega) W;have e:madeCells #[Value.bool false] n=cd (List.replicate n false):=by
  have:=rK (.bool false) rfl n;simp only[cd,List.map_replicate]at this ⊢;rw[show(#[Value.bool false]:Array Value)=(Value.bool false).cells from rfl,this];simp
 rw[e]at h;exact h
theorem lw {w:World}{b:Nat}{l:List Bool}{t:TypeId}(h:World.blk w b (cd l) t){k:Nat}{x:Bool}(hk:l[k]?=some x):w.cell? ⟨b,k,none⟩=some (.bool x):=by
 rw[aa h k];exact IA hk
theorem tM {w:World}{b:Nat}{l:List Bool}{t:TypeId}(h:World.blk w b (cd l) t)(k:Nat)(x:Bool):World.blk (w.setCell ⟨b,k,none⟩ (.bool x)) b (cd (l.set k x)) t:=by
 rw[<-Iz];exact ag h k _
structure Y0 (w:World)(AL:Bool)(total n m:Nat)(O:List Bool)(ob kn:Nat)(a:Bool)(wr:World):Prop where
 len:O.length=n
 few:n<=69/\m<=69
 blk:World.blk wr ob (cd O) 4
 keep:af w wr
 new:w.heap.size<=ob
 al:(a&&AL)=AL
 sum:kn+(mh O+cW AL (J9 n) n m O)=total
theorem Rc (old data:az)(ho:old.length<=16384)(hd:data.length<=16384)(w:World):
  Calls prog 220 #[aC old,aC data] w fun e w'=>e=.returned (.int .i64 ((dc old data:Nat):Int))/\af w w':=by
 have C1:=hd0 (ra data.length w (by omega));have C2:=hd0 (ra old.length w (by omega));have PO:=hd0 (fun(i:Nat) (hi:i<=1000) W=>xP old i W (by omega) (by omega));have PD:=hd0 (fun(i:Nat) (hi:i<=1000) W=>xP data i W (by omega) (by omega));have LO:=hd0 (fun W=>uy old.length W ho);have LD:=hd0 (fun W=>uy data.length W hd);have hn:bN data.length 240<=69:=(aJ (by decide)).2 (by omega);have hm:bN old.length 240<=69:=(aJ (by decide)).2 (by omega);have HC:=hd0 (Q6 old data);have HO:=hd0 (EL old data);have HG:=hd0 (fun i h=>EM old data (i:=i) h);have HT:=hd0 (fun i h=>Q7 old data (i:=i) h);have HA:Hid (BB old data=(((au old.length).length:Int)==((au data.length).length:Int))):=hd0 (by unfold BB;rw[avh];simp;omega);have aiI:Hid (dc old data<=1000):=hd0 (by
  refine aux (gE old data) ?_;unfold aS;have h2:bN (bN data.length 240) 60<=2:=(aJ (by decide)).2 (by omega);rcases aM data.length with⟨_,e⟩|⟨_,_,e⟩|⟨_,_,e⟩|⟨_,e⟩<;>rw[e]<;>simp only[auz,List.sum_nil]<;>omega)
 have HN:=hd0 (And.intro hn hm);generalize bN data.length 240=n at*;generalize bN old.length 240=m at*;generalize jf old data=O at*;generalize dc old data=total at*;generalize BB old data=AL at*;have oz:=px n (by omega) w;clear ho hd hn hm;go_enter func220,ntmps220;go_wp2_with fail;refine C1.out.mono ?_;rintro e w1 ⟨rfl,rfl⟩;go_wp2_with fail;refine C2.out.mono ?_;rintro e w1 ⟨rfl,rfl⟩;go_wp2_with fail;have HB:Hid (World.blk (w.alloc (.cells (cd (List.replicate n false)) 4)) w.heap.size (cd (gh O 0)) 4):=hd0 (by rw[xN,HO.out];exact aw _ _ _);have HK:Hid (af w (w.alloc (.cells (cd (List.replicate n false)) 4))):=hd0 ((ah.refl _ w).alloc _);obtain⟨ob,ip⟩:∃ ob,w.heap.size=ob:=⟨_,rfl⟩
 have yz:=hd0 ip;rw[ip]at HB;rw[ip];clear ip oz C1 C2;generalize (w.alloc (.cells (cd (List.replicate n false)) 4))=w0 at*;have hnI:(n:Int)<=69:=by have:=HN.out.1;omega
 go_loopw [28] (fun i wr=>∃ k:Nat,k<=n/\i=.int .i64 (k:Int)/\af w wr/\World.blk wr ob (cd (gh O k)) 4) (fun i _=>n-(intOf i).toNat)
 case atStart=>exact⟨0,by omega,rfl,HK.out,HB.out⟩
 case round=>
  clear HK HB;obtain⟨k,hk,rfl,hK,hB⟩:=hrel;have HK:=hd0 hK;have HB:=hd0 hB;clear hK hB;by_cases aL:k<n
  ·have dN:(k:Int)<(n:Int):=by omega
   have CB:k<O.length:=by rw[HO.out];exact aL
   have c0:wr.cell? ⟨ob,k,none⟩=some (.bool false):=lw HB.out (Ap CB);have f0:=ae HB.out ⟨ob,k,none⟩ rfl;have rB:Hid (∀ x,O[k]=x->∃ k':Nat,k'<=n/\Value.int .i64 ((k:Int)+1)=.int .i64 (k':Int)/\k'=k+1/\af w (wr.setCell ⟨ob,k,none⟩ (.bool x))/\World.blk (wr.setCell ⟨ob,k,none⟩ (.bool x)) ob (cd (gh O k')) 4):=hd0 (fun x hx=>by
    refine⟨k+1,by omega,by go_num,rfl,HK.out.setCell (p:=⟨ob,k,none⟩) (.inr (by rw[yz.out];exact auE _)) _,?_⟩;rw[xO CB,hx];exact tM HB.out k x)
   by_cases hw:m<=k
   ·have hwi:(m:Int)<=(k:Int):=by omega
    have hx:=HT.out k CB hw;go_wp2_with fail;obtain⟨k',h1,h2,h3,h4,h5⟩:=rB.out true hx;exact⟨⟨k',h1,h2,h4,h5⟩,by simp[intOf];omega⟩
   ·have hwi:¬(m:Int)<=(k:Int):=by omega
    have P1:=hd0 (PO.out k (by omega));have P2:=hd0 (PD.out k (by omega));have hx:=HG.out k CB;have HX:=hd0 hx;clear hx;go_wp2_with fail;refine(P1.out _).mono ?_;rintro e w2 ⟨rfl,rfl⟩;go_wp2_with fail;refine(P2.out _).mono ?_;rintro e w3 ⟨rfl,rfl⟩;go_wp2_with fail;obtain⟨k',h1,h2,h3,h4,h5⟩:=rB.out (decide (aO old k≠aO data k)) HX.out;have e:(!(aO old k==aO data k))=decide (aO old k≠aO data k):=by by_cases h:aO old k=aO data k<;>simp[h]
    rw[<-e]at h4 h5;exact⟨⟨k',h1,h2,h4,h5⟩,by simp[intOf];omega⟩
  ·obtain rfl:k=n:=by omega
   have hB:=HB.out;have e1:gh O k=O:=by rw[<-HO.out];exact Ao O
   rw[e1]at hB;have HS:Hid (Y0 w AL total k m O ob 0 true wr):=hd0 ⟨HO.out,HN.out,hB,HK.out,by rw[yz.out];exact auE _,rfl,by rw[HC.out];omega⟩;clear hB e1 HB HK HC HO HG HT yz aL hk PO PD;go_wp2_with fail
   go_loopw [5,6,8,10,11] (fun x y s c t wz=>∃(n m:Nat) (O:List Bool) (ob kn:Nat) (a:Bool),x=.int .i64 (n:Int)/\y=.int .i64 (m:Int)/\s=.slice (some ⟨ob,0,none⟩) n n/\c=.int .i64 (kn:Int)/\t=.bool a/\Hid (Y0 w AL total n m O ob kn a wz)) (fun x _ _ _ _ _=>(intOf x).toNat)
   case atStart=>exact⟨k,m,O,ob,0,true,rfl,rfl,rfl,rfl,rfl,HS⟩
   case round=>
    clear HS HN;obtain⟨wq,rfl⟩:∃ wq,wq=wr:=⟨_,rfl⟩
    obtain⟨n,m,O,ob,kn,a,rfl,rfl,rfl,rfl,rfl,HS⟩:=hrel;have hn:=HS.out.few.1;have hnI:(n:Int)<=69:=by omega
    have hmI:(m:Int)<=69:=by have:=HS.out.few.2;omega
    have NI:kn+mh O<=1000:=by have:=HS.out.sum;have:=aiI.out;omega
    go_wp2_with fail
    go_loopw [51,10] (fun i c wz=>∃ k:Nat,k<=n/\i=.int .i64 (k:Int)/\c=.int .i64 ((kn+mh (O.take k):Nat):Int)/\wz=wq) (fun i _ _=>n-(intOf i).toNat)
    case atStart=>exact⟨0,by omega,rfl,by simp[mh],rfl⟩
    case round=>
     obtain⟨k,hk,rfl,rfl,rfl⟩:=hrel;by_cases aL:k<n
     ·have CB:k<O.length:=by rw[HS.out.len];exact aL
      have dN:(k:Int)<(n:Int):=by omega
      have c0:wr.cell? ⟨ob,k,none⟩=some (.bool O[k]):=lw HS.out.blk (auB CB);have hct:=MH CB;have AB:=MJ (O.take k);have BM:(O.take k).length<=69:=by rw[auH];omega
      have hci:((kn+mh (O.take k):Nat):Int)<=2000:=by omega
      obtain⟨x,hx⟩:∃ x,O[k]=x:=⟨_,rfl⟩
      rw[hx]at c0 hct;have HCT:=hd0 hct;clear hct hx AB BM;generalize hcc:kn+mh (O.take k)=cc at*;have Hcc:=hd0 hcc;clear hcc
      cases x with
      |true=>
       go_wp2_with fail;exact⟨⟨k+1,by omega,by go_num,by rw[HCT.out,auI rfl,<-auQ,Hcc.out];go_num,trivial⟩,by simp[intOf];omega⟩
      |false=>
       go_wp2_with fail;exact⟨⟨k+1,by omega,by go_num,by rw[HCT.out];simp[Hcc.out],trivial⟩,by simp[intOf];omega⟩
     ·obtain rfl:k=n:=by omega
      rw[avl (by rw[HS.out.len];exact auE _)];clear aL hk;obtain⟨ac,hac⟩:∃ ac,kn+mh O=ac:=⟨_,rfl⟩
      rw[hac]at NI ⊢;have HAC:=hd0 hac;clear hac;by_cases h1:k<=1
      ·have h1i:(k:Int)<=1:=by omega
       have hs:=HS.out.sum;rw[EK AL h1]at hs;have e:ac=total:=by have:=HAC.out;omega
       clear hs;go_wp2;go_ret;exact⟨by rw[<-e];rfl,HS.out.keep⟩
      ·have h1i:¬(k:Int)<=1:=by omega
       have dg:=BC AL (n:=k) (by omega) (by omega) m O;have yh:=BA (n:=k) (by omega);have afd:=fun j=>aJ (n:=k) (each:=60) (k:=j) (by decide);have aed:=fun j=>aJ (n:=m) (each:=60) (k:=j) (by decide);have e1:((k:Int)+60-1)/60=((bN k 60:Nat):Int):=by unfold bN;omega
       have e2:((k:Int)+60-1).tdiv 60=((k:Int)+60-1)/60:=avL (by omega);have e3:((m:Int)+60-1)/60=((bN m 60:Nat):Int):=by unfold bN;omega
       have e4:((m:Int)+60-1).tdiv 60=((m:Int)+60-1)/60:=avL (by omega);rw[e1]at e2;rw[e3]at e4;have SC:=hd0 (fun i h=>Q9 AL (bN k 60) k m O (i:=i) h);have TG:=hd0 (Q8 AL (bN k 60) k m O);have HUK:=hd0 afd;have HUM:=hd0 aed;have rB:=hd0 dg;have HUP:=hd0 yh;have hu1:((bN k 60:Nat):Int)<=69:=by omega
       have hu2:((bN m 60:Nat):Int)<=69:=by unfold bN;omega
       clear dg yh afd aed e1 e3;generalize bN k 60=up at*;generalize bN m 60=XO at*;generalize iE AL up k m O=O2 at*
       go_upto_region 20 with fail
       go_cut [11]from 49 to 136 (fun x wx=>x=.bool AL/\wx=wr)
       case first=>
        cases a with
        |false=>
         have OO:AL=false:=by have:=HS.out.al;simpa using this.symm
         go_wp2_with fail;go_meet
         case rel=>exact⟨by rw[OO],rfl⟩
        |true=>
         go_wp2_with fail;refine(LO.out _).mono ?_;rintro e w1 ⟨rfl,rfl⟩;go_wp2_with fail;refine(LD.out _).mono ?_;rintro e w1 ⟨rfl,rfl⟩;go_wp2_with fail;go_meet
         case rel=>exact⟨by rw[HA.out],rfl⟩
       case rest=>
        obtain⟨rfl,hwc⟩:=hcut;rw[hwc];clear hwc;have oz:=px up (by omega) wr;go_wp2_with fail;have ro:af wr (wr.alloc (.cells (cd (List.replicate up false)) 4)):=(ah.refl _ wr).alloc _;have HN3:Hid (w.heap.size<=wr.heap.size/\ob<wr.heap.size):=hd0 ⟨HS.out.keep.size,ai HS.out.blk⟩;have HI:Hid (af w (wr.alloc (.cells (cd (List.replicate up false)) 4))/\World.blk (wr.alloc (.cells (cd (List.replicate up false)) 4)) ob (cd O) 4/\World.blk (wr.alloc (.cells (cd (List.replicate up false)) 4)) wr.heap.size (cd (gh O2 0)) 4):=
         hd0 ⟨HS.out.keep.keep ro,ab ro HS.out.blk id,by rw[xN,TG.out];exact aw _ _ _⟩
        generalize wr.alloc (.cells (cd (List.replicate up false)) 4)=w1 at*;generalize wr.heap.size=ob2 at*;clear oz ro
        go_loopw [83] (fun i wz=>∃ j:Nat,j<=up/\i=.int .i64 (j:Int)/\Hid (af w wz/\World.blk wz ob (cd O) 4/\World.blk wz ob2 (cd (gh O2 j)) 4)) (fun i _=>up-(intOf i).toNat)
        case atStart=>exact⟨0,by omega,rfl,HI⟩
        case round=>
         clear HI;obtain⟨wy,rfl⟩:∃ wy,wy=wr:=⟨_,rfl⟩
         obtain⟨j,hj,rfl,HI⟩:=hrel;have dW:ob≠ob2:=by have:=HN3.out.2;omega
         by_cases aL:j<up
         ·have dN:(j:Int)<(up:Int):=by omega
          have CD:j<O2.length:=by rw[TG.out];exact aL
          have yo:j*60<k:=by have:=HUK.out j;omega
          have hjb:XO<=j↔m<=j*60:=HUM.out j;have c0:wy.cell? ⟨ob2,j,none⟩=some (.bool false):=lw HI.out.2.2 (Ap CD);have f0:=ae HI.out.2.2 ⟨ob2,j,none⟩ rfl;have CE:=SC.out j CD;obtain⟨b0,iM⟩:∃ b0,(!AL||decide (XO<=j)||decide (min (k-60*j) 60≠min (m-60*j) 60))=b0:=⟨_,rfl⟩
          rw[iM]at CE;have Hg2:=hd0 CE;have Hb0:=hd0 iM;clear CE iM
          go_upto_region 25 with fail
          go_cut []from 84 to 133 (fun wx=>wx=wy.setCell ⟨ob2,j,none⟩ (.bool b0))
          case first=>
           have V1:j*60<m->(min ((k:Int)-(j:Int)*60) 60==min ((m:Int)-(j:Int)*60) 60)=decide (min (k-60*j) 60=min (m-60*j) 60):=fun h=>by
            rw[avh];simp only[ave,auY];omega
           cases AL with
           |false=>
            have hb:b0=true:=by rw[<-Hb0.out];rfl
            subst hb;go_wp2_with fail;go_meet
            case rel=>rfl
           |true=>
            by_cases hq:XO<=j
            ·have W9:(XO:Int)<=(j:Int):=by omega
             have hb:b0=true:=by rw[<-Hb0.out,decide_eq_true hq];rfl
             subst hb;go_wp2_with fail;go_meet
             case rel=>rfl
            ·have W9:¬(XO:Int)<=(j:Int):=by omega
             have Wq:=V1 (by omega);have hb:(!decide (min (k-60*j) 60=min (m-60*j) 60))=b0:=by rw[<-Hb0.out,auJ hq];simp
             rw[<-Wq]at hb;have Hb:=hd0 hb;have FP:IntKind.i64.wrap ((j:Int)*60)=(j:Int)*60:=fA (by omega);clear hb Wq V1;go_wp2_with fail;go_meet
             case rel=>rw[<-Hb.out];rfl
          case rest=>
           obtain rfl:=hcut;have Oy:Hid (af w (wy.setCell ⟨ob2,j,none⟩ (.bool b0))/\World.blk (wy.setCell ⟨ob2,j,none⟩ (.bool b0)) ob (cd O) 4/\World.blk (wy.setCell ⟨ob2,j,none⟩ (.bool b0)) ob2 (cd ((gh O2 j).set j (b0||(dK O (j*60) 0).any id))) 4):=hd0 ⟨HI.out.1.setCell (p:=⟨ob2,j,none⟩) (.inr HN3.out.1) _,bE HI.out.2.1 ⟨ob2,j,none⟩ dW _,by
            have:=tM HI.out.2.2 j b0;simpa[dK]using this⟩
           generalize wy.setCell ⟨ob2,j,none⟩ (.bool b0)=wx at*;have sG:(j:Int)<=69:=by omega
           have jJ:j<(gh O2 j).length:=by rw[MK O2 (by omega)];exact CD
           have Hpl:=hd0 jJ;clear c0 f0 HI jJ;go_wp2_with fail
           go_loopw [18] (fun x wz=>∃ i:Nat,i<=60/\j*60+i<=k/\x=.int .i64 ((j*60+i:Nat):Int)/\Hid (af w wz/\World.blk wz ob (cd O) 4/\World.blk wz ob2 (cd ((gh O2 j).set j (b0||(dK O (j*60) i).any id))) 4)) (fun x _=>k-(intOf x).toNat)
           case atStart=>exact⟨0,by omega,by omega,by go_num,Oy⟩
           case round=>
            clear Oy;obtain⟨wv,rfl⟩:∃ wv,wv=wr:=⟨_,rfl⟩
            obtain⟨i,hi,hik,rfl,FU⟩:=hrel;have Yt:IntKind.i64.wrap (((j:Int)+1)*60)=((j:Int)+1)*60:=fA (by omega);have Xd:=HS.out.len;by_cases hc:i<60/\j*60+i<k
            ·have hci:((j*60+i:Nat):Int)<min (k:Int) (((j:Int)+1)*60):=by omega
             obtain⟨dz,aa0⟩:∃ dz,(b0||(dK O (j*60) i).any id)=dz:=⟨_,rfl⟩
             have Zz:=Ra (o:=O) (a:=j*60) (k:=i) (by omega);obtain⟨x,hx⟩:∃ x,O[j*60+i]?=some x:=⟨_,auB (by omega)⟩
             have To:O[j*60+i]'(by omega)=x:=by rw[auB (by omega)]at hx;injection hx
             rw[To]at Zz;have pH:(b0||(dK O (j*60) (i+1)).any id)=(dz||x):=by rw[Zz,<-aa0,Bool.or_assoc]
             rw[aa0]at FU;have c1:wv.cell? ⟨ob2,j,none⟩=some (.bool dz):=lw FU.out.2.2 (by rw[List.getElem?_set_self Hpl.out]);have f1:=ae FU.out.2.2 ⟨ob2,j,none⟩ rfl;have c2:wv.cell? ⟨ob,j*60+i,none⟩=some (.bool x):=lw FU.out.2.1 hx;have HN:Hid (∀ y,y=(dz||x)->af w (wv.setCell ⟨ob2,j,none⟩ (.bool y))/\World.blk (wv.setCell ⟨ob2,j,none⟩ (.bool y)) ob (cd O) 4/\World.blk (wv.setCell ⟨ob2,j,none⟩ (.bool y)) ob2 (cd ((gh O2 j).set j (b0||(dK O (j*60) (i+1)).any id))) 4):=hd0 (fun y hy=>⟨FU.out.1.setCell (p:=⟨ob2,j,none⟩) (.inr HN3.out.1) _,bE FU.out.2.1 ⟨ob2,j,none⟩ dW _,by
              have h:=tM FU.out.2.2 j y;rw[List.set_set,hy]at h;rw[pH,hy];exact h⟩)
             have Cx:(k:Int)<=69:=by omega
             have Hik:=hd0 hc;have AI:((j*60+i:Nat):Int)<(k:Int):=by omega
             clear Zz aa0 hx To pH hc;generalize uS:j*60+i=pos at*;have zg:=hd0 uS;clear uS
             cases dz with
             |true=>
              go_wp2_with fail;exact⟨⟨i+1,by have:=Hik.out;omega,by have:=Hik.out;have:=zg.out;omega,by have:=zg.out;go_num,hd0 (HN.out true rfl)⟩,by simp[intOf];omega⟩
             |false=>
              go_wp2_with fail;exact⟨⟨i+1,by have:=Hik.out;omega,by have:=Hik.out;have:=zg.out;omega,by have:=zg.out;go_num,hd0 (HN.out x (by simp))⟩,by simp[intOf];omega⟩
            ·have hci:¬((j*60+i:Nat):Int)<min (k:Int) (((j:Int)+1)*60):=by omega
             have lG:dK O (j*60) 60=dK O (j*60) i:=by
              by_cases sW:i=60
              ·rw[sW]
              ·exact Rb (by omega) hi
             have uV:=FU.out.2.2;rw[<-lG,Hb0.out.symm,show j*60=60*j by omega]at uV;have sV:(!AL||decide (XO<=j)||decide (min (k-60*j) 60≠min (m-60*j) 60)||(dK O (60*j) 60).any id)=O2[j]:=(SC.out j CD).symm;rw[sV,<-xO CD]at uV;have HI4:=hd0 (And.intro FU.out.1 (And.intro FU.out.2.1 uV));clear sV lG uV FU;go_wp2_with fail;exact⟨⟨j+1,by omega,by go_num,HI4⟩,by simp[intOf];omega⟩
         ·obtain rfl:j=up:=by omega
          have e5:gh O2 j=O2:=by rw[<-TG.out];exact Ao O2
          have fi:=HI.out.2.2;rw[e5]at fi;have BV:Hid (Y0 w AL total j XO O2 ob2 ac AL wy):=hd0 ⟨TG.out,by omega,fi,HI.out.1,HN3.out.1,by cases AL<;>rfl,by have h1:=HS.out.sum;rw[rB.out]at h1;have h2:=HAC.out;omega⟩;have HLT:=hd0 HUP.out.1;clear fi e5 HI SC TG rB HUP aL hj;go_wp2_with fail;exact⟨⟨j,XO,O2,ob2,ac,AL,rfl,rfl,rfl,rfl,rfl,BV⟩,by have:=HLT.out;simp[intOf];omega⟩
end
section
open Go.RowKit Go.Maps
attribute [local go_sem] auv
theorem acs (x y:Nt):decide (x=y)=(x.num==y.num&&(x.dir==y.dir&&(x.links==y.links&&x.data==y.data))):=by
 obtain⟨a,b,c,e⟩:=x;obtain⟨a',b',c',e'⟩:=y;rw[avh];simp
theorem IB (x y:Nt)(W:World):(Op.equalIn 10000 221 (lp x) (lp y)).run prog W=.ok (decide (x=y)) W:=by
 have u1:=underlying3;have u2:=underlying4;have u3:=underlying9;have hS:prog.underlying 221=some (.struct (prog.fieldsOf 221)):=by kernel_rfl
 have hp:prog.stoodInHeld 221=false:=by kernel_rfl
 rw[show(10000:Nat)=9999+1 from rfl,run_equalIn_agg W 9999 221 _ _ hS hp,acs];simp only[Program.fieldsOf,underlying221]
 go_simp
 by_cases h1:x.num=y.num<;>by_cases h2:x.dir=y.dir<;>by_cases h3:x.links=y.links<;>by_cases h4:x.data=y.data<;>simp[h1,h2,h3,h4]
theorem BD (x y:Nt)(W:World):(Op.equalIn 10000 221 (lp x) (lp y)).run prog W=.ok (decide (x=y)) W:=IB x y W
theorem uz (va vb:Value)(l m:List Nt)(w:World)(ha:jS gG 4 w va l)(hb:jS gG 4 w vb m)(hl:l.length<=1000000)(_hm:m.length<=1000000):
  Calls prog 147 #[va,vb] w fun e w'=>e=.returned (.bool (decide (l=m)))/\af w w':=by
 obtain⟨a,ca,rfl,hA⟩:=ha;obtain⟨b,cb,rfl,hB⟩:=hb;by_cases aV:l.length=m.length
 ·obtain⟨N,hN⟩:∃ N,m.length=N:=⟨_,rfl⟩
  rw[hN]at aV;rw[aV,hN];rw[aV]at hl;have HA:=hd0 hA;have HB:=hd0 hB;have Tt:=hd0 aV;have HN:=hd0 hN;clear hA hB aV hN;have hq:((N:Int) != (N:Int))=false:=by rw[bne_eq_false_iff_eq]
  go_enter func147,ntmps147;go_wp2_with fail
  go_loopw [13] (fun i wr=>∃(k n:Nat),k<=N/\i=.int .i64 (k:Int)/\wr=w.drewN n/\Hid (l.take k=m.take k)) (fun i _=>N-(intOf i).toNat)
  case atStart=>exact⟨0,0,by omega,rfl,rfl,hd0 rfl⟩
  case round=>
   obtain⟨k,n,hk,rfl,rfl,Ht⟩:=hrel;by_cases aL:k<N
   ·have Hx:Hid (∃ x y,l[k]?=some x/\m[k]?=some y):=hd0 ⟨_,_,auB (by rw[Tt.out];exact aL),auB (by rw[HN.out];exact aL)⟩;obtain⟨x,y,hx,hy⟩:=Hx.out;have Hxx:=hd0 hx;have Hyy:=hd0 hy;obtain⟨b1,o1,rfl,c1⟩:=HA.out k x hx;obtain⟨b2,o2,rfl,c2⟩:=HB.out k y hy;have x0:=c1 0 _ rfl;have x1:=c1 1 _ rfl;have x2:=c1 2 _ rfl;have x3:=c1 3 _ rfl;have y0:=c2 0 _ rfl;have y1:=c2 1 _ rfl;have y2:=c2 2 _ rfl;have y3:=c2 3 _ rfl;rw[Nat.add_zero]at x0 y0;have heq:=BD x y;clear hx hy Hx c1 c2;go_wp2_with fail;refine nt (by kernel_rfl) (by kernel_rfl) ?_
    repeat (quiet_step (fail))
    refine avt ?_;intro _ cf;obtain⟨nq,rfl⟩:=cf;by_cases hxy:x=y
    ·rw[show decide (x=y)=true from decide_eq_true hxy];have Hxy:=hd0 hxy;clear hxy;go_wp2_with fail;refine⟨⟨k+1,_,by omega,by go_num,rfl,hd0 ?_⟩,by simp[intOf];omega⟩;rw[auD,auD,Ht.out,Hxx.out,Hyy.out,Hxy.out]
    ·rw[show decide (x=y)=false from auJ hxy];have VH:Hid (decide (l=m)=false):=hd0 (auJ (fun e=>hxy (by have hx:=Hxx.out;rw[e,Hyy.out]at hx;exact(avG hx).symm)));clear hxy;go_wp2;go_ret;exact⟨by rw[VH.out];rfl,(ah.refl _ _).drewN _⟩
   ·have de:k=N:=by omega
    have XB:decide (l=m)=true:=by
     rw[decide_eq_true_iff];have h1:=Ht.out;rw[de]at h1
     rwa [avl (by rw[Tt.out];exact auE _),avl (by rw[HN.out];exact auE _)]at h1
    have VH:=hd0 XB;clear de XB;go_wp2;go_ret;exact⟨by rw[VH.out];rfl,(ah.refl _ _).drewN _⟩
 ·have hq:((l.length:Int) != (m.length:Int))=true:=by rw[bne_iff_ne];omega
  have XB:decide (l=m)=false:=auJ (fun e=>aV (by rw[e]));have VH:=hd0 XB;clear aV XB hA hB;go_enter func147,ntmps147;go_wp2;go_ret;exact⟨by rw[VH.out];rfl,ah.refl _ _⟩
def Re (v:Value):Option (DataW Value×List MemPlace):=match v with
 | .agg c=>match c.toList with
  |[.int .i64 _,.bool _,.int .i64 _,.string _]=>some (.held v,[])
  |_=>none
 |_=>none
theorem Rf:oe prog 221 Re (fun x=>.held (lp x)) lp (fun _=>True) ⟨0,false,0,[]⟩:=Am (mk:=lp) (fun _=>rfl) (fun v y h=>by
  unfold Re at h;split at h
  ·rename_i c
   split at h
   ·rename_i n d l s e
    refine⟨⟨n,d,l,s.data.toList⟩,?_⟩;unfold lp
    congr 1
    exact Array.ext' (by rw[e])
   ·cases h
  ·cases h) (fun _=>by kernel_rfl) (fun a b h=>by
  obtain⟨n,d,l,s⟩:=a;obtain⟨n',d',l',s'⟩:=b;simpa[lp]using h)
abbrev Rg (w:World)(b:Nat)(l:List (Int×Nt)):Prop:=fy prog 3 Re (fun x=>.held (lp x)) w b l
def py (l:List Nt):List (Int×Nt):=l.foldl (fun m y=>em j6 y.num y m) []
theorem rc (l:List Nt)(y:Nt):py (l++[y])=em j6 y.num y (py l):=by unfold py;rw[List.foldl_append];rfl
theorem MQ (l:List Nt)(k:Int):((bF k (py l)).getD ⟨0,false,0,[]⟩).data=cI l k:=by
 have key:∀ l:List Nt,bF k (py l)=(l.filter fun x=>x.num==k).getLast?:=by
  refine pJ ?_ ?_
  ·rfl
  ·intro l y ih;rw[rc,List.filter_append];by_cases h:y.num=k
   ·subst h;rw[kw,auI rfl];simp
   ·rw[kw,auK (Ne.symm h),ih];have:(y.num==k)=false:=by simpa using h
    simp[this]
 rw[key];unfold cI
 cases (l.filter fun x=>x.num==k).getLast?<;>rfl
theorem MR:∀ l:List Nt,(py l).length<=l.length:=by
 refine pJ (auE _) ?_;intro l y ih;rw[rc,auS,List.length_singleton];have:=pN y.num y (py l);split at this<;>omega
end
section
open Go.RowKit
attribute [local go_sem] auv
theorem kg.keep {w w':World}{p:Nat}{v:Vs}{a:eF}(h:kg w p v a)(k:af w w'):kg w' p v a:=h.same (k.on fun _ _=>id) k.size
theorem Aq {w:World}{p:Nat}{v:Vs}{a:eF}(h:kg w p v a)(hb:v.blocks<=4096):
  Calls prog 219 #[aq p] w fun e w'=>e=.returned (.int .i64 ((bM v:Nat):Int))/\af w w':=by
 have c12:w.cell? ⟨p,12,none⟩=some (aq a.pm):=aa h.own 12;have PB:=hd0 (ik h.map);have SH:=hd0 (tJ v.blocks w (by omega));unfold bM;clear h;go_enter func219,ntmps219;go_wp2_with fail;refine PB.out.mono ?_;rintro e w1 ⟨rfl,rfl⟩;go_wp2_with fail;refine SH.out.mono ?_;rintro e w2 ⟨rfl,k2⟩;have HK:=hd0 k2;clear k2;go_wp2;go_ret;exact⟨rfl,HK.out⟩
theorem MS {w:World}{p:Nat}{v:Vs}{a:eF}(h:kg w p v a)(h1:1<=v.blocks)(hu:(cV v.b.planes).length<=100000)(hn:∀ k,am (cV v.b.planes) k=true->1<=k/\k<v.blocks):
  Calls prog 146 #[aq p] w fun e w'=>e=.returned (.int .i64 ((dp v:Nat):Int))/\af w w':=by
 have c12:w.cell? ⟨p,12,none⟩=some (aq a.pm):=aa h.own 12;have PF:=LR h.map h1 hu;rw[MM h1 hn]at PF;have PF:=hd0 PF;unfold dp;clear h hn hu;go_enter func146,ntmps146;go_wp2_with fail;refine PF.out.mono ?_;rintro e w1 ⟨rfl,k1⟩;have HK:=hd0 k1;clear k1;go_wp2;go_ret;exact⟨rfl,HK.out⟩
theorem fL {b:Nat}(h:b<=16384):aS b<=100:=by
 unfold aS;have h1:bN b 240<=69:=(aJ (by decide)).2 (by omega);have h2:bN (bN b 240) 60<=2:=(aJ (by decide)).2 (by omega);rcases aM b with⟨_,e⟩|⟨_,_,e⟩|⟨_,_,e⟩|⟨_,e⟩<;>rw[e]<;>simp only[auz,List.sum_nil]<;>omega
theorem IC {w:World}{p:Nat}{v:Vs}{a:eF}(h:kg w p v a)(hb:v.blocks<=4096)(kind:Int):
  Calls prog 145 #[aq p,.int .i64 kind] w fun e w'=>e=.returned (.int .i64 ((cR v kind:Nat):Int))/\af w w':=by
 have HO:=hd0 (Aq h hb);have hh:bM v<=100:=fL (by omega);have hhi:(bM v:Int)<=100:=by omega
 have HH:=hd0 hh;clear h hh;unfold cR;generalize bM v=H at*;by_cases h8:kind=8
 ·subst h8;go_enter func145,ntmps145;go_wp2;go_ret;exact⟨by simp,ah.refl _ _⟩
 ·rw[auK h8];have b8:(kind==8)=false:=by simpa using h8
  by_cases h3:kind=3
  ·subst h3;go_enter func145,ntmps145;go_wp2_with fail;refine HO.out.mono ?_;rintro e w1 ⟨rfl,k1⟩;have HK:=hd0 k1;clear k1;go_wp2;go_ret;exact⟨by simp,HK.out⟩
  ·have b3:(kind==3)=false:=by simpa using h3
   by_cases h6:kind=6
   ·subst h6;go_enter func145,ntmps145;go_wp2_with fail;refine HO.out.mono ?_;rintro e w1 ⟨rfl,k1⟩;have HK:=hd0 k1;clear k1;go_wp2;go_ret;exact⟨by simp,HK.out⟩
   ·have b6:(kind==6)=false:=by simpa using h6
    rw[auK (fun h=>h.elim h3 h6)];go_enter func145,ntmps145;go_wp2_with fail;refine HO.out.mono ?_;rintro e w1 ⟨rfl,k1⟩;have HK:=hd0 k1;clear k1;go_wp2;go_ret;exact⟨by push_cast;rfl,HK.out⟩
theorem xQ {w:World}{p:Nat}{v:Vs}{a:eF}(h:kg w p v a)(hl:v.b.list.length<=1000)(s:az):
  Calls prog 66 #[aq p,aC s] w fun e w'=>e=.returned (.int .i64 (xJ (du v s)))/\af w w':=by
 have hmf:∀(fn:Fn) (first cap:Array Value) (w:World),(Instr.makeFunc fn first cap).run prog w=.ok (.func fn first cap) w:=fun _ _ _ _=>rfl;have hk:=(ah.refl (fun _=>False) w).alloc (.cells #[aC s] 9);have XZ:(w.alloc (.cells #[aC s] 9)).cell? ⟨p,11,none⟩=some a.sv:=aa (h.keep hk).own 11;have ID:=hd0 (Ai v.b.list a.sv _ (bZ eQ (h.keep hk).list) hl (U7 (w.alloc (.cells #[aC s] 9)) w.heap.size s v.b.list (aa (aw w #[aC s] 9) 0)));have HK:=hd0 hk;unfold du;clear h hk;go_enter func66,ntmps66;go_wp2_with fail;refine ID.out.mono ?_;rintro e w1 ⟨rfl,k1⟩;have bU:=hd0 (HK.out.keep k1);clear k1;go_wp2;go_ret;exact⟨rfl,bU.out⟩
end
end Go.Proofs.YtkghpdcloaiflaaGreatDoor
