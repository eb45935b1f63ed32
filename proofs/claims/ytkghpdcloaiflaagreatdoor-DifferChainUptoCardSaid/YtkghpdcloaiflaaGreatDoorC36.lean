import Derived.Test.YtkghpdcloaiflaaGreatDoorC32
set_option maxHeartbeats 2000000
set_option maxRecDepth 100000
namespace Go.Proofs.YtkghpdcloaiflaaGreatDoor
open _root_.Go.Proofs.Tryz
def JM (n:Nat):List Nat:=if n<=1 then []else if n<=60 then [1]else [bN n 60,1]
theorem Ej {n:Nat}(h:2<=n)(h2:n<=3600):JM n=bN n 60::JM (bN n 60):=by
 unfold JM;rw[atR (by omega:¬ n<=1)];by_cases h3:n<=60
 ·have:bN n 60=1:=by unfold bN;omega
  rw[atP h3,this];rfl
 ·have h4:2<=bN n 60/\bN n 60<=60:=by unfold bN;omega
  rw[atR h3,atR (by omega),atP h4.2]
theorem UB {n:Nat}(h:n<=1):JM n=[]:=atP h
theorem Bb {n:Nat}(h:2<=n):bN n 60<n/\1<=bN n 60:=by unfold bN;omega
theorem qJ (s:Nat)(h:1<=bN s 240):au s=bN s 240::JM (bN s 240):=by
 unfold au JM;simp only;rw[atR (by omega)];by_cases h1:bN s 240=1
 ·rw[atP h1,atP (by omega),h1]
 ·have h2:¬ bN s 240<=1:=by omega
  rw[atR h1];simp only[h2,if_false];split<;>rfl
def Bc (bg data:ay):Bool:=(au bg.length).length==(au data.length).length
theorem QE (bg data:ay):da bg data=l7 (iW bg data)+cW (Bc bg data) (JM (bN data.length 240)) (bN data.length 240) (bN bg.length 240) (iW bg data):=by
 unfold da;by_cases h:bN data.length 240=0
 ·have e:au data.length=[]:=by unfold au;simp only;rw[atP h]
  rw[e,h];have:iW bg data=[]:=by unfold iW;rw[h];rfl
  rw[this];rfl
 ·rw[qJ data.length (by omega)];simp only;rw[<-qJ data.length (by omega)];rfl
theorem Ek (a:Bool){n:Nat}(h:n<=1)(was:Nat)(o:List Bool):cW a (JM n) n was o=0:=by
 rw[UB h];rfl
theorem Bd (a:Bool){n:Nat}(h:2<=n)(h2:n<=3600)(was:Nat)(o:List Bool):
  cW a (JM n) n was o=l7 (ir a (bN n 60) n was o)+cW a (JM (bN n 60)) (bN n 60) (bN was 60) (ir a (bN n 60) n was o):=by
 rw[Ej h h2];rfl
theorem Mf {l:List Bool}{k:Nat}(h:k<l.length):l7 (l.take (k+1))=l7 (l.take k)+(if l[k]=true then 1 else 0):=by
 unfold l7;rw[atK,atI h,List.filter_append];simp only[Option.toList_some,at0]
 congr 1
 cases l[k]<;>simp
theorem Mg (l:List Bool):l7 l<=l.length:=atU _ _
def fW (l:List Bool)(k:Nat):List Bool:=l.take k++List.replicate (l.length-k) false
theorem Mh (l:List Bool){k:Nat}(h:k<=l.length):(fW l k).length=l.length:=by simp[fW];omega
theorem xu (l:List Bool):fW l 0=List.replicate l.length false:=by simp[fW]
theorem zZ (l:List Bool):fW l l.length=l:=by simp[fW]
theorem z7 {l:List Bool}{k:Nat}(h:k<l.length):(fW l k)[k]?=some false:=by
 unfold fW;rw[List.getElem?_append_right (by simp;omega)];simp[List.getElem?_replicate];omega
theorem xw {l:List Bool}{k:Nat}(h:k<l.length):fW l (k+1)=(fW l k).set k l[k]:=by
 unfold fW;rw[List.set_append_right _ _ (by simp;omega)];have e1:k-(l.take k).length=0:=by simp;omega
 have e2:l.length-k=(l.length-(k+1))+1:=by omega
 rw[e1,e2,List.replicate_succ,List.set_cons_zero,atK,atI h,auu];rfl
theorem El (bg data:ay):(iW bg data).length=bN data.length 240:=by simp[iW]
theorem Em (bg data:ay){i:Nat}(h:i<(iW bg data).length):(iW bg data)[i]=decide (aN bg i≠aN data i):=by simp[iW]
theorem Mi {s:ay}{i:Nat}(h:bN s.length 240<=i):aN s i=[]:=by
 unfold aN;have:s.length<=i*240:=by
  have:=(aJ (n:=s.length) (each:=240) (k:=i) (by decide)).1 h;omega
 rw[avb this];rfl
theorem Ia {s:ay}{i:Nat}(h:i<bN s.length 240):aN s i≠[]:=by
 intro e;have h1:¬ s.length<=i*240:=fun h2=>by
  have:=(aJ (n:=s.length) (each:=240) (k:=i) (by decide)).2 (by omega);omega
 unfold aN at e;have:=auZ List.length e;simp at this;omega
theorem QF (bg data:ay){i:Nat}(h:i<(iW bg data).length)(h2:bN bg.length 240<=i):(iW bg data)[i]=true:=by
 rw[Em,Mi h2];have:=Ia (s:=data) (i:=i) (by rw[<-El bg];exact h);simp[Ne.symm this]
theorem QG (a:Bool)(m n was:Nat)(o:List Bool):(ir a m n was o).length=m:=by simp[ir]
theorem QH (a:Bool)(m n was:Nat)(o:List Bool){i:Nat}(h:i<(ir a m n was o).length):
  (ir a m n was o)[i]=(!a||decide (bN was 60<=i)||decide (min (n-60*i) 60≠min (was-60*i) 60)||(dH o (60*i) 60).any id):=by simp[ir]
theorem QI {o:List Bool}{a k:Nat}(h:a+k<o.length):(dH o a (k+1)).any id=((dH o a k).any id||o[a+k]):=by
 unfold dH;rw[atK,auU,atI h,List.any_append];simp
theorem QJ {o:List Bool}{a k:Nat}(h:o.length<=a+k)(hk:k<=60):dH o a 60=dH o a k:=by
 unfold dH;rw[aux (by simp;omega),aux (by simp;omega)]
theorem Mj {U:ay}{n:Nat}(h1:1<=n)(hn:∀ k,ak U k=true->1<=k/\k<n):(n:Int)-1-(jz U:Int)=(kK U n:Int):=by
 have e1:jz U=((List.range' 1 (n-1)).filter fun k=>ak U k).length:=by
  unfold jz;refine List.Perm.length_eq ?_;have Nx:((List.range' 1 (n-1)).filter fun k=>ak U k).Nodup:=(List.nodup_range' (step:=1)).sublist List.filter_sublist;rw[List.perm_ext_iff_of_nodup (vh U) Nx];intro k;rw[rq,atD,auK]
  constructor
  ·intro h;have:=hn k h;exact⟨by omega,h⟩
  ·exact fun h=>h.2
 have key:∀ l:List Nat,(l.filter fun k=>ak U k).length+(l.filter fun k=>!ak U k).length=l.length:=by
  intro l
  induction l with
  |nil=>rfl
  |cons x r ih=>
   simp only[auY,atH]
   cases ak U x<;>simp<;>omega
 have:=key (List.range' 1 (n-1));rw[List.length_range']at this;unfold kK;omega
section
open Go.RowKit
attribute [local go_sem] atC
theorem qK (n:Nat)(w:World)(hn:n<=1000000):
  Calls prog 273 #[.int .i64 (n:Int)] w fun e w'=>e=.returned (.int .i64 ((bN n 240:Nat):Int))/\w=w':=by
 have e1:((bN n 240:Nat):Int)=((n:Int)+240-1)/240:=by unfold bN;omega
 have e2:((n:Int)+240-1).tdiv 240=((n:Int)+240-1)/240:=auW (by omega);have b1:(n:Int)<=1000000:=by omega
 have hq:((n:Int)+240-1)/240<=1000240:=by omega
 have hq0:(0:Int)<=((n:Int)+240-1)/240:=by omega
 go_enter func273,ntmps273;go_wp2;go_ret;exact⟨by rw[e1];rfl,rfl⟩
theorem xx (s:List UInt8)(i:Nat)(w:World)(hs:s.length<=100000)(hi:i<=100000):
  Calls prog 274 #[.string ⟨s.toArray⟩,.int .i64 (i:Int)] w fun e w'=>e=.returned (.string ⟨(aN s i).toArray⟩)/\w'=w:=by
 have ZJ:(s.length:Int)<=100000:=by omega
 have hii:(i:Int)<=100000:=by omega
 have w1:IntKind.i64.wrap ((i:Int)*240)=(i:Int)*240:=fh (by omega);obtain⟨f,hf⟩:∃ f,min s.length (i*240)=f:=⟨_,rfl⟩
 have m1:min (s.length:Int) ((i:Int)*240)=(f:Int):=by omega
 have hfi:(f:Int)<=100000:=by omega
 have w2:IntKind.i64.wrap ((f:Int)+240)=(f:Int)+240:=fh (by omega);obtain⟨q,hq⟩:∃ q,min s.length (f+240)=q:=⟨_,rfl⟩
 have m2:min (s.length:Int) ((f:Int)+240)=(q:Int):=by omega
 have hcut:=fun W=>AB s f q (f:Int) (q:Int) rfl rfl (by omega) (by omega) W;have e:(s.drop f).take (q-f)=aN s i:=by
  unfold aN;by_cases h:i*240<=s.length
  ·have:f=i*240:=by omega
   rw[this,List.take_eq_take_iff];simp;omega
  ·rw[avb (show s.length<=f by omega),avb (by omega)];simp
 have He:=hd0 e;clear e hf hq;go_enter func274,ntmps274;go_wp2;go_ret;exact⟨by rw[<-He.out];rfl,rfl⟩
def tc (n:Nat):Nat:=if n=0 then 0 else 1+(JM n).length
theorem En (s:Nat):tc (bN s 240)=(au s).length:=by
 unfold tc;split
 ·rename_i h
  unfold au;simp[h]
 ·rw[qJ s (by omega)];simp;omega
theorem Mk {n:Nat}(h:2<=n)(h2:n<=3600):tc n=1+tc (bN n 60):=by
 have h3:=Bb h;unfold tc;rw[atR (by omega),atR (by omega),Ej h h2];simp;omega
theorem UC (n:Nat):tc n<=3:=by
 unfold tc JM;split
 ·omega
 ·split
  ·simp
  ·split<;>simp
theorem ub (s:Nat)(w:World)(hs:s<=16384):
  Calls prog 275 #[.int .i64 (s:Int)] w fun e w'=>e=.returned (.int .i64 (((au s).length:Nat):Int))/\w=w':=by
 have CH:=hd0 (qK s w (by omega));rw[<-En];have hn:bN s 240<=100:=(aJ (by decide)).2 (by omega);generalize bN s 240=n at*;go_enter func275,ntmps275;go_wp2_with fail;refine CH.out.mono ?_;rintro e w1 ⟨rfl,rfl⟩;go_wp2_with fail;have J4:=UC n
 go_loopw [3,4] (fun x y wr=>∃ m k:Nat,x=.int .i64 (m:Int)/\y=.int .i64 (k:Int)/\m<=100/\k+tc m=tc n/\wr=w) (fun x _ _=>(intOf x).toNat)
 case atStart=>exact⟨n,0,rfl,rfl,hn,by omega,rfl⟩
 case round=>
  obtain⟨m,k,rfl,rfl,hm,hk,rfl⟩:=hrel;have hmi:(m:Int)<=100:=by omega
  have BV:(k:Int)<=3:=by omega
  by_cases h0:m=0
  ·subst h0;have e:k=tc n:=by rw[<-hk];simp[tc]
   go_wp2;go_ret;exact⟨by rw[e];rfl,rfl⟩
  ·have h0i:(0:Int)<(m:Int):=by omega
   by_cases h1:m=1
   ·subst h1;have e:((k:Int)+1)=(tc n:Int):=by rw[<-hk];simp[tc,JM]
    go_wp2;go_ret;exact⟨by rw[<-e];rfl,rfl⟩
   ·have h1b:((m:Int)==1)=false:=by simp;omega
    have dr:=Mk (n:=m) (by omega) (by omega);have Xk:=Bb (n:=m) (by omega);have e1:((bN m 60:Nat):Int)=((m:Int)+60-1)/60:=by unfold bN;omega
    have e2:((m:Int)+60-1).tdiv 60=((m:Int)+60-1)/60:=auW (by omega);have hq:((m:Int)+60-1)/60<=160:=by omega
    have hq0:(0:Int)<=((m:Int)+60-1)/60:=by omega
    have HE:=hd0 e1;have HH:=hd0 (And.intro dr (And.intro Xk (And.intro hk hm)));clear dr Xk hk e1 J4 hn;go_wp2_with fail;obtain⟨h5,h6,h7,h8⟩:=HH.out;refine⟨⟨bN m 60,k+1,by rw[HE.out],by go_num,by omega,by omega,trivial⟩,?_⟩;have h9:=HE.out;simp only[intOf];rw[<-h9];omega
end
section
open Go.RowKit
attribute [local go_sem] atC
def bV (l:List Bool):Array Value:=(l.map Value.bool).toArray
theorem Ib (l:List Bool)(k:Nat)(b:Bool):(bV l).setIfInBounds k (.bool b)=bV (l.set k b):=by simp[bV,List.map_set]
theorem Ic {l:List Bool}{k:Nat}{b:Bool}(h:l[k]?=some b):(bV l)[k]?=some (.bool b):=by simp[bV,h]
theorem Ml:(prog.info? 4).map (fun i=>(i.zero,i.size,i.bytes))=some (some (.bool false),1,1):=by kernel_rfl
theorem o8 (n:Nat)(hn:n<=100000)(W:World):
  (Instr.makeSlice 362 (.int .i64 (n:Int)) (.int .i64 (n:Int))).run prog W=.ok (.slice (some ⟨W.heap.size,0,none⟩) n n) (W.alloc (.cells (bV (List.replicate n false)) 4)):=by
 have h:=run_make_row' (P:=prog) 362 4 (.bool false) 1 underlying362 Ml rfl .i64 .i64 n (by omega) (by omega) W;have e:madeCells #[Value.bool false] n=bV (List.replicate n false):=by
  have:=rm (.bool false) rfl n;simp only[bV,List.map_replicate]at this ⊢;rw[show(#[Value.bool false]:Array Value)=(Value.bool false).cells from rfl,this];simp
 rw[e]at h;exact h
theorem ld {w:World}{b:Nat}{l:List Bool}{t:TypeId}(h:World.blk w b (bV l) t){k:Nat}{x:Bool}(hk:l[k]?=some x):w.cell? ⟨b,k,none⟩=some (.bool x):=by
 rw[aa h k];exact Ic hk
theorem tf {w:World}{b:Nat}{l:List Bool}{t:TypeId}(h:World.blk w b (bV l) t)(k:Nat)(x:Bool):World.blk (w.setCell ⟨b,k,none⟩ (.bool x)) b (bV (l.set k x)) t:=by
 rw[<-Ib];exact ag h k _
structure Yv (w:World)(AL:Bool)(total n m:Nat)(O:List Bool)(ob j5:Nat)(a:Bool)(wr:World):Prop where
 len:O.length=n
 few:n<=69/\m<=69
 blk:World.blk wr ob (bV O) 4
 keep:af w wr
 new:w.heap.size<=ob
 al:(a&&AL)=AL
 sum:j5+(l7 O+cW AL (JM n) n m O)=total
theorem QK (old data:ay)(ho:old.length<=16384)(hd:data.length<=16384)(w:World):
  Calls prog 220 #[aB old,aB data] w fun e w'=>e=.returned (.int .i64 ((da old data:Nat):Int))/\af w w':=by
 have C1:=hd0 (qK data.length w (by omega));have C2:=hd0 (qK old.length w (by omega));have PO:=hd0 (fun(i:Nat) (hi:i<=1000) W=>xx old i W (by omega) (by omega));have PD:=hd0 (fun(i:Nat) (hi:i<=1000) W=>xx data i W (by omega) (by omega));have LO:=hd0 (fun W=>ub old.length W ho);have LD:=hd0 (fun W=>ub data.length W hd);have hn:bN data.length 240<=69:=(aJ (by decide)).2 (by omega);have hm:bN old.length 240<=69:=(aJ (by decide)).2 (by omega);have HC:=hd0 (QE old data);have HO:=hd0 (El old data);have HG:=hd0 (fun i h=>Em old data (i:=i) h);have HT:=hd0 (fun i h=>QF old data (i:=i) h);have HA:Hid (Bc old data=(((au old.length).length:Int)==((au data.length).length:Int))):=hd0 (by unfold Bc;rw[aut];simp;omega);have aj0:Hid (da old data<=1000):=hd0 (by
  refine atE (gt old data) ?_;unfold aQ;have h2:bN (bN data.length 240) 60<=2:=(aJ (by decide)).2 (by omega);rcases aK data.length with⟨_,e⟩|⟨_,_,e⟩|⟨_,_,e⟩|⟨_,e⟩<;>rw[e]<;>simp only[atG,List.sum_nil]<;>omega)
 have HN:=hd0 (And.intro hn hm);generalize bN data.length 240=n at*;generalize bN old.length 240=m at*;generalize iW old data=O at*;generalize da old data=total at*;generalize Bc old data=AL at*;have nV:=o8 n (by omega) w;clear ho hd hn hm;go_enter func220,ntmps220;go_wp2_with fail;refine C1.out.mono ?_;rintro e w1 ⟨rfl,rfl⟩;go_wp2_with fail;refine C2.out.mono ?_;rintro e w1 ⟨rfl,rfl⟩;go_wp2_with fail;have HB:Hid (World.blk (w.alloc (.cells (bV (List.replicate n false)) 4)) w.heap.size (bV (fW O 0)) 4):=hd0 (by rw[xu,HO.out];exact aw _ _ _);have HK:Hid (af w (w.alloc (.cells (bV (List.replicate n false)) 4))):=hd0 ((ah.refl _ w).alloc _);obtain⟨ob,ic⟩:∃ ob,w.heap.size=ob:=⟨_,rfl⟩
 have xU:=hd0 ic;rw[ic]at HB;rw[ic];clear ic nV C1 C2;generalize (w.alloc (.cells (bV (List.replicate n false)) 4))=w0 at*;have hnI:(n:Int)<=69:=by have:=HN.out.1;omega
 go_loopw [28] (fun i wr=>∃ k:Nat,k<=n/\i=.int .i64 (k:Int)/\af w wr/\World.blk wr ob (bV (fW O k)) 4) (fun i _=>n-(intOf i).toNat)
 case atStart=>exact⟨0,by omega,rfl,HK.out,HB.out⟩
 case round=>
  clear HK HB;obtain⟨k,hk,rfl,hK,hB⟩:=hrel;have HK:=hd0 hK;have HB:=hd0 hB;clear hK hB;by_cases aM:k<n
  ·have dS:(k:Int)<(n:Int):=by omega
   have BZ:k<O.length:=by rw[HO.out];exact aM
   have c0:wr.cell? ⟨ob,k,none⟩=some (.bool false):=ld HB.out (z7 BZ);have f0:=ae HB.out ⟨ob,k,none⟩ rfl;have uq:Hid (∀ x,O[k]=x->∃ k':Nat,k'<=n/\Value.int .i64 ((k:Int)+1)=.int .i64 (k':Int)/\k'=k+1/\af w (wr.setCell ⟨ob,k,none⟩ (.bool x))/\World.blk (wr.setCell ⟨ob,k,none⟩ (.bool x)) ob (bV (fW O k')) 4):=hd0 (fun x hx=>by
    refine⟨k+1,by omega,by go_num,rfl,HK.out.setCell (p:=⟨ob,k,none⟩) (.inr (by rw[xU.out];exact atL _)) _,?_⟩;rw[xw BZ,hx];exact tf HB.out k x)
   by_cases hw:m<=k
   ·have hwi:(m:Int)<=(k:Int):=by omega
    have hx:=HT.out k BZ hw;go_wp2_with fail;obtain⟨k',h1,h2,h3,h4,h5⟩:=uq.out true hx;exact⟨⟨k',h1,h2,h4,h5⟩,by simp[intOf];omega⟩
   ·have hwi:¬(m:Int)<=(k:Int):=by omega
    have P1:=hd0 (PO.out k (by omega));have P2:=hd0 (PD.out k (by omega));have hx:=HG.out k BZ;have HX:=hd0 hx;clear hx;go_wp2_with fail;refine(P1.out _).mono ?_;rintro e w2 ⟨rfl,rfl⟩;go_wp2_with fail;refine(P2.out _).mono ?_;rintro e w3 ⟨rfl,rfl⟩;go_wp2_with fail;obtain⟨k',h1,h2,h3,h4,h5⟩:=uq.out (decide (aN old k≠aN data k)) HX.out;have e:(!(aN old k==aN data k))=decide (aN old k≠aN data k):=by by_cases h:aN old k=aN data k<;>simp[h]
    rw[<-e]at h4 h5;exact⟨⟨k',h1,h2,h4,h5⟩,by simp[intOf];omega⟩
  ·obtain rfl:k=n:=by omega
   have hB:=HB.out;have e1:fW O k=O:=by rw[<-HO.out];exact zZ O
   rw[e1]at hB;have HS:Hid (Yv w AL total k m O ob 0 true wr):=hd0 ⟨HO.out,HN.out,hB,HK.out,by rw[xU.out];exact atL _,rfl,by rw[HC.out];omega⟩;clear hB e1 HB HK HC HO HG HT xU aM hk PO PD;go_wp2_with fail
   go_loopw [5,6,8,10,11] (fun x y s c t wz=>∃(n m:Nat) (O:List Bool) (ob j5:Nat) (a:Bool),x=.int .i64 (n:Int)/\y=.int .i64 (m:Int)/\s=.slice (some ⟨ob,0,none⟩) n n/\c=.int .i64 (j5:Int)/\t=.bool a/\Hid (Yv w AL total n m O ob j5 a wz)) (fun x _ _ _ _ _=>(intOf x).toNat)
   case atStart=>exact⟨k,m,O,ob,0,true,rfl,rfl,rfl,rfl,rfl,HS⟩
   case round=>
    clear HS HN;obtain⟨wq,rfl⟩:∃ wq,wq=wr:=⟨_,rfl⟩
    obtain⟨n,m,O,ob,j5,a,rfl,rfl,rfl,rfl,rfl,HS⟩:=hrel;have hn:=HS.out.few.1;have hnI:(n:Int)<=69:=by omega
    have hmI:(m:Int)<=69:=by have:=HS.out.few.2;omega
    have Nz:j5+l7 O<=1000:=by have:=HS.out.sum;have:=aj0.out;omega
    go_wp2_with fail
    go_loopw [51,10] (fun i c wz=>∃ k:Nat,k<=n/\i=.int .i64 (k:Int)/\c=.int .i64 ((j5+l7 (O.take k):Nat):Int)/\wz=wq) (fun i _ _=>n-(intOf i).toNat)
    case atStart=>exact⟨0,by omega,rfl,by simp[l7],rfl⟩
    case round=>
     obtain⟨k,hk,rfl,rfl,rfl⟩:=hrel;by_cases aM:k<n
     ·have BZ:k<O.length:=by rw[HS.out.len];exact aM
      have dS:(k:Int)<(n:Int):=by omega
      have c0:wr.cell? ⟨ob,k,none⟩=some (.bool O[k]):=ld HS.out.blk (atI BZ);have hct:=Mf BZ;have Ak:=Mg (O.take k);have BO:(O.take k).length<=69:=by rw[atO];omega
      have hci:((j5+l7 (O.take k):Nat):Int)<=2000:=by omega
      obtain⟨x,hx⟩:∃ x,O[k]=x:=⟨_,rfl⟩
      rw[hx]at c0 hct;have HCT:=hd0 hct;clear hct hx Ak BO;generalize hcc:j5+l7 (O.take k)=cc at*;have Hcc:=hd0 hcc;clear hcc
      cases x with
      |true=>
       go_wp2_with fail;exact⟨⟨k+1,by omega,by go_num,by rw[HCT.out,atP rfl,<-atY,Hcc.out];go_num,trivial⟩,by simp[intOf];omega⟩
      |false=>
       go_wp2_with fail;exact⟨⟨k+1,by omega,by go_num,by rw[HCT.out];simp[Hcc.out],trivial⟩,by simp[intOf];omega⟩
     ·obtain rfl:k=n:=by omega
      rw[aux (by rw[HS.out.len];exact atL _)];clear aM hk;obtain⟨ac,hac⟩:∃ ac,j5+l7 O=ac:=⟨_,rfl⟩
      rw[hac]at Nz ⊢;have HAC:=hd0 hac;clear hac;by_cases h1:k<=1
      ·have h1i:(k:Int)<=1:=by omega
       have hs:=HS.out.sum;rw[Ek AL h1]at hs;have e:ac=total:=by have:=HAC.out;omega
       clear hs;go_wp2;go_ret;exact⟨by rw[<-e];rfl,HS.out.keep⟩
      ·have h1i:¬(k:Int)<=1:=by omega
       have dr:=Bd AL (n:=k) (by omega) (by omega) m O;have yh:=Bb (n:=k) (by omega);have ad8:=fun j=>aJ (n:=k) (each:=60) (k:=j) (by decide);have ad7:=fun j=>aJ (n:=m) (each:=60) (k:=j) (by decide);have e1:((k:Int)+60-1)/60=((bN k 60:Nat):Int):=by unfold bN;omega
       have e2:((k:Int)+60-1).tdiv 60=((k:Int)+60-1)/60:=auW (by omega);have e3:((m:Int)+60-1)/60=((bN m 60:Nat):Int):=by unfold bN;omega
       have e4:((m:Int)+60-1).tdiv 60=((m:Int)+60-1)/60:=auW (by omega);rw[e1]at e2;rw[e3]at e4;have RI:=hd0 (fun i h=>QH AL (bN k 60) k m O (i:=i) h);have SM:=hd0 (QG AL (bN k 60) k m O);have HUK:=hd0 ad8;have HUM:=hd0 ad7;have uq:=hd0 dr;have HUP:=hd0 yh;have hu1:((bN k 60:Nat):Int)<=69:=by omega
       have hu2:((bN m 60:Nat):Int)<=69:=by unfold bN;omega
       clear dr yh ad8 ad7 e1 e3;generalize bN k 60=up at*;generalize bN m 60=XA at*;generalize ir AL up k m O=O2 at*
       go_upto_region 20 with fail
       go_cut [11]from 49 to 136 (fun x wx=>x=.bool AL/\wx=wr)
       case first=>
        cases a with
        |false=>
         have Ob:AL=false:=by have:=HS.out.al;simpa using this.symm
         go_wp2_with fail;go_meet
         case rel=>exact⟨by rw[Ob],rfl⟩
        |true=>
         go_wp2_with fail;refine(LO.out _).mono ?_;rintro e w1 ⟨rfl,rfl⟩;go_wp2_with fail;refine(LD.out _).mono ?_;rintro e w1 ⟨rfl,rfl⟩;go_wp2_with fail;go_meet
         case rel=>exact⟨by rw[HA.out],rfl⟩
       case rest=>
        obtain⟨rfl,hwc⟩:=hcut;rw[hwc];clear hwc;have nV:=o8 up (by omega) wr;go_wp2_with fail;have qY:af wr (wr.alloc (.cells (bV (List.replicate up false)) 4)):=(ah.refl _ wr).alloc _;have HN3:Hid (w.heap.size<=wr.heap.size/\ob<wr.heap.size):=hd0 ⟨HS.out.keep.size,ai HS.out.blk⟩;have HI:Hid (af w (wr.alloc (.cells (bV (List.replicate up false)) 4))/\World.blk (wr.alloc (.cells (bV (List.replicate up false)) 4)) ob (bV O) 4/\World.blk (wr.alloc (.cells (bV (List.replicate up false)) 4)) wr.heap.size (bV (fW O2 0)) 4):=
         hd0 ⟨HS.out.keep.keep qY,ab qY HS.out.blk id,by rw[xu,SM.out];exact aw _ _ _⟩
        generalize wr.alloc (.cells (bV (List.replicate up false)) 4)=w1 at*;generalize wr.heap.size=ob2 at*;clear nV qY
        go_loopw [83] (fun i wz=>∃ j:Nat,j<=up/\i=.int .i64 (j:Int)/\Hid (af w wz/\World.blk wz ob (bV O) 4/\World.blk wz ob2 (bV (fW O2 j)) 4)) (fun i _=>up-(intOf i).toNat)
        case atStart=>exact⟨0,by omega,rfl,HI⟩
        case round=>
         clear HI;obtain⟨wy,rfl⟩:∃ wy,wy=wr:=⟨_,rfl⟩
         obtain⟨j,hj,rfl,HI⟩:=hrel;have dZ:ob≠ob2:=by have:=HN3.out.2;omega
         by_cases aM:j<up
         ·have dS:(j:Int)<(up:Int):=by omega
          have Cd:j<O2.length:=by rw[SM.out];exact aM
          have yc:j*60<k:=by have:=HUK.out j;omega
          have hjb:XA<=j↔m<=j*60:=HUM.out j;have c0:wy.cell? ⟨ob2,j,none⟩=some (.bool false):=ld HI.out.2.2 (z7 Cd);have f0:=ae HI.out.2.2 ⟨ob2,j,none⟩ rfl;have BX:=RI.out j Cd;obtain⟨b0,iC⟩:∃ b0,(!AL||decide (XA<=j)||decide (min (k-60*j) 60≠min (m-60*j) 60))=b0:=⟨_,rfl⟩
          rw[iC]at BX;have Hg2:=hd0 BX;have Hb0:=hd0 iC;clear BX iC
          go_upto_region 25 with fail
          go_cut []from 84 to 133 (fun wx=>wx=wy.setCell ⟨ob2,j,none⟩ (.bool b0))
          case first=>
           have UU:j*60<m->(min ((k:Int)-(j:Int)*60) 60==min ((m:Int)-(j:Int)*60) 60)=decide (min (k-60*j) 60=min (m-60*j) 60):=fun h=>by
            rw[aut];simp only[auq,aua];omega
           cases AL with
           |false=>
            have hb:b0=true:=by rw[<-Hb0.out];rfl
            subst hb;go_wp2_with fail;go_meet
            case rel=>rfl
           |true=>
            by_cases hq:XA<=j
            ·have XF:(XA:Int)<=(j:Int):=by omega
             have hb:b0=true:=by rw[<-Hb0.out,decide_eq_true hq];rfl
             subst hb;go_wp2_with fail;go_meet
             case rel=>rfl
            ·have XF:¬(XA:Int)<=(j:Int):=by omega
             have UV:=UU (by omega);have hb:(!decide (min (k-60*j) 60=min (m-60*j) 60))=b0:=by rw[<-Hb0.out,atQ hq];simp
             rw[<-UV]at hb;have Hb:=hd0 hb;have Fs:IntKind.i64.wrap ((j:Int)*60)=(j:Int)*60:=fh (by omega);clear hb UV UU;go_wp2_with fail;go_meet
             case rel=>rw[<-Hb.out];rfl
          case rest=>
           obtain rfl:=hcut;have Om:Hid (af w (wy.setCell ⟨ob2,j,none⟩ (.bool b0))/\World.blk (wy.setCell ⟨ob2,j,none⟩ (.bool b0)) ob (bV O) 4/\World.blk (wy.setCell ⟨ob2,j,none⟩ (.bool b0)) ob2 (bV ((fW O2 j).set j (b0||(dH O (j*60) 0).any id))) 4):=hd0 ⟨HI.out.1.setCell (p:=⟨ob2,j,none⟩) (.inr HN3.out.1) _,bC HI.out.2.1 ⟨ob2,j,none⟩ dZ _,by
            have:=tf HI.out.2.2 j b0;simpa[dH]using this⟩
           generalize wy.setCell ⟨ob2,j,none⟩ (.bool b0)=wx at*;have rS:(j:Int)<=69:=by omega
           have nI:j<(fW O2 j).length:=by rw[Mh O2 (by omega)];exact Cd
           have Hpl:=hd0 nI;clear c0 f0 HI nI;go_wp2_with fail
           go_loopw [18] (fun x wz=>∃ i:Nat,i<=60/\j*60+i<=k/\x=.int .i64 ((j*60+i:Nat):Int)/\Hid (af w wz/\World.blk wz ob (bV O) 4/\World.blk wz ob2 (bV ((fW O2 j).set j (b0||(dH O (j*60) i).any id))) 4)) (fun x _=>k-(intOf x).toNat)
           case atStart=>exact⟨0,by omega,by omega,by go_num,Om⟩
           case round=>
            clear Om;obtain⟨wv,rfl⟩:∃ wv,wv=wr:=⟨_,rfl⟩
            obtain⟨i,hi,hik,rfl,Fe⟩:=hrel;have Xx:IntKind.i64.wrap (((j:Int)+1)*60)=((j:Int)+1)*60:=fh (by omega);have Td:=HS.out.len;by_cases hc:i<60/\j*60+i<k
            ·have hci:((j*60+i:Nat):Int)<min (k:Int) (((j:Int)+1)*60):=by omega
             obtain⟨du,Z1⟩:∃ du,(b0||(dH O (j*60) i).any id)=du:=⟨_,rfl⟩
             have Zr:=QI (o:=O) (a:=j*60) (k:=i) (by omega);obtain⟨x,hx⟩:∃ x,O[j*60+i]?=some x:=⟨_,atI (by omega)⟩
             have Si:O[j*60+i]'(by omega)=x:=by rw[atI (by omega)]at hx;injection hx
             rw[Si]at Zr;have pq:(b0||(dH O (j*60) (i+1)).any id)=(du||x):=by rw[Zr,<-Z1,Bool.or_assoc]
             rw[Z1]at Fe;have c1:wv.cell? ⟨ob2,j,none⟩=some (.bool du):=ld Fe.out.2.2 (by rw[List.getElem?_set_self Hpl.out]);have f1:=ae Fe.out.2.2 ⟨ob2,j,none⟩ rfl;have c2:wv.cell? ⟨ob,j*60+i,none⟩=some (.bool x):=ld Fe.out.2.1 hx;have HN:Hid (∀ y,y=(du||x)->af w (wv.setCell ⟨ob2,j,none⟩ (.bool y))/\World.blk (wv.setCell ⟨ob2,j,none⟩ (.bool y)) ob (bV O) 4/\World.blk (wv.setCell ⟨ob2,j,none⟩ (.bool y)) ob2 (bV ((fW O2 j).set j (b0||(dH O (j*60) (i+1)).any id))) 4):=hd0 (fun y hy=>⟨Fe.out.1.setCell (p:=⟨ob2,j,none⟩) (.inr HN3.out.1) _,bC Fe.out.2.1 ⟨ob2,j,none⟩ dZ _,by
              have h:=tf Fe.out.2.2 j y;rw[List.set_set,hy]at h;rw[pq,hy];exact h⟩)
             have BV:(k:Int)<=69:=by omega
             have Hik:=hd0 hc;have Al:((j*60+i:Nat):Int)<(k:Int):=by omega
             clear Zr Z1 hx Si pq hc;generalize xY:j*60+i=pos at*;have yG:=hd0 xY;clear xY
             cases du with
             |true=>
              go_wp2_with fail;exact⟨⟨i+1,by have:=Hik.out;omega,by have:=Hik.out;have:=yG.out;omega,by have:=yG.out;go_num,hd0 (HN.out true rfl)⟩,by simp[intOf];omega⟩
             |false=>
              go_wp2_with fail;exact⟨⟨i+1,by have:=Hik.out;omega,by have:=Hik.out;have:=yG.out;omega,by have:=yG.out;go_num,hd0 (HN.out x (by simp))⟩,by simp[intOf];omega⟩
            ·have hci:¬((j*60+i:Nat):Int)<min (k:Int) (((j:Int)+1)*60):=by omega
             have lz:dH O (j*60) 60=dH O (j*60) i:=by
              by_cases sC:i=60
              ·rw[sC]
              ·exact QJ (by omega) hi
             have us:=Fe.out.2.2;rw[<-lz,Hb0.out.symm,show j*60=60*j by omega]at us;have sq:(!AL||decide (XA<=j)||decide (min (k-60*j) 60≠min (m-60*j) 60)||(dH O (60*j) 60).any id)=O2[j]:=(RI.out j Cd).symm;rw[sq,<-xw Cd]at us;have HI4:=hd0 (And.intro Fe.out.1 (And.intro Fe.out.2.1 us));clear sq lz us Fe;go_wp2_with fail;exact⟨⟨j+1,by omega,by go_num,HI4⟩,by simp[intOf];omega⟩
         ·obtain rfl:j=up:=by omega
          have e5:fW O2 j=O2:=by rw[<-SM.out];exact zZ O2
          have eS:=HI.out.2.2;rw[e5]at eS;have Bw:Hid (Yv w AL total j XA O2 ob2 ac AL wy):=hd0 ⟨SM.out,by omega,eS,HI.out.1,HN3.out.1,by cases AL<;>rfl,by have h1:=HS.out.sum;rw[uq.out]at h1;have h2:=HAC.out;omega⟩;have HLT:=hd0 HUP.out.1;clear eS e5 HI RI SM uq HUP aM hj;go_wp2_with fail;exact⟨⟨j,XA,O2,ob2,ac,AL,rfl,rfl,rfl,rfl,rfl,Bw⟩,by have:=HLT.out;simp[intOf];omega⟩
end
section
open Go.RowKit Go.Maps
attribute [local go_sem] atC
theorem abO (x y:Nt):decide (x=y)=(x.num==y.num&&(x.dir==y.dir&&(x.links==y.links&&x.data==y.data))):=by
 obtain⟨a,b,c,e⟩:=x;obtain⟨a',b',c',e'⟩:=y;rw[aut];simp
theorem Id (x y:Nt)(W:World):(Op.equalIn 10000 221 (kY x) (kY y)).run prog W=.ok (decide (x=y)) W:=by
 have u1:=underlying3;have u2:=underlying4;have u3:=underlying9;have hS:prog.underlying 221=some (.struct (prog.fieldsOf 221)):=by kernel_rfl
 have hp:prog.stoodInHeld 221=false:=by kernel_rfl
 rw[show(10000:Nat)=9999+1 from rfl,run_equalIn_agg W 9999 221 _ _ hS hp,abO];simp only[Program.fieldsOf,underlying221]
 go_simp
 by_cases h1:x.num=y.num<;>by_cases h2:x.dir=y.dir<;>by_cases h3:x.links=y.links<;>by_cases h4:x.data=y.data<;>simp[h1,h2,h3,h4]
theorem Be (x y:Nt)(W:World):(Op.equalIn 10000 221 (kY x) (kY y)).run prog W=.ok (decide (x=y)) W:=Id x y W
theorem uc (va vb:Value)(l m:List Nt)(w:World)(ha:jY gx 4 w va l)(hb:jY gx 4 w vb m)(hl:l.length<=1000000)(_hm:m.length<=1000000):
  Calls prog 147 #[va,vb] w fun e w'=>e=.returned (.bool (decide (l=m)))/\af w w':=by
 obtain⟨a,ca,rfl,hA⟩:=ha;obtain⟨b,cb,rfl,hB⟩:=hb;by_cases aU:l.length=m.length
 ·obtain⟨N,hN⟩:∃ N,m.length=N:=⟨_,rfl⟩
  rw[hN]at aU;rw[aU,hN];rw[aU]at hl;have HA:=hd0 hA;have HB:=hd0 hB;have RA:=hd0 aU;have HN:=hd0 hN;clear hA hB aU hN;have hq:((N:Int) != (N:Int))=false:=by rw[bne_eq_false_iff_eq]
  go_enter func147,ntmps147;go_wp2_with fail
  go_loopw [13] (fun i wr=>∃(k n:Nat),k<=N/\i=.int .i64 (k:Int)/\wr=w.drewN n/\Hid (l.take k=m.take k)) (fun i _=>N-(intOf i).toNat)
  case atStart=>exact⟨0,0,by omega,rfl,rfl,hd0 rfl⟩
  case round=>
   obtain⟨k,n,hk,rfl,rfl,Ht⟩:=hrel;by_cases aM:k<N
   ·have Hx:Hid (∃ x y,l[k]?=some x/\m[k]?=some y):=hd0 ⟨_,_,atI (by rw[RA.out];exact aM),atI (by rw[HN.out];exact aM)⟩;obtain⟨x,y,hx,hy⟩:=Hx.out;have Hxx:=hd0 hx;have Hyy:=hd0 hy;obtain⟨b1,o1,rfl,c1⟩:=HA.out k x hx;obtain⟨b2,o2,rfl,c2⟩:=HB.out k y hy;have x0:=c1 0 _ rfl;have x1:=c1 1 _ rfl;have x2:=c1 2 _ rfl;have x3:=c1 3 _ rfl;have y0:=c2 0 _ rfl;have y1:=c2 1 _ rfl;have y2:=c2 2 _ rfl;have y3:=c2 3 _ rfl;rw[Nat.add_zero]at x0 y0;have heq:=Be x y;clear hx hy Hx c1 c2;go_wp2_with fail;refine mV (by kernel_rfl) (by kernel_rfl) ?_
    repeat (quiet_step (fail))
    refine auE ?_;intro _ cJ;obtain⟨nq,rfl⟩:=cJ;by_cases hxy:x=y
    ·rw[show decide (x=y)=true from decide_eq_true hxy];have Hxy:=hd0 hxy;clear hxy;go_wp2_with fail;refine⟨⟨k+1,_,by omega,by go_num,rfl,hd0 ?_⟩,by simp[intOf];omega⟩;rw[atK,atK,Ht.out,Hxx.out,Hyy.out,Hxy.out]
    ·rw[show decide (x=y)=false from atQ hxy];have Vc:Hid (decide (l=m)=false):=hd0 (atQ (fun e=>hxy (by have hx:=Hxx.out;rw[e,Hyy.out]at hx;exact(auR hx).symm)));clear hxy;go_wp2;go_ret;exact⟨by rw[Vc.out];rfl,(ah.refl _ _).drewN _⟩
   ·have dc:k=N:=by omega
    have WQ:decide (l=m)=true:=by
     rw[decide_eq_true_iff];have h1:=Ht.out;rw[dc]at h1
     rwa [aux (by rw[RA.out];exact atL _),aux (by rw[HN.out];exact atL _)]at h1
    have Vc:=hd0 WQ;clear dc WQ;go_wp2;go_ret;exact⟨by rw[Vc.out];rfl,(ah.refl _ _).drewN _⟩
 ·have hq:((l.length:Int) != (m.length:Int))=true:=by rw[bne_iff_ne];omega
  have WQ:decide (l=m)=false:=atQ (fun e=>aU (by rw[e]));have Vc:=hd0 WQ;clear aU WQ hA hB;go_enter func147,ntmps147;go_wp2;go_ret;exact⟨by rw[Vc.out];rfl,ah.refl _ _⟩
def QL (v:Value):Option (DataW Value×List MemPlace):=match v with
 | .agg c=>match c.toList with
  |[.int .i64 _,.bool _,.int .i64 _,.string _]=>some (.held v,[])
  |_=>none
 |_=>none
theorem QM:nQ prog 221 QL (fun x=>.held (kY x)) kY (fun _=>True) ⟨0,false,0,[]⟩:=zX (mk:=kY) (fun _=>rfl) (fun v y h=>by
  unfold QL at h;split at h
  ·rename_i c
   split at h
   ·rename_i n d l s e
    refine⟨⟨n,d,l,s.data.toList⟩,?_⟩;unfold kY
    congr 1
    exact Array.ext' (by rw[e])
   ·cases h
  ·cases h) (fun _=>by kernel_rfl) (fun a b h=>by
  obtain⟨n,d,l,s⟩:=a;obtain⟨n',d',l',s'⟩:=b;simpa[kY]using h)
abbrev QN (w:World)(b:Nat)(l:List (Int×Nt)):Prop:=fg prog 3 QL (fun x=>.held (kY x)) w b l
def pa (l:List Nt):List (Int×Nt):=l.foldl (fun m y=>ee jQ y.num y m) []
theorem qL (l:List Nt)(y:Nt):pa (l++[y])=ee jQ y.num y (pa l):=by unfold pa;rw[List.foldl_append];rfl
theorem Mm (l:List Nt)(k:Int):((bD k (pa l)).getD ⟨0,false,0,[]⟩).data=cF l k:=by
 have key:∀ l:List Nt,bD k (pa l)=(l.filter fun x=>x.num==k).getLast?:=by
  refine pu ?_ ?_
  ·rfl
  ·intro l y ih;rw[qL,List.filter_append];by_cases h:y.num=k
   ·subst h;rw[j9,atP rfl];simp
   ·rw[j9,atR (Ne.symm h),ih];have:(y.num==k)=false:=by simpa using h
    simp[this]
 rw[key];unfold cF
 cases (l.filter fun x=>x.num==k).getLast?<;>rfl
theorem Mn:∀ l:List Nt,(pa l).length<=l.length:=by
 refine pu (atL _) ?_;intro l y ih;rw[qL,at0,List.length_singleton];have:=pz y.num y (pa l);split at this<;>omega
end
section
open Go.RowKit
attribute [local go_sem] atC
theorem ls.keep {w w':World}{p:Nat}{v:Vs}{a:eX}(h:ls w p v a)(k:af w w'):ls w' p v a:=h.same (k.on fun _ _=>id) k.size
theorem z8 {w:World}{p:Nat}{v:Vs}{a:eX}(h:ls w p v a)(hb:v.blocks<=4096):
  Calls prog 219 #[aq p] w fun e w'=>e=.returned (.int .i64 ((bL v:Nat):Int))/\af w w':=by
 have c12:w.cell? ⟨p,12,none⟩=some (aq a.pm):=aa h.own 12;have PB:=hd0 (gY h.map);have SH:=hd0 (sY v.blocks w (by omega));unfold bL;clear h;go_enter func219,ntmps219;go_wp2_with fail;refine PB.out.mono ?_;rintro e w1 ⟨rfl,rfl⟩;go_wp2_with fail;refine SH.out.mono ?_;rintro e w2 ⟨rfl,k2⟩;have HK:=hd0 k2;clear k2;go_wp2;go_ret;exact⟨rfl,HK.out⟩
theorem Mo {w:World}{p:Nat}{v:Vs}{a:eX}(h:ls w p v a)(h1:1<=v.blocks)(hu:(cV v.b.planes).length<=100000)(hn:∀ k,ak (cV v.b.planes) k=true->1<=k/\k<v.blocks):
  Calls prog 146 #[aq p] w fun e w'=>e=.returned (.int .i64 ((dh v:Nat):Int))/\af w w':=by
 have c12:w.cell? ⟨p,12,none⟩=some (aq a.pm):=aa h.own 12;have PF:=Lk h.map h1 hu;rw[Mj h1 hn]at PF;have PF:=hd0 PF;unfold dh;clear h hn hu;go_enter func146,ntmps146;go_wp2_with fail;refine PF.out.mono ?_;rintro e w1 ⟨rfl,k1⟩;have HK:=hd0 k1;clear k1;go_wp2;go_ret;exact⟨rfl,HK.out⟩
theorem fH {b:Nat}(h:b<=16384):aQ b<=100:=by
 unfold aQ;have h1:bN b 240<=69:=(aJ (by decide)).2 (by omega);have h2:bN (bN b 240) 60<=2:=(aJ (by decide)).2 (by omega);rcases aK b with⟨_,e⟩|⟨_,_,e⟩|⟨_,_,e⟩|⟨_,e⟩<;>rw[e]<;>simp only[atG,List.sum_nil]<;>omega
theorem Ie {w:World}{p:Nat}{v:Vs}{a:eX}(h:ls w p v a)(hb:v.blocks<=4096)(kind:Int):
  Calls prog 145 #[aq p,.int .i64 kind] w fun e w'=>e=.returned (.int .i64 ((cR v kind:Nat):Int))/\af w w':=by
 have HO:=hd0 (z8 h hb);have hh:bL v<=100:=fH (by omega);have hhi:(bL v:Int)<=100:=by omega
 have HH:=hd0 hh;clear h hh;unfold cR;generalize bL v=H at*;by_cases h8:kind=8
 ·subst h8;go_enter func145,ntmps145;go_wp2;go_ret;exact⟨by simp,ah.refl _ _⟩
 ·rw[atR h8];have b8:(kind==8)=false:=by simpa using h8
  by_cases h3:kind=3
  ·subst h3;go_enter func145,ntmps145;go_wp2_with fail;refine HO.out.mono ?_;rintro e w1 ⟨rfl,k1⟩;have HK:=hd0 k1;clear k1;go_wp2;go_ret;exact⟨by simp,HK.out⟩
  ·have b3:(kind==3)=false:=by simpa using h3
   by_cases h6:kind=6
   ·subst h6;go_enter func145,ntmps145;go_wp2_with fail;refine HO.out.mono ?_;rintro e w1 ⟨rfl,k1⟩;have HK:=hd0 k1;clear k1;go_wp2;go_ret;exact⟨by simp,HK.out⟩
   ·have b6:(kind==6)=false:=by simpa using h6
    rw[atR (fun h=>h.elim h3 h6)];go_enter func145,ntmps145;go_wp2_with fail;refine HO.out.mono ?_;rintro e w1 ⟨rfl,k1⟩;have HK:=hd0 k1;clear k1;go_wp2;go_ret;exact⟨by push_cast;rfl,HK.out⟩
theorem xy {w:World}{p:Nat}{v:Vs}{a:eX}(h:ls w p v a)(hl:v.b.list.length<=1000)(s:ay):
  Calls prog 66 #[aq p,aB s] w fun e w'=>e=.returned (.int .i64 (xo (dw v s)))/\af w w':=by
 have hmf:∀(fn:Fn) (first cap:Array Value) (w:World),(Instr.makeFunc fn first cap).run prog w=.ok (.func fn first cap) w:=fun _ _ _ _=>rfl;have hk:=(ah.refl (fun _=>False) w).alloc (.cells #[aB s] 9);have Xd:(w.alloc (.cells #[aB s] 9)).cell? ⟨p,11,none⟩=some a.sv:=aa (h.keep hk).own 11;have ID:=hd0 (zT v.b.list a.sv _ (cf eV (h.keep hk).list) hl (Ux (w.alloc (.cells #[aB s] 9)) w.heap.size s v.b.list (aa (aw w #[aB s] 9) 0)));have HK:=hd0 hk;unfold dw;clear h hk;go_enter func66,ntmps66;go_wp2_with fail;refine ID.out.mono ?_;rintro e w1 ⟨rfl,k1⟩;have bU:=hd0 (HK.out.keep k1);clear k1;go_wp2;go_ret;exact⟨rfl,bU.out⟩
end
end Go.Proofs.YtkghpdcloaiflaaGreatDoor
