import Derived.Test.YtkghpdcloaiflaaGreatDoorE43
set_option maxHeartbeats 8000000
set_option maxRecDepth 100000
namespace Go.Proofs.YtkghpdcloaiflaaGreatDoor
open _root_.Go.Proofs.Tryz
section
open Go.RowKit
attribute [local go_sem] auv
def bT (l:List Sn)(s:az):Int:=l.foldl (fun a x=>if x.name=s then x.id else a) 0
theorem E7 (l:List Sn)(x:Sn)(s:az):bT (l++[x]) s=if x.name=s then x.id else bT l s:=by simp[bT,List.foldl_append]
theorem uE {l:List Sn}{k:Nat}{x:Sn}(h:l[k]?=some x)(s:az):bT (l.take (k+1)) s=if x.name=s then x.id else bT (l.take k) s:=by
 rw[auD,h,Option.toList_some,E7]
theorem E8 {l:List Sn}{s:az}(h:∀ x∈l,x.name≠s)(a:Int):l.foldl (fun a x=>if x.name=s then x.id else a) a=a:=by
 induction l generalizing a with
 |nil=>rfl
 |cons x r ih=>
  rw[List.foldl_cons,auK (h x (by simp)),ih (fun y hy=>h y (by simp[hy]))]
theorem fZ {l:List Sn}(h:(l.map (·.name)).Nodup)(s:az):bT l s=((aK l s).getD dY).id:=by
 unfold bT
 induction l with
 |nil=>rfl
 |cons x r ih=>
  rw[auy,List.nodup_cons]at h;rw[List.foldl_cons];by_cases hx:x.name=s
  ·rw[auI hx,E8 (fun y hy e=>h.1 (au6.2 ⟨y,hy,e.trans hx.symm⟩))];have:aK (x::r) s=some x:=by unfold aK;rw[List.find?_cons_of_pos (by simpa using hx)]
   rw[this];rfl
  ·rw[auK hx,ih h.2];have:aK (x::r) s=aK r s:=by unfold aK;rw[List.find?_cons_of_neg (by simpa using hx)]
   rw[this]
theorem Rx {w:World}{p:Nat}{v:Vs}{a:eF}(h:kg w p v a)(hl:v.b.list.length<=1000)(A B:az):
  Calls prog 17 #[aq p,aC A,aC B] w fun e w'=>e=.returned (.tuple #[.int .i64 (bT v.b.list A),.int .i64 (bT v.b.list B)])/\af w w':=by
 have SN:=hd0 (rf h hl);have E9:(v.b.list.length:Int)<=1000:=by omega
 clear h;go_enter func17,ntmps17;go_wp2_with fail;refine SN.out.mono ?_;rintro e w1 ⟨x,rfl,ho,k1⟩;obtain⟨la,cap,rfl,hx⟩:=bZ eQ ho;have HX:=hd0 hx;have bU:=hd0 k1;clear ho hx k1 SN;generalize hL:v.b.list=L at*;have HLL:=hd0 hL;clear hL;go_wp2_with fail
 go_loopw [8,9,11] (fun xa xb i wr=>∃ k:Nat,k<=L.length/\i=.int .i64 (k:Int)/\xa=.int .i64 (bT (L.take k) A)/\xb=.int .i64 (bT (L.take k) B)/\wr=w1) (fun _ _ i _=>L.length-(intOf i).toNat)
 case atStart=>exact⟨0,by omega,rfl,rfl,rfl,rfl⟩
 case round=>
  obtain⟨k,hk,rfl,rfl,rfl,rfl⟩:=hrel;by_cases aL:k<L.length
  ·have dN:(k:Int)<(L.length:Int):=by omega
   obtain⟨y,hy⟩:∃ y,L[k]?=some y:=⟨_,auB aL⟩
   obtain⟨rb,o,rfl,hc⟩:=HX.out k y hy;have c0:wr.cell? ⟨rb,o+k*5,none⟩=some (.string ⟨y.name.toArray⟩):=hc 0 _ rfl;have c1:wr.cell? ⟨rb,o+k*5+1,none⟩=some (.int .i64 y.id):=hc 1 _ rfl;have HA:=hd0 (uE hy A);have HB:=hd0 (uE hy B);clear hc hy;by_cases h1:y.name=A
   ·have b1:(y.name==A)=true:=by simpa using h1
    have VY:Hid (bT (L.take (k+1)) A=y.id):=hd0 (by rw[HA.out,auI h1]);clear h1;by_cases h2:y.name=B
    ·have b2:(y.name==B)=true:=by simpa using h2
     have jI:Hid (bT (L.take (k+1)) B=y.id):=hd0 (by rw[HB.out,auI h2]);clear h2;go_wp2_with fail;exact⟨⟨k+1,by omega,by go_num,by rw[VY.out],by rw[jI.out],trivial⟩,by simp[intOf];omega⟩
    ·have b2:(y.name==B)=false:=by simpa using h2
     have jI:Hid (bT (L.take (k+1)) B=bT (L.take k) B):=hd0 (by rw[HB.out,auK h2]);clear h2;go_wp2_with fail;exact⟨⟨k+1,by omega,by go_num,by rw[VY.out],by rw[jI.out],trivial⟩,by simp[intOf];omega⟩
   ·have b1:(y.name==A)=false:=by simpa using h1
    have VY:Hid (bT (L.take (k+1)) A=bT (L.take k) A):=hd0 (by rw[HA.out,auK h1]);clear h1;by_cases h2:y.name=B
    ·have b2:(y.name==B)=true:=by simpa using h2
     have jI:Hid (bT (L.take (k+1)) B=y.id):=hd0 (by rw[HB.out,auI h2]);clear h2;go_wp2_with fail;exact⟨⟨k+1,by omega,by go_num,by rw[VY.out],by rw[jI.out],trivial⟩,by simp[intOf];omega⟩
    ·have b2:(y.name==B)=false:=by simpa using h2
     have jI:Hid (bT (L.take (k+1)) B=bT (L.take k) B):=hd0 (by rw[HB.out,auK h2]);clear h2;go_wp2_with fail;exact⟨⟨k+1,by omega,by go_num,by rw[VY.out],by rw[jI.out],trivial⟩,by simp[intOf];omega⟩
  ·obtain rfl:k=L.length:=by omega
   rw[auF];go_wp2;go_ret2;exact⟨by rw[HLL.out];rfl,bU.out⟩
end
section
open Go.RowKit
attribute [local go_sem] auv
theorem Aw:Rj:=fun l i v w base h hi hl=>Vo l i v w base h hi hl
def dfA:Except Int (az×az)->az
 | .error _=>[]
 | .ok x=>x.1
def dfB:Except Int (az×az)->az
 | .error _=>[]
 | .ok x=>x.2
theorem Vp {v:Vs}(hg:io v)(b t:az):(dfA (cX v b t)).length<=600/\(dfB (cX v b t)).length<=600:=by
 cases hx:cX v b t with
 |error e=>exact⟨avk _,avk _⟩
 |ok x=>
  obtain⟨s,d⟩:=x;show s.length<=600/\d.length<=600;unfold cX at hx;split at hx
  ·cases hx
  ·split at hx
   ·cases hx
   ·rename_i x hfx
    have h1:=fN hg (da hfx);split at hx
    ·injection hx with hx;injection hx with e1 e2;subst e1 e2;exact⟨h1,by simp⟩
    ·split at hx
     ·cases hx
     ·rename_i y hfy
      have h2:=fN hg (da hfy);injection hx with hx;injection hx with e1 e2;subst e1 e2;have h3:=ji (co v x) (co v y);have h4:=ji (co v y) (co v x);omega
theorem Ry {v:Vs}{b t:az}{x:az×az}(h:cX v b t=.ok x):aG t=true/\∃ y,aK v.b.list t=some y/\((b=[]/\x=(co v y,[]))\/(b≠[]/\∃ u,aK v.b.list b=some u/\x=(bQ (co v y) (co v u),bQ (co v u) (co v y)))):=by
 unfold cX at h;split at h
 ·cases h
 ·rename_i c
  refine⟨by cases hn:aG t with|true=>rfl|false=>exact absurd (.inl hn) c,?_⟩;split at h
  ·cases h
  ·rename_i y hy
   refine⟨y,hy,?_⟩;split at h
   ·rename_i hb
    injection h with h;exact .inl ⟨hb,h.symm⟩
   ·rename_i hb
    split at h
    ·cases h
    ·rename_i u hu
     injection h with h;exact .inr ⟨hb,u,hu,h.symm⟩
abbrev acy (blocks:Int)(av bv:Value)(base target:az):Value:=.agg #[.int .i64 blocks,av,bv,.string ⟨base.toArray⟩,.string ⟨target.toArray⟩]
theorem Ax {w:World}{b:Nat}{t:TypeId}{c0 c1 c2 c3 c4:Value}(h:World.blk w b #[c0,c1,c2,c3,c4] t):
  w.cell? ⟨b,0,none⟩=some c0/\w.cell? ⟨b,1,none⟩=some c1/\w.cell? ⟨b,2,none⟩=some c2/\w.cell? ⟨b,3,none⟩=some c3/\w.cell? ⟨b,4,none⟩=some c4:=
 ⟨aa h 0,aa h 1,aa h 2,aa h 3,aa h 4⟩
end
section
open Go.ChangeShapes Go.WideShapes Go.ChangeAt Go.Deep Go.RowKit
theorem Ay {H:Type}{d:DataW H}{l:List (DataW H)}(h:d∈l):Rows.uptoBulk d<=Rows.uptoBulkAll l:=by
 induction l with
 |nil=>cases h
 |cons x r ih=>
  simp only[Rows.uptoBulkAll]
  cases auX.1 h with
  |inl e=>subst e;omega
  |inr e=>have:=ih e;omega
section
variable {H:Type}{enc:TypeId×Value->H}{P:Program}{w:World}{base:Nat}{R5:Nat->Bool}{held:Bool}
theorem sF {t e:TypeId}{fs:Array Field}{fuel:Nat}{cs:List Value}{x:DataW H×List MemPlace}(ht:P.underlying t=some (.slice e))(he:P.underlying e=some (.struct fs))
  (Ck:oneCellFields P fs=true) (hC:P.cellsOf e=fs.size) (h:DataW.trod enc P w base R5 held fuel t cs=some x):
  (cs=[.slice none 0 0]/\x=(.nil,[]))\/
  ∃(a:Addr) (len cap m:Nat) (D:Nat->DataW H) (Pl:Nat->List MemPlace),cs=[.slice (some a) len cap]/\base<=a.block/\len<=cap/\cap<=maxLen/\m=(if R5 a.block then cap else len)/\
   x=(.slice ((List.range len).map D) ((List.range (m-len)).map fun j=>D (len+j)),MemPlace.row a (m*fs.size)++(List.range m).flatMap Pl)/\
   ∀ i,i<m->∃(ys:List (DataW H×List MemPlace)) (n:Nat),D i=.agg (ys.map (·.1))/\Pl i=ys.flatMap (·.2)/\ys.length=fs.size/\
    ∀(j:Nat) (f:Field),fs[j]?=some f->∃(v:Value) (y:DataW H×List MemPlace),w.cell? (a.add (i*fs.size+j))=some v/\ys[j]?=some y/\DataW.trod enc P w base R5 held n f.type [v]=some y:=by
 rcases open_slice ht h with h0|⟨a,len,cap,m,n,D,Pl,Ks,hb,hl,hm,Ju,hx,hi⟩
 ·exact .inl h0
 ·refine .inr ⟨a,len,cap,m,D,Pl,Ks,hb,hl,hm,Ju,by rw[hC]at hx;exact hx,fun i him=>?_⟩;obtain⟨cs',hc,Jm⟩:=hi i him;rw[hC]at hc;obtain⟨ys,n',Wf,hy,aV,hyl,hf⟩:=DataW.trod_struct he Jm;obtain⟨_,sH,ni⟩:=World.cells?_some hc;simp only[Prod.mk.injEq]at hy;refine⟨ys,n',hy.1,hy.2,hyl,fun j f hj=>?_⟩;obtain⟨ho,hk⟩:=hone_of Ck j f hj;have CD:j<fs.size:=(auW.1 hj).1;have gi:=ni j CD;have hv:cs'[j]?=some (cs'[j]'(by omega)):=auB (by omega);have h1:=hf j f hj;rw[ho,hk]at h1;have adx:(cs'.drop j).take 1=[cs'[j]'(by omega)]:=by
   rw[List.drop_eq_getElem_cons (by omega)];rfl
  rw[adx]at h1;have hys:ys[j]?=some (ys[j]'(by omega)):=auB (by omega);refine⟨_,_,?_,hys,h1.trans hys⟩;rw[<-Go.Deep.add_add,gi,hv]
end
theorem Nu {W:World}{b o:Nat}{sp:Option Nat}{u:Value}(h:W.cell? ((⟨b,o,sp⟩:Addr).add 0)=some u):sp=none:=by
 rcases sp with _|q
 ·rfl
 ·exfalso;simp[Addr.add,World.cell?]at h
  cases hb:W.heap[b]? with
  |none=>simp[hb]at h
  |some ob=>cases ob<;>simp[hb]at h
section
variable {H:Type}{enc:TypeId×Value->H}
def Vq (c:bP):DataW H:=.agg [.lit (.int .i64 c.kind),.lit (.string c.path),.lit (.string c.dest),.lit (.int .i64 c.pos),.lit (.string c.data)]
theorem yc {W:World}{fuel:Nat}{v:Value}{d:DataW H}{p:List MemPlace}(hf:DataW.trod enc prog W 0 (fun _=>true) true fuel 29 [v]=some (d,p))(KQ:Rows.uptoBulk d<=1048576):
  ∃ l:List bP,jS oE 5 W v l/\l.length<=1048576/\∀ c∈l,c.Small/\-9223372036854775808<=c.kind/\c.kind<=9223372036854775807:=by
 rcases sF underlying29 underlying55 (by kernel_rfl) (by kernel_rfl) hf with⟨Ks,_⟩|⟨a,len,cap,m,D,Pl,Ks,_,hl,hm,Ju,hx,hi⟩
 ·obtain rfl:v=_:=by simpa using Ks
  exact⟨[],⟨none,0,rfl,fun j x h=>by simp at h⟩,by simp,fun c hc=>by cases hc⟩
 ·obtain rfl:v=_:=by simpa using Ks
  have Cj:=avO Prod.fst hx;simp only at Cj;subst Cj;simp only[if_true]at Ju;have each:∀ i,i<len->∃ c:bP,(∀ k u,(oE c)[k]?=some u->W.cell? (a.add (i*5+k))=some u)/\D i=Vq c/\(-9223372036854775808<=c.pos/\c.pos<=9223372036854775807)/\(-9223372036854775808<=c.kind/\c.kind<=9223372036854775807):=by
   intro i IU;obtain⟨ys,n,hD,_,hyl,gi⟩:=hi i (by omega);obtain⟨z0,z1,z2,z3,z4,rfl⟩:∃ z0 z1 z2 z3 z4,ys=[z0,z1,z2,z3,z4]:=by
    have hs:ys.length=5:=hyl
    match ys,hs with
    |[a,b,c,d,e],_=>exact⟨a,b,c,d,e,rfl⟩
   obtain⟨v0,y0,c0,e0,t0⟩:=gi 0 _ rfl;obtain⟨v1,y1,c1,e1,t1⟩:=gi 1 _ rfl;obtain⟨v2,y2,c2,e2,t2⟩:=gi 2 _ rfl;obtain⟨v3,y3,c3,e3,t3⟩:=gi 3 _ rfl;obtain⟨v4,y4,c4,e4,t4⟩:=gi 4 _ rfl;obtain⟨n0,f0,rfl,w0⟩:=DataW.trod_int underlying3 t0;obtain⟨s1,f1,rfl,_⟩:=DataW.trod_string underlying9 t1;obtain⟨s2,f2,rfl,_⟩:=DataW.trod_string underlying9 t2;obtain⟨n3,f3,rfl,w3⟩:=DataW.trod_int underlying3 t3;obtain⟨s4,f4,rfl,_⟩:=DataW.trod_string underlying9 t4;injection f0 with f0;injection f1 with f1;injection f2 with f2;injection f3 with f3;injection f4 with f4;subst f0 f1 f2 f3 f4;refine⟨⟨n0,s1.data.toList,s2.data.toList,n3,s4.data.toList⟩,fun k u hku=>?_,?_,tS w3,tS w0⟩
   ·match k,hku with
    |0,h=>cases h;exact c0
    |1,h=>cases h;exact c1
    |2,h=>cases h;exact c2
    |3,h=>cases h;exact c3
    |4,h=>cases h;exact c4
    |k+5,h=>simp[oE]at h
   ·have q0:=avG e0;have q1:=avG e1;have q2:=avG e2;have q3:=avG e3;have q4:=avG e4;rw[hD];simp only[auy,List.map_nil,q0,q1,q2,q3,q4];rfl
  obtain⟨g,hg⟩:∃ g:Nat->bP,∀ i,i<len->(∀ k u,(oE (g i))[k]?=some u->W.cell? (a.add (i*5+k))=some u)/\D i=Vq (g i)/\(-9223372036854775808<=(g i).pos/\(g i).pos<=9223372036854775807)/\(-9223372036854775808<=(g i).kind/\(g i).kind<=9223372036854775807):=
   ⟨fun i=>if hl:i<len then(each i hl).choose else bP.zero,fun i hl=>by simp only[dif_pos hl];exact(each i hl).choose_spec⟩
  have afg:∀ i,i<len->Rows.uptoBulk (D i)<=1048576:=fun i IU=>by
   have h1:Rows.uptoBulk (D i)<=Rows.uptoBulkAll ((List.range len).map D):=Ay (au6.2 ⟨i,avw.2 IU,rfl⟩);simp only[Rows.uptoBulk]at KQ;omega
  have aV:∀(L:List (DataW H)),L.length<=Rows.uptoBulkAll L:=by
   intro L
   induction L with
   |nil=>simp
   |cons x r ih=>
    simp only[Rows.uptoBulkAll,auA];have:1<=Rows.uptoBulk x:=by
     cases x with
     |lit l=>cases l<;>simp[Rows.uptoBulk]
     |_=>simp[Rows.uptoBulk]
    omega
  refine⟨(List.range len).map g,⟨some a,cap,by simp,fun j x hx=>?_⟩,?_,fun c hc=>?_⟩
  ·have CD:j<len:=by have:=(auP.1 hx).1;simpa using this
   have TE:g j=x:=by
    rw[avB,avC CD]at hx;exact avG hx
   have h1:=(hg j CD).1;rw[TE]at h1;obtain⟨b,o,sp⟩:=a;have hsp:sp=none:=Nu ((hg 0 (by omega)).1 0 _ rfl);subst hsp;refine⟨b,o,rfl,fun i c hc=>?_⟩;have h2:=h1 i c hc;rw[gA]at h2;rw[auQ];exact h2
  ·have h1:=aV ((List.range len).map D);simp only[Rows.uptoBulk]at KQ;simp only[au4,List.length_range]at h1 ⊢;omega
  ·obtain⟨i,hi2,rfl⟩:=au6.1 hc;have IU:=avw.1 hi2;obtain⟨_,hD,hp,hkd⟩:=hg i IU;have h1:=afg i IU;rw[hD]at h1;have h3:Rows.uptoBulk (Vq (H:=H) (g i))=1+((g i).path.length+1+((g i).dest.length+1+(1+((g i).data.length+1))))+1:=by simp[Vq,Rows.uptoBulk,Rows.uptoBulkAll]
   exact⟨⟨by omega,by omega,by omega,hp⟩,hkd⟩
theorem Rz {W:World}{base:Nat}{v:Value}{d:DataW H}{p:List MemPlace}{ds:List (DataW H)}(cq:Value.okWide prog W .any base 31 v)(h:DataW.Trod enc prog W 0 (fun _=>true) true 31 v d p)
  (hk:Rows.uptoSmall H ds=true) {j:Nat} (hj:ds[j]?=some d):
  ∃(n:Int) (av bv:Value) (cs bs:List bP) (b t:az),v=acy n av bv b t/\(-9223372036854775808<=n/\n<=9223372036854775807)/\jS oE 5 W av cs/\jS oE 5 W bv bs/\cs.length<=1048576/\bs.length<=1048576/\(∀ c∈cs,c.Small)/\(∀ c∈bs,c.Small)/\b.length<=1048576/\t.length<=1048576:=by
 obtain⟨cs,rfl,cK⟩:=okWide_struct underlying31 cq;obtain⟨c0,c1,c2,c3,c4,rfl⟩:∃ c0 c1 c2 c3 c4,cs=#[c0,c1,c2,c3,c4]:=by
  have hs:cs.size=5:=cK.trans (by kernel_rfl);obtain⟨l⟩:=cs
  match l,hs with
  |[a,b,c,d,e],_=>exact⟨a,b,c,d,e,rfl⟩
 obtain⟨fuel,hf⟩:=h;obtain⟨xs,n,_,hx,_,aV,ru⟩:=DataW.trod_struct underlying31 hf;have e3:prog.cellsOf 3=1:=by kernel_rfl
 have e9:prog.cellsOf 9=1:=by kernel_rfl
 have e29:prog.cellsOf 29=1:=by kernel_rfl
 obtain⟨x0,x1,x2,x3,x4,rfl⟩:∃ x0 x1 x2 x3 x4,xs=[x0,x1,x2,x3,x4]:=by
  match xs,aV with
  |[a,b,c,d,e],_=>exact⟨a,b,c,d,e,rfl⟩
 have h0:=ru 0 _ rfl;have h1:=ru 1 _ rfl;have h2:=ru 2 _ rfl;have h3:=ru 3 _ rfl;have h4:=ru 4 _ rfl;have hd:d=.agg [x0.1,x1.1,x2.1,x3.1,x4.1]:=avO Prod.fst hx;have hb:=Ay (auC hj);have fi:Rows.uptoBulkAll ds<=1048576:=by simpa[Rows.uptoSmall]using hk
 rw[hd]at hb;have uV:Rows.uptoBulk (DataW.agg [x0.1,x1.1,x2.1,x3.1,x4.1])=Rows.uptoBulk x0.1+(Rows.uptoBulk x1.1+(Rows.uptoBulk x2.1+(Rows.uptoBulk x3.1+Rows.uptoBulk x4.1)))+1:=by simp[Rows.uptoBulk,Rows.uptoBulkAll]
 obtain⟨n0,f0,rfl,w0⟩:=DataW.trod_int underlying3 h0;obtain⟨s3,f3,rfl,_⟩:=DataW.trod_string underlying9 h3;obtain⟨s4,f4,rfl,_⟩:=DataW.trod_string underlying9 h4;have g0:c0=Value.int .i64 n0:=by
  have h:List.take (prog.cellsOf 3) (List.drop 0 (Value.agg #[c0,c1,c2,c3,c4]).cells.toList)=[Value.int .i64 n0]:=f0;rw[e3]at h;simpa[Value.cells]using h
 have g3:c3=Value.string s3:=by
  have h:List.take (prog.cellsOf 9) (List.drop 3 (Value.agg #[c0,c1,c2,c3,c4]).cells.toList)=[Value.string s3]:=f3;rw[e9]at h;simpa[Value.cells]using h
 have g4:c4=Value.string s4:=by
  have h:List.take (prog.cellsOf 9) (List.drop 4 (Value.agg #[c0,c1,c2,c3,c4]).cells.toList)=[Value.string s4]:=f4;rw[e9]at h;simpa[Value.cells]using h
 have k1:DataW.trod enc prog W 0 (fun _=>true) true n 29 [c1]=some (x1.1,x1.2):=by
  have h:DataW.trod enc prog W 0 (fun _=>true) true n 29 (List.take (prog.cellsOf 29) (List.drop 1 (Value.agg #[c0,c1,c2,c3,c4]).cells.toList))=some x1:=h1;rw[e29]at h;simpa[Value.cells]using h
 have k2:DataW.trod enc prog W 0 (fun _=>true) true n 29 [c2]=some (x2.1,x2.2):=by
  have h:DataW.trod enc prog W 0 (fun _=>true) true n 29 (List.take (prog.cellsOf 29) (List.drop 2 (Value.agg #[c0,c1,c2,c3,c4]).cells.toList))=some x2:=h2;rw[e29]at h;simpa[Value.cells]using h
 have l3:Rows.uptoBulk (DataW.lit (H:=H) (.string s3.data.toList))=s3.data.toList.length+1:=by simp[Rows.uptoBulk]
 have l4:Rows.uptoBulk (DataW.lit (H:=H) (.string s4.data.toList))=s4.data.toList.length+1:=by simp[Rows.uptoBulk]
 simp only at uV hb;obtain⟨cs,a1,a2,a3⟩:=yc k1 (by omega);obtain⟨bs,b1,b2,b3⟩:=yc k2 (by omega);subst g0 g3 g4;exact⟨n0,c1,c2,cs,bs,s3.data.toList,s4.data.toList,rfl,tS w0,a1,b1,a2,b2,fun c h=>(a3 c h).1,fun c h=>(b3 c h).1,by omega,by omega⟩
end
end
section
open Go.RowKit
attribute [local go_sem] auv
theorem BG {w:World}{p:Nat}{v:Vs}{a:eF}{q:Nat}{h:Hd}{l:List Nat}{lv:Value}(hv:kg w p v a)(hl:v.b.list.length<=1000)(x:eT w p a q h l lv)(hid:((aK v.b.list h.name).getD dY).id≠h.id)
  (i:Nat) (hi:i<l.length) (tX:l.length<=5000):
  Calls prog 21 #[aq q,.int .i64 (i:Int)] w fun e w'=>e=.returned (.tuple #[.string ⟨#[]⟩,.int .i64 162])/\af w w':=by
 have hfd:∀(x0 x1 x2 x3 x4:Value) (W:World),(Instr.field 85 (.agg #[x0,x1,x2,x3,x4]) 1).run prog W=.ok x1 W:=fun _ _ _ _ _ _=>by kernel_rfl
 obtain⟨la,cap,ZN,c0,c1,c3,c8,_⟩:=x.cells;have HV:=hd0 hv;have HL:=hd0 hl;have b1:(((aK v.b.list h.name).getD dY).id != h.id)=true:=by simpa using hid
 have akf:(i:Int)<(l.length:Int):=by omega
 have Z5:(l.length:Int)<=5000:=by omega
 clear hv hl x hid hi tX;go_enter func21,ntmps21
 go_upto_region 3 with fail
 go_cut [20]from 8 to 66 (fun y wx=>y=.bool true/\af w wx)
 case first=>
  have e0:∀ X,(w.ext X).cell? ⟨q,0,none⟩=some (aq p):=fun X=>((ay w X).cell (p:=⟨q,0,none⟩) (ak c0) id).trans c0;have e1:∀ X,(w.ext X).cell? ⟨q,1,none⟩=some (.int .i64 h.id):=fun X=>((ay w X).cell (p:=⟨q,1,none⟩) (ak c1) id).trans c1;have e3:∀ X,(w.ext X).cell? ⟨q,3,none⟩=some (aC h.name):=fun X=>((ay w X).cell (p:=⟨q,3,none⟩) (ak c3) id).trans c3;refine bA (by kernel_rfl) (by kernel_rfl) ?_
  repeat (quiet_step (with_reducible exact aZ (nP (HV.out.keep (ay _ _)) HL.out h.name)))
  refine avt ?_;intro _ cf;obtain⟨xq,rfl⟩:=cf;go_wp2_with fail;go_meet
  case rel=>exact⟨rfl,ay _ _⟩
 case rest=>
  obtain⟨rfl,hk⟩:=hcut;have Fg:=hd0 hk;clear hk c0 c1 c3 c8;go_wp2;go_ret2;exact⟨rfl,Fg.out⟩
theorem Nv {w:World}{p:Nat}{v:Vs}{a:eF}{q:Nat}{h:Hd}{l:List Nat}{lv:Value}(hv:kg w p v a)(hl:v.b.list.length<=1000)(x:eT w p a q h l lv)(hid:((aK v.b.list h.name).getD dY).id≠h.id)
  (dW:0<l.length) (tX:l.length<=5000):
  Calls prog 23 #[aq q] w fun e w'=>e=.returned (.tuple #[.string ⟨#[]⟩,.int .i64 162])/\af w w':=by
 have NH:=hd0 (EY fX w rfl);have RG:=hd0 (fun W (k:af w W)=>BG (hv.keep k) hl (x.keep k) hid 0 dW tX);have HX:=hd0 x;have aq9:(0:Int)<(l.length:Int):=by omega
 have Z5:(l.length:Int)<=5000:=by omega
 clear hv hl x hid dW;go_enter func23,ntmps23;go_wp2_with fail;refine NH.out.mono ?_;rintro e w1 ⟨rfl,_,k1⟩;have bU:=hd0 k1;have PG:=hd0 (RG.out w1 k1);obtain⟨la,cap,ZN,_,_,_,c8,_⟩:=(HX.out.keep k1).cells;clear k1 NH RG;go_wp2_with fail
 go_loopw [18] (fun y wr=>y=.int .i64 0/\wr=w1) (fun _ _=>0)
 case atStart=>exact⟨rfl,rfl⟩
 case round=>
  obtain⟨rfl,rfl⟩:=hrel;go_wp2_with fail;refine PG.out.mono ?_;rintro e w2 ⟨rfl,k2⟩;have bu:=hd0 (bU.out.keep k2);clear k2 PG;go_wp2;go_ret2;exact⟨rfl,bu.out⟩
end
section
open Go.RowKit
attribute [local go_sem] auv
structure qk (w ws:World)(Ls:Nat->Prop)(p:Nat)(v:Vs)(a:eF)(q:Nat)(h:Hd)(l:List Nat)(lv:Value)(wr:World):Prop where
 at_:kg wr p v a
 foot:∀ g,a.foot p g->w.heap.size<=g
 keep:af w wr
 plan:eT wr p a q h l lv
 size:ws.heap.size<=wr.heap.size
 own:∀ b,Ls b->b<ws.heap.size/\wr.heap[b]?=ws.heap[b]?/\¬ a.foot p b
section
variable {w ws wr w2:World}{Ls:Nat->Prop}{p:Nat}{v:Vs}{a a2:eF}{q:Nat}{h:Hd}{l:List Nat}{lv:Value}
theorem qk.keep' (s:qk w ws Ls p v a q h l lv wr)(k:af wr w2):qk w ws Ls p v a q h l lv w2:=
 ⟨s.at_.keep k,s.foot,s.keep.keep k,s.plan.keep k,aux s.size k.size,fun b hb=>⟨(s.own b hb).1,(k.block b (auL (s.own b hb).1 s.size) id).trans (s.own b hb).2.1,(s.own b hb).2.2⟩⟩
theorem qk.to (s:qk w ws Ls p v a q h l lv wr)(_hw:w.heap.size<=ws.heap.size)(k:eg wr p v a v a2 w2):qk w ws Ls p v a2 q h l lv w2 where
 at_:=k.at_
 foot g hg:=(k.foot g hg).elim (s.foot g) (fun h1=>aux s.keep.size h1)
 keep:=s.keep.trans k.mod (fun g hl hg=>by have:=s.foot g hg;omega)
 plan:=s.plan.to (__v:=v) (__u:=v) k.mod k.foot
 size:=aux s.size k.mod.size
 own b hb:=⟨(s.own b hb).1,(k.mod.block b (auL (s.own b hb).1 s.size) (s.own b hb).2.2).trans (s.own b hb).2.1,fun hf=>(k.foot b hf).elim (s.own b hb).2.2 (fun h1=>by have:=(s.own b hb).1;have:=s.size;omega)⟩
theorem qk.cell (s:qk w ws Ls p v a q h l lv wr){c:Addr}{x:Value}(hb:Ls c.block)(hc:ws.cell? c=some x):wr.cell? c=some x:=by
 rw[World.cell?_of_block (w:=ws) (s.own c.block hb).2.1];exact hc
end
def uM (v:Vs)(n:Nat):az:=match v.rd n with
 | .ok s=>s
 | .error _=>[]
theorem ye {v:Vs}(hg:io v){b t:az}{h:Hd}{l:List Nat}(hp:iS v b t=.ok (h,l)):∀ n∈l,1<=n/\n<v.blocks/\v.rd n=.ok (uM v n)/\(uM v n).length<=240:=by
 have key:∀ x∈v.b.list,∀ n,am (co v x) n=true->1<=n/\n<v.blocks/\v.rd n=.ok (uM v n)/\(uM v n).length<=240:=by
  intro x hx n hn;obtain⟨h1,h2,s,h3,h4⟩:=Av hg hx n hn;have:uM v n=s:=by unfold uM;rw[h3]
  exact⟨h1,h2,by rw[this];exact h3,by rw[this];exact h4⟩
 intro n hn;unfold iS at hp
 cases hd:cX v b t with
 |error e=>rw[hd]at hp;cases hp
 |ok x=>
  obtain⟨mX,drop⟩:=x;rw[hd]at hp;simp only at hp;split at hp
  ·cases hp
  ·injection hp with hp;injection hp with _ hp;subst hp;rw[mw]at hn;unfold cX at hd;split at hd
   ·cases hd
   ·split at hd
    ·cases hd
    ·rename_i y hy
     split at hd
     ·injection hd with hd;injection hd with hd _;subst hd;exact key y (da hy) n hn
     ·split at hd
      ·cases hd
      ·injection hd with hd;injection hd with hd _;subst hd;rw[ku,auT]at hn;exact key y (da hy) n hn.1
structure RA (v:Vs)(b t:az)(h:Hd)(l:List Nat):Prop where
 diff:cX v b t=.ok (dfA (cX v b t),dfB (cX v b t))
 list:l=cy (dfA (cX v b t))
 id:h.id=bT v.b.list t
 base:h.base=bT v.b.list b
 less:bT v.b.list b<bT v.b.list t
 name:h.name=t/\aG t=true
 first:((aK v.b.list h.name).getD dY).id=h.id
 count:h.count=(l.length:Int)
 drop:h.drop=dfB (cX v b t)
 few:l.length<=4800
theorem Az {v:Vs}(hg:io v){b t:az}{h:Hd}{l:List Nat}(hp:iS v b t=.ok (h,l)):RA v b t h l:=by
 unfold iS at hp
 cases hd:cX v b t with
 |error e=>rw[hd]at hp;cases hp
 |ok x=>
  obtain⟨mX,drop⟩:=x;have adZ:=(Vp hg b t).1;rw[hd]at hp adZ;simp only at hp;have nZ:∃ y,aK v.b.list t=some y/\aG t=true:=by
   unfold cX at hd;split at hd
   ·cases hd
   ·rename_i c
    cases hy:aK v.b.list t with
    |none=>rw[hy]at hd;cases hd
    |some y=>exact⟨y,rfl,by cases hn:aG t with|true=>rfl|false=>exact absurd (.inl hn) c⟩
  obtain⟨y,hy,nZ⟩:=nZ;have TF:y.name=t:=by
   have:=avx hy;simpa using this
  split at hp
  ·cases hp
  ·rename_i aL
   injection hp with hp;injection hp with h1 h2;rw[<-fZ hg.list.names,<-fZ hg.list.names]at aL;have e1:h.name=t:=by rw[<-h1];show((aK v.b.list t).getD dY).name=t;rw[hy];exact TF
   refine⟨by rw[hd];rfl,by rw[hd];exact h2.symm,by rw[<-h1,fZ hg.list.names],by rw[<-h1,fZ hg.list.names],by omega,⟨e1,nZ⟩,by rw[e1,<-h1],by rw[<-h1,h2],by rw[hd,<-h1];rfl,?_⟩;rw[<-h2];have:=rY mX;show(cy mX).length<=4800;have hf:mX.length<=600:=adZ;omega
end
theorem Vr {v:Vs}{b t:az}{h:Hd}{l:List Nat}(hp:iS v b t=.ok (h,l)):∃ y,aK v.b.list t=some y/\∀ n∈l,am (co v y) n=true:=by
 unfold iS at hp
 cases hd:cX v b t with
 |error e=>rw[hd]at hp;cases hp
 |ok x=>
  obtain⟨mX,drop⟩:=x;rw[hd]at hp;simp only at hp;split at hp
  ·cases hp
  ·injection hp with hp;injection hp with _ hp;subst hp;obtain⟨_,y,hy,hq⟩:=Ry hd;refine⟨y,hy,fun n hn=>?_⟩;rw[mw]at hn;rcases hq with⟨_,e⟩|⟨_,u,_,e⟩
   ·injection e with e _;rw[<-e];exact hn
   ·injection e with e _;rw[e,ku,auT]at hn;exact hn.1
theorem Nw {l:List Sn}(h:(l.map (·.name)).Nodup){x y:Sn}(hx:x∈l)(hy:y∈l)(e:x.name=y.name):x=y:=by
 induction l with
 |nil=>cases hx
 |cons z r ih=>
  rw[auy,List.nodup_cons]at h;rcases auX.1 hx with e1|h1
  ·rcases auX.1 hy with e2|h2
   ·rw[e1,e2]
   ·exact(h.1 (au6.2 ⟨y,h2,by rw[<-e,e1]⟩)).elim
  ·rcases auX.1 hy with e2|h2
   ·exact(h.1 (au6.2 ⟨x,h1,by rw[e,e2]⟩)).elim
   ·exact ih h.2 h1 h2
theorem IQ {v u:Vs}(hv:io v)(hu:io u)(hs:dS v u){b t:az}{h:Hd}{l:List Nat}(hp:iS v b t=.ok (h,l))(hid:bT u.b.list t=h.id):
  ((aK u.b.list h.name).getD dY).id=h.id/\∀ n∈l,1<=n/\n<u.blocks/\u.rd n=.ok (uM v n)/\(uM v n).length<=240:=by
 have PS:=Az hv hp;have e1:h.name=t:=PS.name.1;rw[fZ hu.list.names]at hid;refine⟨by rw[e1];exact hid,?_⟩;obtain⟨y,hy,sK⟩:=Vr hp;have hyi:y.id=h.id:=by have:=PS.first;rw[e1,hy]at this;exact this
 have hyv:=da hy;have TF:y.name=t:=by have:=avx hy;simpa using this
 have hlo:=hv.list.idlo y hyv
 cases hz:aK u.b.list t with
 |none=>rw[hz]at hid;have h0:(0:Int)=h.id:=hid;omega
 |some z=>
  rw[hz]at hid;have hzi:z.id=h.id:=hid;have hzu:=da hz;have hzn:z.name=t:=by have:=avx hz;simpa using this
  have hyu:y∈u.b.list:=by
   rcases hs.old z hzu with h1|h1
   ·rw[Nw hv.list.names hyv h1 (TF.trans hzn.symm)];exact hzu
   ·omega
  have hk:=hs.kept y hyv hyu;intro n hn;obtain⟨_,_,a3,a4⟩:=ye hv hp n hn;have h1:=sK n hn;obtain⟨b1,b2,_⟩:=Av hu hyu n (by rw[hk.1];exact h1);exact⟨b1,b2,(hk.2 n h1).trans a3,a4⟩
end Go.Proofs.YtkghpdcloaiflaaGreatDoor
