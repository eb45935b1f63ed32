import Derived.Test.YtkghpdcloaiflaaGreatDoorW02
set_option maxRecDepth 100000
namespace Go.Proofs.YtkghpdcloaiflaaGreatDoor
open _root_.Go.Proofs.Tryz
section
open Go.ChangeShapes Go.WideShapes Go.ChangeAt Go.Deep Go.RowKit
theorem Ay {H:Type}{d:DataW H}{l:List (DataW H)}(h:d∈l):Rows.uptoBulk d<=Rows.uptoBulkAll l:=by
 induction l with
 |nil=>cases h
 |cons x r ih=>
  simp only[Rows.uptoBulkAll]
  cases auX.1 h with
  |inl e=>subst e;omega
  |inr e=>have:=ih e;omega
theorem cz {H:Type}{ds:List (DataW H)}(hk:Rows.uptoSmall H ds=true){j:Nat}{l:List UInt8}(hj:ds[j]?=some (.lit (.string l))):l.length<=1048576:=by
 have h1:=Ay (auC hj);have h2:Rows.uptoBulkAll ds<=1048576:=by simpa[Rows.uptoSmall]using hk
 have h3:Rows.uptoBulk (DataW.lit (H:=H) (.string l))=l.length+1:=by simp[Rows.uptoBulk]
 omega
section
variable {H:Type}{enc:TypeId×Value->H}{P:Program}{w:World}{base:Nat}{R5:Nat->Bool}{held:Bool}
theorem sF {t e:TypeId}{fs:Array Field}{fuel:Nat}{cs:List Value}{x:DataW H×List MemPlace}(ht:P.underlying t=some (.slice e))(he:P.underlying e=some (.struct fs))
  (Ck:oneCellFields P fs=true) (hC:P.cellsOf e=fs.size) (h:DataW.trod enc P w base R5 held fuel t cs=some x):
  (cs=[.slice none 0 0]/\x=(.nil,[]))\/
  ∃(a:Addr) (len cap m:Nat) (D:Nat->DataW H) (Pl:Nat->List MemPlace),cs=[.slice (some a) len cap]/\base<=a.block/\len<=cap/\cap<=maxLen/\m=(if R5 a.block then cap else len)/\
   x=(.slice ((List.range len).map D) ((List.range (m-len)).map fun j=>D (len+j)),MemPlace.row a (m*fs.size)++(List.range m).flatMap Pl)/\
   ∀ i,i<m->∃(ys:List (DataW H×List MemPlace)) (n:Nat),D i=.agg (ys.map (·.1))/\Pl i=ys.flatMap (·.2)/\ys.length=fs.size/\
    ∀(j:Nat) (f:Field),fs[j]?=some f->∃(v:Value) (y:DataW H×List MemPlace),w.cell? (a.add (i*fs.size+j))=some v/\ys[j]?=some y/\DataW.trod enc P w base R5 held n f.type [v]=some y:=by
 rcases open_slice ht h with h0|⟨a,len,cap,m,n,D,Pl,Ks,hb,hl,hm,Ju,hx,hi⟩
 ·exact .inl h0
 ·refine .inr ⟨a,len,cap,m,D,Pl,Ks,hb,hl,hm,Ju,by rw[hC]at hx;exact hx,fun i i1=>?_⟩;obtain⟨ea,hc,Jm⟩:=hi i i1;rw[hC]at hc;obtain⟨ys,n',Wf,hy,aV,eq,hf⟩:=DataW.trod_struct he Jm;obtain⟨_,sH,ni⟩:=World.cells?_some hc;simp only[Prod.mk.injEq]at hy;refine⟨ys,n',hy.1,hy.2,eq,fun j f hj=>?_⟩;obtain⟨ho,hk⟩:=hone_of Ck j f hj;have CD:j<fs.size:=(auW.1 hj).1;have gi:=ni j CD;have hv:ea[j]?=some (ea[j]'(by omega)):=auB (by omega);have h1:=hf j f hj;rw[ho,hk]at h1;have adx:(ea.drop j).take 1=[ea[j]'(by omega)]:=by
   rw[List.drop_eq_getElem_cons (by omega)];rfl
  rw[adx]at h1;have fr:ys[j]?=some (ys[j]'(by omega)):=auB (by omega);refine⟨_,_,?_,fr,h1.trans fr⟩;rw[<-Go.Deep.add_add,gi,hv]
end
theorem Nu {W:World}{b o:Nat}{sp:Option Nat}{u:Value}(h:W.cell? ((⟨b,o,sp⟩:Addr).add 0)=some u):sp=none:=by
 rcases sp with _|q
 ·rfl
 ·exfalso;simp[Addr.add,World.cell?]at h
  cases hb:W.heap[b]? with
  |none=>simp[hb]at h
  |some ob=>cases ob<;>simp[hb]at h
section
variable {H:Type}{enc:TypeId×Value->H}
def Vq (c:bP):DataW H:=.agg [.lit (.int .i64 c.kind),.lit (.string c.path),.lit (.string c.dest),.lit (.int .i64 c.pos),.lit (.string c.data)]
theorem yc {W:World}{fuel:Nat}{v:Value}{d:DataW H}{p:List MemPlace}(hf:DataW.trod enc prog W 0 (fun _=>true) true fuel 29 [v]=some (d,p))(KQ:Rows.uptoBulk d<=1048576):
  ∃ l:List bP,jS oE 5 W v l/\l.length<=1048576/\∀ c∈l,c.Small/\-9223372036854775808<=c.kind/\c.kind<=9223372036854775807:=by
 rcases sF underlying29 underlying55 (by kernel_rfl) (by kernel_rfl) hf with⟨Ks,_⟩|⟨a,len,cap,m,D,Pl,Ks,_,hl,hm,Ju,hx,hi⟩
 ·obtain rfl:v=_:=by simpa using Ks
  exact⟨[],⟨none,0,rfl,fun j x h=>by simp at h⟩,by simp,fun c hc=>by cases hc⟩
 ·obtain rfl:v=_:=by simpa using Ks
  have Cj:=avO Prod.fst hx;simp only at Cj;subst Cj;simp only[if_true]at Ju;have each:∀ i,i<len->∃ c:bP,(∀ k u,(oE c)[k]?=some u->W.cell? (a.add (i*5+k))=some u)/\D i=Vq c/\(-9223372036854775808<=c.pos/\c.pos<=9223372036854775807)/\(-9223372036854775808<=c.kind/\c.kind<=9223372036854775807):=by
   intro i IU;obtain⟨ys,n,hD,_,eq,gi⟩:=hi i (by omega);obtain⟨z0,z1,z2,z3,z4,rfl⟩:∃ z0 z1 z2 z3 z4,ys=[z0,z1,z2,z3,z4]:=by
    have hs:ys.length=5:=eq
    match ys,hs with
    |[a,b,c,d,e],_=>exact⟨a,b,c,d,e,rfl⟩
   obtain⟨v0,y0,c0,e0,t0⟩:=gi 0 _ rfl;obtain⟨v1,y1,c1,e1,t1⟩:=gi 1 _ rfl;obtain⟨v2,y2,c2,e2,t2⟩:=gi 2 _ rfl;obtain⟨v3,y3,c3,e3,t3⟩:=gi 3 _ rfl;obtain⟨v4,y4,c4,e4,t4⟩:=gi 4 _ rfl;obtain⟨n0,f0,rfl,w0⟩:=DataW.trod_int underlying3 t0;obtain⟨s1,f1,rfl,_⟩:=DataW.trod_string underlying9 t1;obtain⟨s2,f2,rfl,_⟩:=DataW.trod_string underlying9 t2;obtain⟨n3,f3,rfl,w3⟩:=DataW.trod_int underlying3 t3;obtain⟨s4,f4,rfl,_⟩:=DataW.trod_string underlying9 t4;injection f0 with f0;injection f1 with f1;injection f2 with f2;injection f3 with f3;injection f4 with f4;subst f0 f1 f2 f3 f4;refine⟨⟨n0,s1.data.toList,s2.data.toList,n3,s4.data.toList⟩,fun k u g9=>?_,?_,tS w3,tS w0⟩
   ·match k,g9 with
    |0,h=>cases h;exact c0
    |1,h=>cases h;exact c1
    |2,h=>cases h;exact c2
    |3,h=>cases h;exact c3
    |4,h=>cases h;exact c4
    |k+5,h=>simp[oE]at h
   ·have q0:=avG e0;have q1:=avG e1;have q2:=avG e2;have q3:=avG e3;have q4:=avG e4;rw[hD];simp only[auy,List.map_nil,q0,q1,q2,q3,q4];rfl
  obtain⟨g,hg⟩:∃ g:Nat->bP,∀ i,i<len->(∀ k u,(oE (g i))[k]?=some u->W.cell? (a.add (i*5+k))=some u)/\D i=Vq (g i)/\(-9223372036854775808<=(g i).pos/\(g i).pos<=9223372036854775807)/\(-9223372036854775808<=(g i).kind/\(g i).kind<=9223372036854775807):=
   ⟨fun i=>if hl:i<len then(each i hl).choose else bP.zero,fun i hl=>by simp only[dif_pos hl];exact(each i hl).choose_spec⟩
  have afg:∀ i,i<len->Rows.uptoBulk (D i)<=1048576:=fun i IU=>by
   have h1:Rows.uptoBulk (D i)<=Rows.uptoBulkAll ((List.range len).map D):=Ay (au6.2 ⟨i,avw.2 IU,rfl⟩);simp only[Rows.uptoBulk]at KQ;omega
  have aV:∀(L:List (DataW H)),L.length<=Rows.uptoBulkAll L:=by
   intro L
   induction L with
   |nil=>simp
   |cons x r ih=>
    simp only[Rows.uptoBulkAll,auA];have:1<=Rows.uptoBulk x:=by
     cases x with
     |lit l=>cases l<;>simp[Rows.uptoBulk]
     |_=>simp[Rows.uptoBulk]
    omega
  refine⟨(List.range len).map g,⟨some a,cap,by simp,fun j x hx=>?_⟩,?_,fun c hc=>?_⟩
  ·have CD:j<len:=by have:=(auP.1 hx).1;simpa using this
   have TE:g j=x:=by
    rw[avB,avC CD]at hx;exact avG hx
   have h1:=(hg j CD).1;rw[TE]at h1;obtain⟨b,o,sp⟩:=a;have d8:sp=none:=Nu ((hg 0 (by omega)).1 0 _ rfl);subst d8;refine⟨b,o,rfl,fun i c hc=>?_⟩;have h2:=h1 i c hc;rw[gA]at h2;rw[auQ];exact h2
  ·have h1:=aV ((List.range len).map D);simp only[Rows.uptoBulk]at KQ;simp only[au4,List.length_range]at h1 ⊢;omega
  ·obtain⟨i,hO,rfl⟩:=au6.1 hc;have IU:=avw.1 hO;obtain⟨_,hD,hp,hX⟩:=hg i IU;have h1:=afg i IU;rw[hD]at h1;have h3:Rows.uptoBulk (Vq (H:=H) (g i))=1+((g i).path.length+1+((g i).dest.length+1+(1+((g i).data.length+1))))+1:=by simp[Vq,Rows.uptoBulk,Rows.uptoBulkAll]
   exact⟨⟨by omega,by omega,by omega,hp⟩,hX⟩
theorem Rz {W:World}{base:Nat}{v:Value}{d:DataW H}{p:List MemPlace}{ds:List (DataW H)}(cq:Value.okWide prog W .any base 31 v)(h:DataW.Trod enc prog W 0 (fun _=>true) true 31 v d p)
  (hk:Rows.uptoSmall H ds=true) {j:Nat} (hj:ds[j]?=some d):
  ∃(n:Int) (av bv:Value) (cs bs:List bP) (b t:az),v=acy n av bv b t/\(-9223372036854775808<=n/\n<=9223372036854775807)/\jS oE 5 W av cs/\jS oE 5 W bv bs/\cs.length<=1048576/\bs.length<=1048576/\(∀ c∈cs,c.Small)/\(∀ c∈bs,c.Small)/\b.length<=1048576/\t.length<=1048576:=by
 obtain⟨cs,rfl,cK⟩:=okWide_struct underlying31 cq;obtain⟨c0,c1,c2,c3,c4,rfl⟩:∃ c0 c1 c2 c3 c4,cs=#[c0,c1,c2,c3,c4]:=by
  have hs:cs.size=5:=cK.trans (by kernel_rfl);obtain⟨l⟩:=cs
  match l,hs with
  |[a,b,c,d,e],_=>exact⟨a,b,c,d,e,rfl⟩
 obtain⟨fuel,hf⟩:=h;obtain⟨xs,n,_,hx,_,aV,ru⟩:=DataW.trod_struct underlying31 hf;have e3:prog.cellsOf 3=1:=by kernel_rfl
 have e9:prog.cellsOf 9=1:=by kernel_rfl
 have ey:prog.cellsOf 29=1:=by kernel_rfl
 obtain⟨x0,x1,x2,x3,x4,rfl⟩:∃ x0 x1 x2 x3 x4,xs=[x0,x1,x2,x3,x4]:=by
  match xs,aV with
  |[a,b,c,d,e],_=>exact⟨a,b,c,d,e,rfl⟩
 have h0:=ru 0 _ rfl;have h1:=ru 1 _ rfl;have h2:=ru 2 _ rfl;have h3:=ru 3 _ rfl;have h4:=ru 4 _ rfl;have hd:d=.agg [x0.1,x1.1,x2.1,x3.1,x4.1]:=avO Prod.fst hx;have hb:=Ay (auC hj);have fi:Rows.uptoBulkAll ds<=1048576:=by simpa[Rows.uptoSmall]using hk
 rw[hd]at hb;have uV:Rows.uptoBulk (DataW.agg [x0.1,x1.1,x2.1,x3.1,x4.1])=Rows.uptoBulk x0.1+(Rows.uptoBulk x1.1+(Rows.uptoBulk x2.1+(Rows.uptoBulk x3.1+Rows.uptoBulk x4.1)))+1:=by simp[Rows.uptoBulk,Rows.uptoBulkAll]
 obtain⟨n0,f0,rfl,w0⟩:=DataW.trod_int underlying3 h0;obtain⟨s3,f3,rfl,_⟩:=DataW.trod_string underlying9 h3;obtain⟨s4,f4,rfl,_⟩:=DataW.trod_string underlying9 h4;have g0:c0=Value.int .i64 n0:=by
  have h:List.take (prog.cellsOf 3) (List.drop 0 (Value.agg #[c0,c1,c2,c3,c4]).cells.toList)=[Value.int .i64 n0]:=f0;rw[e3]at h;simpa[Value.cells]using h
 have g3:c3=Value.string s3:=by
  have h:List.take (prog.cellsOf 9) (List.drop 3 (Value.agg #[c0,c1,c2,c3,c4]).cells.toList)=[Value.string s3]:=f3;rw[e9]at h;simpa[Value.cells]using h
 have g4:c4=Value.string s4:=by
  have h:List.take (prog.cellsOf 9) (List.drop 4 (Value.agg #[c0,c1,c2,c3,c4]).cells.toList)=[Value.string s4]:=f4;rw[e9]at h;simpa[Value.cells]using h
 have k1:DataW.trod enc prog W 0 (fun _=>true) true n 29 [c1]=some (x1.1,x1.2):=by
  have h:DataW.trod enc prog W 0 (fun _=>true) true n 29 (List.take (prog.cellsOf 29) (List.drop 1 (Value.agg #[c0,c1,c2,c3,c4]).cells.toList))=some x1:=h1;rw[ey]at h;simpa[Value.cells]using h
 have k2:DataW.trod enc prog W 0 (fun _=>true) true n 29 [c2]=some (x2.1,x2.2):=by
  have h:DataW.trod enc prog W 0 (fun _=>true) true n 29 (List.take (prog.cellsOf 29) (List.drop 2 (Value.agg #[c0,c1,c2,c3,c4]).cells.toList))=some x2:=h2;rw[ey]at h;simpa[Value.cells]using h
 have l3:Rows.uptoBulk (DataW.lit (H:=H) (.string s3.data.toList))=s3.data.toList.length+1:=by simp[Rows.uptoBulk]
 have l4:Rows.uptoBulk (DataW.lit (H:=H) (.string s4.data.toList))=s4.data.toList.length+1:=by simp[Rows.uptoBulk]
 simp only at uV hb;obtain⟨cs,a1,a2,a3⟩:=yc k1 (by omega);obtain⟨bs,b1,b2,b3⟩:=yc k2 (by omega);subst g0 g3 g4;exact⟨n0,c1,c2,cs,bs,s3.data.toList,s4.data.toList,rfl,tS w0,a1,b1,a2,b2,fun c h=>(a3 c h).1,fun c h=>(b3 c h).1,by omega,by omega⟩
end
end
end Go.Proofs.YtkghpdcloaiflaaGreatDoor
section
namespace Go.Proofs.YtkghpdcloaiflaaGreatDoor.lawWhole
open _root_.Go.Proofs.Tryz
open Go.ChangeShapes Go.WideShapes Go.ChangeAt Go.RowKit
open Go.ChangeMaps (open_string shut_string)
theorem own:ownKnob prog.godebug=none:=by kernel_rfl
theorem Vu:laidOutB prog=true:=by kernel_rfl
theorem acz (os:Os){H:Type}(enc:TypeId×Value->H):∃ places,DataW.whole enc prog ((BF os).forCall (fun _ _=>0) ⟨#[],#[.agg #[.int .i64 0,.slice none 0 0,.slice none 0 0,.string .empty,.string .empty]],[]⟩).memory Tryz.f8.params.toList Rows.differWholeSpec.vars false (#[.agg #[.int .i64 0,.slice none 0 0,.slice none 0 0,.string .empty,.string .empty]]:Array Value).toList 8=some ([.agg [.lit (.int .i64 0),.nil,.nil,.lit (.string []),.lit (.string [])]],[],places):=
 ⟨[],by kernel_rfl⟩
theorem lifted (os:Os)(started:os.Started)(H:Type)(enc:TypeId×Value->H)(F:Stop.Interp):
  ReturnsInHanded {} Tryz.checked os 8 .any ((Rows.OpenSpec.upto Rows.differWholeSpec).preRow enc prog Tryz.f8 Rows.differWholeUptoRow.domain false Rows.differWholeUptoRow.laid) (((Rows.OpenSpec.upto Rows.differWholeSpec).at F).post enc prog Tryz.f8 false true false false):=by
 obtain⟨places,hx⟩:=acz os enc;refine returnsInHanded_of_row (C:=Tryz.checked) (s:=Rows.OpenSpec.upto Rows.differWholeSpec) own started (by kernel_rfl) func8
  (witness_row_atRef (enc:=enc) (C:=Tryz.checked) false (BF os) #[.agg #[.int .i64 0,.slice none 0 0,.slice none 0 0,.string .empty,.string .empty]] (No _) (by kernel_rfl) (by kernel_rfl) (by kernel_rfl)
   (OpenSpec.preRow_of_cond 8 hx (by kernel_rfl) (fun k hk=>by cases hk;kernel_rfl) (by kernel_rfl) (Ru os _))) ?_
 intro W base args ds gs before XP hW _ afe zl hL aam _;have ajc:tr W:=YE aam (C0 hL (by kernel_rfl)) (C3 hL (by kernel_rfl)) (C4 hL (by kernel_rfl));have cK:(DataW.weightsEach prog (Tryz.f8.params.toList++Rows.differWholeSpec.plain.varTypes prog) (ds++gs)).all (·<=reachBytes)=true:=zl;have So:∀(j:Nat) t v,Tryz.f8.params[j]?=some t->args[j]?=some v->Value.okWide prog W .any base t v:=XP;clear zl XP;have ix:=hW;obtain⟨p,q,eD,hV,rfl,_,_⟩:=hW;have hA:DataW.TrodAll enc prog W 0 (fun _=>true) true Tryz.f8.params.toList args.toList ds p:=eD;clear eD;rw[params8]at hA So cK;obtain⟨v0,ka,d0,kd,p0,q0,alr,rfl,rfl,h0,r0⟩:=trodAll_cons hA;obtain⟨rfl,rfl,rfl⟩:=trodAll_nil r0;obtain rfl:args=#[v0]:=by cases args;simp_all
 obtain⟨rfl,rfl⟩:=trodVars_none hV;have KQ:=afe _ rfl;obtain⟨n0,i5,hP,NP,kf,hU,i3,rfl,Jg,XE,kl,tY,R9,SR,km,iM,ia⟩:=Rz (So 0 31 v0 rfl rfl) h0 KQ (j:=0) rfl;refine(b4 W ajc n0 Jg i5 hP NP XE SR tY hU i3 (aux iM (by decide)) (aux ia (by decide))).mono fun e W' ⟨he,hk⟩=>?_;subst he;exact⟨_,rfl,Nl Vu (by kernel_rfl) rfl rfl underlying4 rfl ix hk⟩
end Go.Proofs.YtkghpdcloaiflaaGreatDoor.lawWhole
end
