import Derived.Test.YtkghpdcloaiflaaGreatDoorD27
namespace Go.Proofs.YtkghpdcloaiflaaGreatDoor
open _root_.Go.Proofs.Tryz
theorem xy (was:List fC)(br:Int->ay)(U:Pl)(mV:Nat->Prop)(hSu:∀ n,mV n->ai U.used n=true/\n<U.blocks):∀(r:List Nt) (set:ay) (t:gJ),cG t.pool->t.pool.blocks=U.blocks->(∀ n,ai U.used n=true->ai t.pool.used n=true)->
  (∀ x∈r,x.data.length<=16384/\∃ A,aR t.rd (br x.num) (eg was x.num) A/\∀ n,A n->mV n)->((r.map fun x=>dd (br x.num) x.data).sum<=t.pool.left)->ga set->
  ∃ inos TE t' S,mF was r set t=.ok (inos,TE,t')/\lC t'.rd inos r S/\dr t t' (r.map fun x=>dd (br x.num) x.data).sum/\jj t'.pool S/\(∀ n,S n->mV n\/ai U.used n=false)/\ga TE/\(∀ n,ai TE n=true↔ai set n=true\/S n)/\
   ((∀ x∈r,br x.num=x.data)->inos=r.map (fun x=>⟨x.num,x.dir,x.links,eg was x.num⟩)/\t'=t)
 |[],set,t,ht,I4,hut,hr,hc,hls=>⟨[],set,t,fun _=>False,rfl,fun _ h=>h,dr.refl ht,fun _ h=>h.elim,fun _ h=>h.elim,hls,fun n=>by simp,fun _=>⟨rfl,rfl⟩⟩
 |x::r,set,t,ht,I4,hut,hr,hc,hls=>by
  rw[auJ,auK]at hc;obtain⟨hx,A,hA,hAs⟩:=hr x (by simp);have hAp:jj t.pool A:=fun n hn=>⟨hut n (hSu n (hAs n hn)).1,by rw[I4];exact(hSu n (hAs n hn)).2⟩
  obtain⟨b,t1,S1,e1,h1,g1,p1,q1,k1⟩:=eK ht hA hAp hx (by omega);obtain⟨s,e2,lw,h2⟩:=h1.reached set;obtain⟨inos,TE,t',S,e3,h3,g3,p3,q3,Kh,h4,k3⟩:=xy was br U mV hSu r s t1 g1.ok (g1.blocks.trans I4) (fun n hn=>g1.used n (hut n hn)) (fun y hy=>by
   obtain⟨hy1,B,hB,hBs⟩:=hr y (by simp[hy]);refine⟨hy1,B,hB.turn fun n hn=>?_,hBs⟩;exact g1.keepRd (hut n (hSu n (hBs n hn)).1)) (by have:=g1.left;omega) lw
  refine⟨⟨x.num,x.dir,x.links,b⟩::inos,TE,t',fun n=>S1 n\/S n,?_,⟨⟨rfl,rfl,rfl⟩,S1,S,h1.turn fun n hn=>g3.same p1 n hn,h3,fun n=>Iff.rfl⟩,?_,?_,?_,Kh,?_,?_⟩
  ·rw[mF,e1];simp only;rw[e2];simp only;rw[e3];rfl
  ·rw[auJ,auK];exact g1.trans g3
  ·intro n hn;rcases hn with hn|hn
   ·exact p1.grow g3 n hn
   ·exact p3 n hn
  ·intro n hn;rcases hn with hn|hn
   ·rcases q1 n hn with h|h
    ·exact .inl (hAs n h)
    ·right
     cases hu:ai U.used n with
     |false=>rfl
     |true=>rw[hut n hu]at h;cases h
   ·exact q3 n hn
  ·intro n;rw[h4,h2,or_assoc]
  ·intro nV;obtain⟨kb,kt,_⟩:=k1 (nV x (by simp));obtain⟨ki,kt'⟩:=k3 (fun y hy=>nV y (by simp[hy]));exact⟨by rw[auJ,ki,kb],by rw[kt',kt]⟩
def jX (p:Nat->Bool)(blocks:Nat):Nat:=((List.range' 1 (blocks-1)).filter p).length
theorem QL {a b c d:Nat->Bool}{blocks:Nat}(h:∀ n,1<=n->n<blocks->(if a n=true then 1 else 0)+(if b n=true then 1 else 0)+(if c n=true then 1 else 0)<=(if d n=true then 1 else 0)):jX a blocks+jX b blocks+jX c blocks<=jX d blocks:=by
 unfold jX;have key:∀ l:List Nat,(∀ n∈l,1<=n/\n<blocks)->(l.filter a).length+(l.filter b).length+(l.filter c).length<=(l.filter d).length:=by
  intro l
  induction l with
  |nil=>intro _;simp
  |cons n l ih=>
   intro hl;have h1:=ih fun m hm=>hl m (by simp[hm]);have h2:=h n (hl n (by simp)).1 (hl n (by simp)).2;simp only[avY]
   cases ha:a n<;>cases hb:b n<;>cases hc:c n<;>cases hd:d n<;>simp only[ha,hb,hc,hd,if_true,Bool.false_eq_true,if_false,auL]at h2 ⊢<;>omega
 exact key _ fun n hn=>by rw[avK]at hn;omega
theorem QM {p:Nat->Bool}{blocks n:Nat}(h1:1<=n)(h2:n<blocks)(h:p n=true):1<=jX p blocks:=by
 unfold jX;exact List.length_pos_of_mem (a:=n) (by rw[auH,avK];exact⟨by omega,h⟩)
theorem Ir (p q:Nat->Bool)(blocks:Nat):jX p blocks=jX (fun n=>p n&&q n) blocks+jX (fun n=>p n&&!q n) blocks:=by
 unfold jX
 induction List.range' 1 (blocks-1)with
 |nil=>rfl
 |cons n l ih=>
  simp only[avY]
  cases p n<;>cases q n<;>simp<;>omega
theorem jk {p q:Nat->Bool}{blocks:Nat}(h:∀ n,1<=n->n<blocks->p n=q n):jX p blocks=jX q blocks:=by
 unfold jX;rw[List.filter_congr];intro n hn;rw[avK]at hn;exact h n (by omega) (by omega)
theorem mM (used:ay)(blocks:Nat):kV used blocks=jX (fun n=>!ai used n) blocks:=rfl
theorem En {t t':gJ}{k:Nat}(g:dr t t' k)(ht:cG t.pool):jX (fun n=>ai t'.pool.used n&&!ai t.pool.used n) t.pool.blocks=k:=by
 have h1:=ht.left;have h2:=g.ok.left;have h3:=g.left;rw[mM]at h1 h2;rw[g.blocks]at h2;have h4:=Ir (fun n=>!ai t.pool.used n) (fun n=>ai t'.pool.used n) t.pool.blocks;have e1:jX (fun n=>!ai t.pool.used n&&ai t'.pool.used n) t.pool.blocks=jX (fun n=>ai t'.pool.used n&&!ai t.pool.used n) t.pool.blocks:=jk fun n _ _=>Bool.and_comm _ _;have e2:jX (fun n=>!ai t.pool.used n&&!ai t'.pool.used n) t.pool.blocks=jX (fun n=>!ai t'.pool.used n) t.pool.blocks:=jk fun n _ _=>by
  have:=g.used n
  cases ha:ai t.pool.used n<;>cases hb:ai t'.pool.used n<;>simp_all
 omega
theorem xz (rd:Rd):∀(k:Nat) (p:Pl),cG p->k<=p.left->∃ q,o8 k p=.ok q/\dr ⟨rd,p⟩ ⟨rd,q⟩ k
 |0,p,h,_=>⟨p,rfl,dr.refl h⟩
 |k+1,p,h,hl=>by
  obtain⟨n,p',e,h1,h2,h3,h4,h5,h6,h7,h8⟩:=vf h (by omega);obtain⟨q,e2,g⟩:=xz rd k p' h4 (by omega);refine⟨q,by rw[o8,e];exact e2,?_⟩;have g1:dr ⟨rd,p⟩ ⟨rd,p'⟩ 1:=by
   refine⟨h4,fun k hk=>by show ai p'.used k=true;rw[h7];simp[show ai p.used k=true from hk],fun k=>?_,h6,h5,fun _ _=>rfl,fun k hk df=>?_⟩
   ·show ai p'.taken k=(ai p.taken k||(ai p'.used k&&!ai p.used k));rw[h8,h7];by_cases hk:k=n
    ·subst hk;simp[h3]
    ·have:(k==n)=false:=by simp[hk]
     rw[this];cases ai p.used k<;>simp
   ·have FM:ai p'.used k=true:=hk;rw[h7]at FM;have dm:ai p.used k=false:=df;rw[dm]at FM;have:k=n:=by simpa using FM
    subst this;exact⟨h1,h2⟩
  have:=g1.trans g
  rwa [Nat.add_comm]at this
theorem so {used:ay}{blocks next:Nat}(h1:1<=next)(h2:next<=blocks)(h3:blocks<=4096):cG (gA used blocks next):=⟨h1,h2,h3,rfl⟩
theorem QN (planes:List ay)(n:Nat):ai (cW planes) n=planes.any fun s=>ai s n:=by
 unfold cW;have:∀(l:List ay) (a:ay),ai (l.foldl eG a) n=(ai a n||l.any fun s=>ai s n):=by
  intro l
  induction l with
  |nil=>intro a;simp
  |cons s l ih=>intro a;rw[List.foldl_cons,ih,jN,List.any_cons,Bool.or_assoc]
 rw[this];rfl
theorem pk (planes:List ay)(blocks:Nat):(ik planes blocks).length=blocks:=by simp[ik]
def lW (was:Int):List Nt->Bool
 |[]=>true
 |x::r=>decide (was<x.num)&&decide (x.num<=65535)&&lW x.num r
structure kp (l:List Nt):Prop where
 many:l.length<=60
 nums:lW 0 l=true
 links:∀ x∈l,1<=x.links/\x.links<=3600
 data:∀ x∈l,x.data.length<=16384
structure iH (l:List Nt):Prop extends kp l where
 made:∃ T d,WF T d/\ar T=l
structure ju (l:List Sn)(id:Nat):Prop where
 many:l.length<=7
 name:∀ x∈l,aG x.name=true/\x.name.length<=16
 names:(l.map (·.name)).Nodup
 plane:∀ x∈l,1<=x.plane/\x.plane<=7
 planes:(l.map (·.plane)).Nodup
 ids:l.Pairwise fun a b=>a.id<b.id
 idlo:∀ x∈l,1<=x.id/\x.id<id
 top:1<=id/\id<=1099511627777
theorem jl {l:List Nt}:∀ {was:Int},lW was l=true->∀ x∈l,was<x.num/\x.num<=65535:=by
 induction l with
 |nil=>intro _ _ x hx;simp at hx
 |cons y l ih=>
  intro was h x hx;simp only[lW,au4,au9]at h;rcases au8.1 hx with rfl|hx
  ·exact h.1
  ·have:=ih h.2 x hx;omega
theorem pn {l:List Nt}:∀ {was:Int},lW was l=true->∀ x∈l,cH l x.num=x.data:=by
 induction l with
 |nil=>intro _ _ x hx;simp at hx
 |cons y l ih=>
  intro was h x hx;simp only[lW,au4,au9]at h;rcases au8.1 hx with rfl|hx
  ·have:l.filter (fun z=>z.num==x.num)=[]:=by
    rw[List.filter_eq_nil_iff];intro z hz;have:=jl h.2 z hz;simp;omega
   unfold cH;rw[avY,auT (by simp),this];rfl
  ·have h1:=ih h.2 x hx;have:=jl h.2 x hx;unfold cH at h1 ⊢;rw[avY,auV (by simp;omega)];exact h1
theorem Xd {α:Type _}{l:List α}{f:α->Nat}{k:Nat}(h:∀ x∈l,f x<=k):(l.map f).sum<=k*l.length:=by
 induction l with
 |nil=>simp
 |cons a l ih=>
  have h1:=ih fun x hx=>h x (by simp[hx]);have h2:=h a (by simp);simp only[auJ,auK,auL,Nat.mul_succ];omega
theorem po {b:fQ}(h:0<=b.root/\b.root<4096/\0<=b.size/\b.size<=16384):(yJ b).length<=5:=by
 have h1:=eF 1 b.root.toNat (by omega);have h2:=eF 2 b.size.toNat (by omega);unfold yJ;simp;omega
theorem xA {rd:Rd}:∀ {inos:List fC} {nodes:List Nt} {S:Nat->Prop} {was:Int},lC rd inos nodes S->lW was nodes=true->(∀ x∈nodes,1<=x.links/\x.links<=3600)->(inos.flatMap ol).length<=11*nodes.length
 |[],[],_,_,_,_,_=>by simp
 |y::ys,x::xs,S,was,⟨h1,A,B,h2,h3,h4⟩,hn,hl=>by
  simp only[lW,au4,au9]at hn;have ih:=xA h3 hn.2 fun z hz=>hl z (by simp[hz]);have hx:=hl x (by simp);have e1:=eF 2 y.num.toNat (by rw[h1.1];omega);have e2:=eF 0 (if y.dir=true then 1 else 0) (by split<;>omega);have e3:=eF 1 y.links.toNat (by rw[h1.2.2];omega);have e4:=po h2.small;rw[avs,au3,auL];have:(ol y).length<=11:=by unfold ol;simp only[au3];omega
  omega
 |[],_::_,_,_,h,_,_=>h.elim
 |_::_,[],_,_,h,_,_=>h.elim
theorem Eo {rd:Rd}{inos:List fC}{nodes:List Nt}{S:Nat->Prop}(h:lC rd inos nodes S)(hn:kp nodes):(kh inos).length<=2+12*nodes.length/\(kh inos).length<=722:=by
 have h1:=xA h hn.nums hn.links;have h2:=h.len;have h3:=hn.many;have h4:=eF 0 inos.length (by omega);unfold kh;rw[au3];omega
theorem xB {l:List Sn}{id:Nat}(h:ju l id)(ht:∀ x∈l,x.table.ok=true):(kj l).length<=240/\0<(kj l).length:=by
 have h1:=eF 0 l.length (by have:=h.many;omega);have h2:(l.flatMap o6).length<=29*l.length:=by
  rw[List.length_flatMap];apply Xd;intro x hx;have a1:=eF 0 x.name.length (by have:=(h.name x hx).2;omega);have a2:=(h.name x hx).2;have a3:=eF 5 x.id.toNat (by have:=h.idlo x hx;have:=h.top;omega);have a4:=eF 0 x.plane.toNat (by have:=h.plane x hx;omega);have hb:=ht x hx;unfold fQ.ok fQ.may at hb;simp only[au4,au9]at hb;have a5:=po (b:=x.table) ⟨hb.1.2,hb.2,hb.1.1.1.1,hb.1.1.1.2⟩;unfold o6;simp only[au3];omega
 have h3:0<(aM l.length).length:=by
  rw[aM];split<;>simp
 have:=h.many;unfold kj;rw[au3];omega
structure jY (v:Vs):Prop where
 many:32<=v.blocks/\v.blocks<=4096
 next:1<=v.b.next/\v.b.next<=v.blocks
 eight:v.b.planes.length=8
 planes:∀ p,p<8->ga (v.b.planes.getD p [])/\∀ n,ai (v.b.planes.getD p []) n=true->1<=n/\n<v.blocks
 list:ju v.b.list v.b.id
 clear:∀ p:Nat,1<=p->p<8->(∀ x∈v.b.list,x.plane≠(p:Int))->v.b.planes.getD p []=[]
 snaps:∀ x∈v.b.list,∃ inos nodes,iH nodes/\j5 v.rd inos nodes x.table (fun n=>ai (v.b.planes.getD x.plane.toNat []) n=true)
 here:∃(S Ss Sm:Nat->Prop) (own:ay),j5 v.rd v.b.inodes v.b.nodes v.b.table S/\aR v.rd (kj v.b.list) v.b.snaps Ss/\aR v.rd (ik v.b.planes v.blocks) v.b.mapped Sm/\(∀ n,Sm n->ai own n=true)/\
  (∀ n,ai (v.b.planes.getD 0 []) n=true↔S n\/Ss n\/ai own n=true)/\jX (ai own) v.blocks=aT v.blocks/\
  (∀ n,Ss n\/ai own n=true->¬ S n/\∀ p,1<=p->p<8->ai (v.b.planes.getD p []) n=false)/\(∀ n,Ss n->ai own n=false)
 nodes:kp v.b.nodes
 told:iH (ar v.T)
 room:bG v (ar v.T)<=dt v
def qW (v:Vs)(x:Sn)(nodes:List Nt):Prop:=iH nodes/\∃ inos,j5 v.rd inos nodes x.table (fun n=>ai (v.b.planes.getD x.plane.toNat []) n=true)
theorem eh {l:List Sn}(h:l.length<7):1<=aX l/\aX l<=7/\∀ x∈l,x.plane≠(aX l:Int):=by
 have key:∃ p,p∈List.range' 1 7/\∀ x∈l,x.plane≠((p:Nat):Int):=by
  apply avG;intro lJ;have:∀ p∈(List.range' 1 7).map (fun p:Nat=>(p:Int)),p∈l.map (·.plane):=by
   intro p hp;obtain⟨q,hq,rfl⟩:=avh.1 hp;apply avG;intro hn;exact lJ ⟨q,hq,fun x hx e=>hn (avh.2 ⟨x,hx,e⟩)⟩
  have:=pK (by decide) this;simp at this;omega
 obtain⟨p,hp,hx⟩:=key;unfold aX
 cases hf:(List.range' 1 8).find? fun(p:Nat)=>!l.any fun x=>x.plane==(p:Int)with
 |none=>
  rw[avL]at hf;have:=hf p (by rw[avK]at hp ⊢;omega);simp only[Bool.not_eq_true,Bool.not_eq_false',List.any_eq_true,avq]at this;obtain⟨x,R5,e⟩:=this;exact absurd e (hx x R5)
 |some q=>
  have h1:=avI hf;have h2:=avJ hf;rw[avK]at h2;have h3:∀ x∈l,x.plane≠(q:Int):=by
   intro x R5 e;simp only[Bool.not_eq_true',List.any_eq_false,avq]at h1;exact h1 x R5 e
  refine⟨by simp;omega,?_,by simpa using h3⟩;have hq:q<=p:=by
   rw[List.find?_range'_eq_some]at hf;by_cases FH:q<=p
   ·exact FH
   ·rw[avK]at hp;have:=hf.2.2 p (by omega) (by omega);simp only[Bool.not_not,List.any_eq_true,avq]at this;obtain⟨x,R5,e⟩:=this;exact absurd e (hx x R5)
  rw[avK]at hp;simp;omega
theorem nL (planes:List ay)(l:List Sn)(p:Nat)(h:p<8):(kX planes l).getD p []=if p=0\/l.any (fun x=>x.plane==(p:Int))=true then planes.getD p []else []:=by
 unfold kX;rw[List.getD,avM,avN h];rfl
theorem QO {α:Type}{l:List α}{i:Nat}{d:α}(h:i<l.length):l.getD i d∈l:=by
 rw[List.getD,auM h];exact avl _
theorem pp {planes:List ay}(h8:planes.length=8)(n:Nat):ai (cW planes) n=true↔∃ p,p<8/\ai (planes.getD p []) n=true:=by
 rw[QN,List.any_eq_true]
 constructor
 ·rintro⟨s,hs,hn⟩;obtain⟨p,hp⟩:=av1 hs;have:=(au0.1 hp).1;exact⟨p,by omega,by rw[List.getD,hp];exact hn⟩
 ·rintro⟨p,hp,hn⟩;exact⟨_,QO (by omega),hn⟩
theorem uo {l r:List Sn}{id:Nat}(h:ju l id)(hs:r.Sublist l):ju r id where
 many:=auI hs.length_le h.many
 name x hx:=h.name x (hs.subset hx)
 names:=h.names.sublist (hs.map _)
 plane x hx:=h.plane x (hs.subset hx)
 planes:=h.planes.sublist (hs.map _)
 ids:=h.ids.sublist hs
 idlo x hx:=h.idlo x (hs.subset hx)
 top:=h.top
theorem uq {l:List Sn}{id:Nat}{more:ay}{t:fQ}(h:ju l id)(h7:l.length<7)(hn:aG more=true)(AB:more.length<=16)(lJ:∀ x∈l,x.name≠more)(hid:id<=1099511627776):ju (l++[⟨more,id,aX l,t⟩]) (id+1) where
 many:=by simp;omega
 name x hx:=by
  rcases avP.1 hx with hx|hx
  ·exact h.name x hx
  ·simp at hx;subst hx;exact⟨hn,AB⟩
 names:=by
  rw[List.map_append,List.nodup_append];refine⟨h.names,by simp,?_⟩;intro a ha b hb;obtain⟨x,hx,rfl⟩:=avh.1 ha;simp at hb;subst hb;exact lJ x hx
 plane x hx:=by
  rcases avP.1 hx with hx|hx
  ·exact h.plane x hx
  ·simp at hx;subst hx;have:=eh h7;simp;omega
 planes:=by
  rw[List.map_append,List.nodup_append];refine⟨h.planes,by simp,?_⟩;intro a ha b hb;obtain⟨x,hx,rfl⟩:=avh.1 ha;simp at hb;subst hb;exact(eh h7).2.2 x hx
 ids:=by
  rw[List.pairwise_append];refine⟨h.ids,by simp,?_⟩;intro a ha b hb;simp at hb;subst hb;have:=(h.idlo a ha).2;exact this
 idlo x hx:=by
  rcases avP.1 hx with hx|hx
  ·have:=h.idlo x hx;exact⟨this.1,by have:=this.2;omega⟩
  ·simp at hx;subst hx;have:=h.top;simp;omega
 top:=by have:=h.top;omega
structure mN (v:Vs):Prop where
 many:32<=v.blocks/\v.blocks<=4096
 next:1<=v.b.next/\v.b.next<=v.blocks
 eight:v.b.planes.length=8
 planes:∀ p,p<8->ga (v.b.planes.getD p [])/\∀ n,ai (v.b.planes.getD p []) n=true->1<=n/\n<v.blocks
 list:ju v.b.list v.b.id
 snaps:∀ x∈v.b.list,∃ inos nodes,iH nodes/\j5 v.rd inos nodes x.table (fun n=>ai (v.b.planes.getD x.plane.toNat []) n=true)
 here:∃(A B Ss:Nat->Prop) (own yf kv:ay),lC v.rd v.b.inodes v.b.nodes A/\aR v.rd yf v.b.table B/\(ar v.T=v.b.nodes->yf=kh v.b.inodes)/\aR v.rd kv v.b.snaps Ss/\kv.length<=240/\
  (∀ n,ai (v.b.planes.getD 0 []) n=true↔(A n\/B n)\/Ss n\/ai own n=true)/\
  (∀ n,Ss n\/ai own n=true->¬(A n\/B n)/\∀ p,1<=p->p<8->ai (v.b.planes.getD p []) n=false)/\(∀ n,Ss n->ai own n=false)/\
  (jX (ai own) v.blocks=aT v.blocks/\0<kv.length\/bG v (ar v.T)+bK v+1<=dt v)
 nodes:kp v.b.nodes
 told:iH (ar v.T)
 room:bG v (ar v.T)<=dt v
theorem jY.ready {v:Vs}(h:jY v):mN v:=by
 refine⟨h.many,h.next,h.eight,h.planes,h.list,h.snaps,?_,h.nodes,h.told,h.room⟩;obtain⟨S,Ss,Sm,own,⟨A,B,hA,hB,OK⟩,h2,h3,h4,h5,h6,h7,h8⟩:=h.here;have I6:∀ y∈v.b.list,y.table.ok=true:=by
  intro y hy;obtain⟨_,_,_,C,D,_,hD,_⟩:=h.snaps y hy;exact hD.may
 have hl:=xB h.list I6;exact⟨A,B,Ss,own,kh v.b.inodes,kj v.b.list,hA,hB,fun _=>rfl,h2,hl.1,fun n=>by rw[h5,OK],fun n hn=>by have:=h7 n hn;rw[OK]at this;exact this,h8,.inl ⟨h6,hl.2⟩⟩
structure fL (v:Vs)(list:List Sn)(more:ay):Prop where
 sub:list.Sublist v.b.list
 more:more=[]\/(aG more=true/\more.length<=16/\(∀ x∈list,x.name≠more)/\list.length<7/\v.b.id<=1099511627776)
def Zc (v u:Vs)(x:Sn):Prop:=u.b.planes.getD x.plane.toNat []=v.b.planes.getD x.plane.toNat []/\∀ n:Nat,ai (v.b.planes.getD x.plane.toNat []) n=true->u.rd n=v.rd n
structure J5 (v:Vs)(list:List Sn)(more:ay)(u:Vs):Prop where
 run:bC v list more=.ok u
 good:jY u
 blocks:u.blocks=v.blocks
 num:u.num=v.num+1
 T:u.T=v.T
 half:u.half=v.half
 recs:u.recs=[]
 nodes:u.b.nodes=ar v.T
 id:u.b.id=if more=[]then v.b.id else v.b.id+1
 sns:∃ x:Sn,x.name=more/\x.id=v.b.id/\x.table=u.b.table/\(u.b.list=if more=[]then list else list++[x])/\(more≠[]->qW u x (ar v.T))
 trees:∀ x∈list,∀ nodes,qW v x nodes->qW u x nodes
 room:bG u (ar u.T)=bK u+1
 kept:∀ x∈list,Zc v u x
theorem Ah {v:Vs}{l:List Nt}(h:l=v.b.nodes)(hn:kp l):bG v l=bK v+1:=by
 unfold bG;have:(l.map fun x=>dd (cH v.b.nodes x.num) x.data).sum=0:=by
  have key:∀ r:List Nt,(∀ x∈r,x∈l)->(r.map fun x=>dd (cH v.b.nodes x.num) x.data).sum=0:=by
   intro r
   induction r with
   |nil=>intro _;rfl
   |cons x r ih=>
    intro hr;have hx:=hr x (by simp);rw[auJ,auK,ih fun y hy=>hr y (by simp[hy]),<-h,pn hn.nums x hx,kY _ (hn.data x hx)]
  exact key l fun _ h=>h
 rw[this,auT h]
theorem tA {rd:Rd}:∀ {ys:List fC} {xs:List Nt} {S:Nat->Prop} {was:Int},lC rd ys xs S->lW was xs=true->xs.map (fun x=>(⟨x.num,x.dir,x.links,eg ys x.num⟩:fC))=ys
 |[],[],_,_,_,_=>rfl
 |y::ys,x::xs,S,was,⟨h1,A,B,h2,h3,h4⟩,hn=>by
  simp only[lW,au4,au9]at hn;have ih:=tA h3 hn.2;have aai:ys.filter (fun z=>z.num==x.num)=[]:=by
   rw[List.filter_eq_nil_iff];intro z hz;have:z.num∈xs.map (·.num):=by rw[<-h3.nums];exact avh.2 ⟨z,hz,rfl⟩
   obtain⟨w,hw,e⟩:=avh.1 this;have:=jl hn.2 w hw;simp;omega
  rw[auJ]
  congr 1
  ·have:eg (y::ys) x.num=y.blob:=by
    unfold eg;rw[avY,auT (by simp[h1.1]),aai];rfl
   rw[this];obtain⟨e1,e2,e3⟩:=h1
   cases y
   simp only at e1 e2 e3;subst e1 e2 e3;rfl
  ·refine Eq.trans ?_ ih;apply avc;intro z hz;have oE:=jl hn.2 z hz;have:eg (y::ys) z.num=eg ys z.num:=by
    unfold eg;have hy:=h1.1;rw[avY,auV (by simp;omega)]
   rw[this]
 |[],_::_,_,_,h,_=>h.elim
 |_::_,[],_,_,h,_=>h.elim
theorem mO {n:Nat}(h:n<=240):aT n<=1:=by
 unfold aT;rcases aN n with⟨_,e⟩|⟨_,_,e⟩|⟨_,_,e⟩|⟨_,e⟩<;>rw[e]<;>simp<;>omega
theorem Ai {s:ay}(h:s.length<=240):aO s 0=s:=by
 unfold aO;rw[Nat.zero_mul,avC,avx h]
theorem Mu {t:gJ}{br data:ay}{b b':fQ}{t':gJ}{S S':Nat->Prop}(ht:cG t.pool)(h:aR t.rd br b S)(hd:data.length<=240)(h0:0<data.length)(hh:br.length<=240)(dZ:br≠data)(hl:0<t.pool.left)
  (e:dK t b data=.ok (b',t')) (h':aR t'.rd data b' S') (n:Nat) (hn:S' n):ai t.pool.used n=false:=by
 obtain⟨hs,was,rfl,hw,_⟩:=h;obtain⟨o,e1,e2,_⟩:=kU hw hs true;have gy:au data.length=[1]:=by
  rcases aN data.length with⟨_,e⟩|⟨_,_,e⟩|⟨_,_,e⟩|⟨_,e⟩
  ·omega
  ·exact e
  all_goals omega
 obtain⟨m,p',et,m1,m2,m3,_⟩:=vf ht hl;have est:gc br data was 0=none:=by
  unfold gc;rw[Ai hd,Ai hh,auV (Ne.symm dZ)]
 have eN:kI br data was t=.ok ([[(m:Int)]],⟨l8 t.rd m (aO data 0),p'⟩):=by
  unfold kI;rw[gy];simp only[iw,est,et];rfl
 unfold dK at e;rw[auV (by omega),e1]at e;simp only[↓reduceIte]at e;rw[e2,eN]at e;have e3:b'=dx data [[(m:Int)]]:=by
  injection e with e;injection e with e _;exact e.symm
 obtain⟨_,nums,eb,cL,hS'⟩:=h';have r1:=pR cL h0 (by omega);have yk:nums.length=1:=by
  have:=cL.shape;rw[gy]at this;have:=avZ List.length this;simpa using this
 have hr:iO nums=m:=by
  rw[e3]at eb;unfold dx at eb;rw[auV (by omega),auV (by omega)]at eb;injection eb with eb _;have:iO [[(m:Int)]]=m:=rfl;omega
 have:nums=[[(m:Int)]]:=by
  obtain⟨L,rfl⟩:=List.length_eq_one_iff.1 yk;have:=r1.2.1;simp at this;rw[this,hr]
 have AB:=(hS' n).1 hn;rw[this]at AB;have:n=m:=by simp at AB;omega
 subst this;exact m3
theorem j5.iff {rd:Rd}{inos:List fC}{nodes:List Nt}{t:fQ}{S S':Nat->Prop}(h:j5 rd inos nodes t S)(hS:∀ n,S' n↔S n):j5 rd inos nodes t S':=by
 obtain⟨A,B,h1,h2,h3⟩:=h;exact⟨A,B,h1,h2,fun n=>(hS n).trans (h3 n)⟩
end Go.Proofs.YtkghpdcloaiflaaGreatDoor
