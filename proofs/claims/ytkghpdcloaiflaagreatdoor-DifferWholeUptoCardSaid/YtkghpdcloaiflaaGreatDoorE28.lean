import Derived.Test.YtkghpdcloaiflaaGreatDoorE27
namespace Go.Proofs.YtkghpdcloaiflaaGreatDoor
open _root_.Go.Proofs.Tryz
theorem xC (was:List fC)(bh:Int->az)(U:Pl)(mU:Nat->Prop)(hSu:∀ n,mU n->am U.used n=true/\n<U.blocks):∀(r:List Nt) (set:az) (t:gK),cH t.pool->t.pool.blocks=U.blocks->(∀ n,am U.used n=true->am t.pool.used n=true)->
  (∀ x∈r,x.data.length<=16384/\∃ A,aR t.rd (bh x.num) (ec was x.num) A/\∀ n,A n->mU n)->((r.map fun x=>dc (bh x.num) x.data).sum<=t.pool.left)->ga set->
  ∃ inos Sq t' S,mF was r set t=.ok (inos,Sq,t')/\lC t'.rd inos r S/\dm t t' (r.map fun x=>dc (bh x.num) x.data).sum/\jk t'.pool S/\(∀ n,S n->mU n\/am U.used n=false)/\ga Sq/\(∀ n,am Sq n=true↔am set n=true\/S n)/\
   ((∀ x∈r,bh x.num=x.data)->inos=r.map (fun x=>⟨x.num,x.dir,x.links,ec was x.num⟩)/\t'=t)
 |[],set,t,ht,Jv,hut,hr,hc,hls=>⟨[],set,t,fun _=>False,rfl,fun _ h=>h,dm.refl ht,fun _ h=>h.elim,fun _ h=>h.elim,hls,fun n=>by simp,fun _=>⟨rfl,rfl⟩⟩
 |x::r,set,t,ht,Jv,hut,hr,hc,hls=>by
  rw[auy,auz]at hc;obtain⟨hx,A,hA,hAs⟩:=hr x (by simp);have hAp:jk t.pool A:=fun n hn=>⟨hut n (hSu n (hAs n hn)).1,by rw[Jv];exact(hSu n (hAs n hn)).2⟩
  obtain⟨b,t1,S1,e1,h1,g1,p1,q1,k1⟩:=eL ht hA hAp hx (by omega);obtain⟨s,e2,lA,h2⟩:=h1.reached set;obtain⟨inos,Sq,t',S,e3,h3,g3,p3,q3,Kt,h4,k3⟩:=xC was bh U mU hSu r s t1 g1.ok (g1.blocks.trans Jv) (fun n hn=>g1.used n (hut n hn)) (fun y hy=>by
   obtain⟨hy1,B,hB,hBs⟩:=hr y (by simp[hy]);refine⟨hy1,B,hB.turn fun n hn=>?_,hBs⟩;exact g1.keepRd (hut n (hSu n (hBs n hn)).1)) (by have:=g1.left;omega) lA
  refine⟨⟨x.num,x.dir,x.links,b⟩::inos,Sq,t',fun n=>S1 n\/S n,?_,⟨⟨rfl,rfl,rfl⟩,S1,S,h1.turn fun n hn=>g3.same p1 n hn,h3,fun n=>Iff.rfl⟩,?_,?_,?_,Kt,?_,?_⟩
  ·rw[mF,e1];simp only;rw[e2];simp only;rw[e3];rfl
  ·rw[auy,auz];exact g1.trans g3
  ·intro n hn;rcases hn with hn|hn
   ·exact p1.grow g3 n hn
   ·exact p3 n hn
  ·intro n hn;rcases hn with hn|hn
   ·rcases q1 n hn with h|h
    ·exact .inl (hAs n h)
    ·right
     cases hu:am U.used n with
     |false=>rfl
     |true=>rw[hut n hu]at h;cases h
   ·exact q3 n hn
  ·intro n;rw[h4,h2,or_assoc]
  ·intro nV;obtain⟨kb,kt,_⟩:=k1 (nV x (by simp));obtain⟨ki,kt'⟩:=k3 (fun y hy=>nV y (by simp[hy]));exact⟨by rw[auy,ki,kb],by rw[kt',kt]⟩
def jW (p:Nat->Bool)(blocks:Nat):Nat:=((List.range' 1 (blocks-1)).filter p).length
theorem QG {a b c d:Nat->Bool}{blocks:Nat}(h:∀ n,1<=n->n<blocks->(if a n=true then 1 else 0)+(if b n=true then 1 else 0)+(if c n=true then 1 else 0)<=(if d n=true then 1 else 0)):jW a blocks+jW b blocks+jW c blocks<=jW d blocks:=by
 unfold jW;have key:∀ l:List Nat,(∀ n∈l,1<=n/\n<blocks)->(l.filter a).length+(l.filter b).length+(l.filter c).length<=(l.filter d).length:=by
  intro l
  induction l with
  |nil=>intro _;simp
  |cons n l ih=>
   intro hl;have h1:=ih fun m hm=>hl m (by simp[hm]);have h2:=h n (hl n (by simp)).1 (hl n (by simp)).2;simp only[avN]
   cases ha:a n<;>cases hb:b n<;>cases hc:c n<;>cases hd:d n<;>simp only[ha,hb,hc,hd,if_true,Bool.false_eq_true,if_false,auA]at h2 ⊢<;>omega
 exact key _ fun n hn=>by rw[avz]at hn;omega
theorem QH {p:Nat->Bool}{blocks n:Nat}(h1:1<=n)(h2:n<blocks)(h:p n=true):1<=jW p blocks:=by
 unfold jW;exact List.length_pos_of_mem (a:=n) (by rw[auw,avz];exact⟨by omega,h⟩)
theorem Io (p q:Nat->Bool)(blocks:Nat):jW p blocks=jW (fun n=>p n&&q n) blocks+jW (fun n=>p n&&!q n) blocks:=by
 unfold jW
 induction List.range' 1 (blocks-1)with
 |nil=>rfl
 |cons n l ih=>
  simp only[avN]
  cases p n<;>cases q n<;>simp<;>omega
theorem jl {p q:Nat->Bool}{blocks:Nat}(h:∀ n,1<=n->n<blocks->p n=q n):jW p blocks=jW q blocks:=by
 unfold jW;rw[List.filter_congr];intro n hn;rw[avz]at hn;exact h n (by omega) (by omega)
theorem mL (used:az)(blocks:Nat):kX used blocks=jW (fun n=>!am used n) blocks:=rfl
theorem Eo {t t':gK}{k:Nat}(g:dm t t' k)(ht:cH t.pool):jW (fun n=>am t'.pool.used n&&!am t.pool.used n) t.pool.blocks=k:=by
 have h1:=ht.left;have h2:=g.ok.left;have h3:=g.left;rw[mL]at h1 h2;rw[g.blocks]at h2;have h4:=Io (fun n=>!am t.pool.used n) (fun n=>am t'.pool.used n) t.pool.blocks;have e1:jW (fun n=>!am t.pool.used n&&am t'.pool.used n) t.pool.blocks=jW (fun n=>am t'.pool.used n&&!am t.pool.used n) t.pool.blocks:=jl fun n _ _=>Bool.and_comm _ _;have e2:jW (fun n=>!am t.pool.used n&&!am t'.pool.used n) t.pool.blocks=jW (fun n=>!am t'.pool.used n) t.pool.blocks:=jl fun n _ _=>by
  have:=g.used n
  cases ha:am t.pool.used n<;>cases hb:am t'.pool.used n<;>simp_all
 omega
theorem xD (rd:Rd):∀(k:Nat) (p:Pl),cH p->k<=p.left->∃ q,pf k p=.ok q/\dm ⟨rd,p⟩ ⟨rd,q⟩ k
 |0,p,h,_=>⟨p,rfl,dm.refl h⟩
 |k+1,p,h,hl=>by
  obtain⟨n,p',e,h1,h2,h3,h4,h5,h6,h7,h8⟩:=vk h (by omega);obtain⟨q,e2,g⟩:=xD rd k p' h4 (by omega);refine⟨q,by rw[pf,e];exact e2,?_⟩;have g1:dm ⟨rd,p⟩ ⟨rd,p'⟩ 1:=by
   refine⟨h4,fun k hk=>by show am p'.used k=true;rw[h7];simp[show am p.used k=true from hk],fun k=>?_,h6,h5,fun _ _=>rfl,fun k hk de=>?_⟩
   ·show am p'.taken k=(am p.taken k||(am p'.used k&&!am p.used k));rw[h8,h7];by_cases hk:k=n
    ·subst hk;simp[h3]
    ·have:(k==n)=false:=by simp[hk]
     rw[this];cases am p.used k<;>simp
   ·have FQ:am p'.used k=true:=hk;rw[h7]at FQ;have dw:am p.used k=false:=de;rw[dw]at FQ;have:k=n:=by simpa using FQ
    subst this;exact⟨h1,h2⟩
  have:=g1.trans g
  rwa [Nat.add_comm]at this
theorem sy {used:az}{blocks next:Nat}(h1:1<=next)(h2:next<=blocks)(h3:blocks<=4096):cH (gB used blocks next):=⟨h1,h2,h3,rfl⟩
theorem QI (planes:List az)(n:Nat):am (cV planes) n=planes.any fun s=>am s n:=by
 unfold cV;have:∀(l:List az) (a:az),am (l.foldl eH a) n=(am a n||l.any fun s=>am s n):=by
  intro l
  induction l with
  |nil=>intro a;simp
  |cons s l ih=>intro a;rw[List.foldl_cons,ih,jL,List.any_cons,Bool.or_assoc]
 rw[this];rfl
theorem po (planes:List az)(blocks:Nat):(ig planes blocks).length=blocks:=by simp[ig]
def lW (was:Int):List Nt->Bool
 |[]=>true
 |x::r=>decide (was<x.num)&&decide (x.num<=65535)&&lW x.num r
structure NodesOk (l:List Nt):Prop where
 many:l.length<=60
 nums:lW 0 l=true
 links:∀ x∈l,1<=x.links/\x.links<=3600
 data:∀ x∈l,x.data.length<=16384
structure iI (l:List Nt):Prop extends NodesOk l where
 made:∃ T d,WF T d/\ar T=l
structure ju (l:List Sn)(id:Nat):Prop where
 many:l.length<=7
 name:∀ x∈l,aG x.name=true/\x.name.length<=16
 names:(l.map (·.name)).Nodup
 plane:∀ x∈l,1<=x.plane/\x.plane<=7
 planes:(l.map (·.plane)).Nodup
 ids:l.Pairwise fun a b=>a.id<b.id
 idlo:∀ x∈l,1<=x.id/\x.id<id
 top:1<=id/\id<=1099511627777
theorem jm {l:List Nt}:∀ {was:Int},lW was l=true->∀ x∈l,was<x.num/\x.num<=65535:=by
 induction l with
 |nil=>intro _ _ x hx;simp at hx
 |cons y l ih=>
  intro was h x hx;simp only[lW,auT,auY]at h;rcases auX.1 hx with rfl|hx
  ·exact h.1
  ·have:=ih h.2 x hx;omega
theorem pp {l:List Nt}:∀ {was:Int},lW was l=true->∀ x∈l,cI l x.num=x.data:=by
 induction l with
 |nil=>intro _ _ x hx;simp at hx
 |cons y l ih=>
  intro was h x hx;simp only[lW,auT,auY]at h;rcases auX.1 hx with rfl|hx
  ·have:l.filter (fun z=>z.num==x.num)=[]:=by
    rw[List.filter_eq_nil_iff];intro z hz;have:=jm h.2 z hz;simp;omega
   unfold cI;rw[avN,auI (by simp),this];rfl
  ·have h1:=ih h.2 x hx;have:=jm h.2 x hx;unfold cI at h1 ⊢;rw[avN,auK (by simp;omega)];exact h1
theorem WV {α:Type _}{l:List α}{f:α->Nat}{k:Nat}(h:∀ x∈l,f x<=k):(l.map f).sum<=k*l.length:=by
 induction l with
 |nil=>simp
 |cons a l ih=>
  have h1:=ih fun x hx=>h x (by simp[hx]);have h2:=h a (by simp);simp only[auy,auz,auA,Nat.mul_succ];omega
theorem pq {b:fP}(h:0<=b.root/\b.root<4096/\0<=b.size/\b.size<=16384):(yH b).length<=5:=by
 have h1:=eC 1 b.root.toNat (by omega);have h2:=eC 2 b.size.toNat (by omega);unfold yH;simp;omega
theorem xE {rd:Rd}:∀ {inos:List fC} {nodes:List Nt} {S:Nat->Prop} {was:Int},lC rd inos nodes S->lW was nodes=true->(∀ x∈nodes,1<=x.links/\x.links<=3600)->(inos.flatMap oo).length<=11*nodes.length
 |[],[],_,_,_,_,_=>by simp
 |y::ys,x::xs,S,was,⟨h1,A,B,h2,h3,h4⟩,hn,hl=>by
  simp only[lW,auT,auY]at hn;have ih:=xE h3 hn.2 fun z hz=>hl z (by simp[hz]);have hx:=hl x (by simp);have e1:=eC 2 y.num.toNat (by rw[h1.1];omega);have e2:=eC 0 (if y.dir=true then 1 else 0) (by split<;>omega);have e3:=eC 1 y.links.toNat (by rw[h1.2.2];omega);have e4:=pq h2.small;rw[avg,auS,auA];have:(oo y).length<=11:=by unfold oo;simp only[auS];omega
  omega
 |[],_::_,_,_,h,_,_=>h.elim
 |_::_,[],_,_,h,_,_=>h.elim
theorem Ep {rd:Rd}{inos:List fC}{nodes:List Nt}{S:Nat->Prop}(h:lC rd inos nodes S)(hn:NodesOk nodes):(j9 inos).length<=2+12*nodes.length/\(j9 inos).length<=722:=by
 have h1:=xE h hn.nums hn.links;have h2:=h.len;have h3:=hn.many;have h4:=eC 0 inos.length (by omega);unfold j9;rw[auS];omega
theorem xF {l:List Sn}{id:Nat}(h:ju l id)(ht:∀ x∈l,x.table.ok=true):(kc l).length<=240/\0<(kc l).length:=by
 have h1:=eC 0 l.length (by have:=h.many;omega);have h2:(l.flatMap pa).length<=29*l.length:=by
  rw[List.length_flatMap];apply WV;intro x hx;have a1:=eC 0 x.name.length (by have:=(h.name x hx).2;omega);have a2:=(h.name x hx).2;have a3:=eC 5 x.id.toNat (by have:=h.idlo x hx;have:=h.top;omega);have a4:=eC 0 x.plane.toNat (by have:=h.plane x hx;omega);have hb:=ht x hx;unfold fP.ok fP.may at hb;simp only[auT,auY]at hb;have a5:=pq (b:=x.table) ⟨hb.1.2,hb.2,hb.1.1.1.1,hb.1.1.1.2⟩;unfold pa;simp only[auS];omega
 have h3:0<(aP l.length).length:=by
  rw[aP];split<;>simp
 have:=h.many;unfold kc;rw[auS];omega
structure io (v:Vs):Prop where
 many:32<=v.blocks/\v.blocks<=4096
 next:1<=v.b.next/\v.b.next<=v.blocks
 eight:v.b.planes.length=8
 planes:∀ p,p<8->ga (v.b.planes.getD p [])/\∀ n,am (v.b.planes.getD p []) n=true->1<=n/\n<v.blocks
 list:ju v.b.list v.b.id
 clear:∀ p:Nat,1<=p->p<8->(∀ x∈v.b.list,x.plane≠(p:Int))->v.b.planes.getD p []=[]
 snaps:∀ x∈v.b.list,∃ inos nodes,iI nodes/\j0 v.rd inos nodes x.table (fun n=>am (v.b.planes.getD x.plane.toNat []) n=true)
 here:∃(S Ss Sm:Nat->Prop) (own:az),j0 v.rd v.b.inodes v.b.nodes v.b.table S/\aR v.rd (kc v.b.list) v.b.snaps Ss/\aR v.rd (ig v.b.planes v.blocks) v.b.mapped Sm/\(∀ n,Sm n->am own n=true)/\
  (∀ n,am (v.b.planes.getD 0 []) n=true↔S n\/Ss n\/am own n=true)/\jW (am own) v.blocks=aS v.blocks/\
  (∀ n,Ss n\/am own n=true->¬ S n/\∀ p,1<=p->p<8->am (v.b.planes.getD p []) n=false)/\(∀ n,Ss n->am own n=false)
 nodes:NodesOk v.b.nodes
 told:iI (ar v.T)
 room:bH v (ar v.T)<=dp v
def qX (v:Vs)(x:Sn)(nodes:List Nt):Prop:=iI nodes/\∃ inos,j0 v.rd inos nodes x.table (fun n=>am (v.b.planes.getD x.plane.toNat []) n=true)
theorem ee {l:List Sn}(h:l.length<7):1<=aW l/\aW l<=7/\∀ x∈l,x.plane≠(aW l:Int):=by
 have key:∃ p,p∈List.range' 1 7/\∀ x∈l,x.plane≠((p:Nat):Int):=by
  apply avv;intro lH;have:∀ p∈(List.range' 1 7).map (fun p:Nat=>(p:Int)),p∈l.map (·.plane):=by
   intro p hp;obtain⟨q,hq,rfl⟩:=au6.1 hp;apply avv;intro hn;exact lH ⟨q,hq,fun x hx e=>hn (au6.2 ⟨x,hx,e⟩)⟩
  have:=pL (by decide) this;simp at this;omega
 obtain⟨p,hp,hx⟩:=key;unfold aW
 cases hf:(List.range' 1 8).find? fun(p:Nat)=>!l.any fun x=>x.plane==(p:Int)with
 |none=>
  rw[avA]at hf;have:=hf p (by rw[avz]at hp ⊢;omega);simp only[Bool.not_eq_true,Bool.not_eq_false',List.any_eq_true,ave]at this;obtain⟨x,RT,e⟩:=this;exact absurd e (hx x RT)
 |some q=>
  have h1:=avx hf;have h2:=avy hf;rw[avz]at h2;have h3:∀ x∈l,x.plane≠(q:Int):=by
   intro x RT e;simp only[Bool.not_eq_true',List.any_eq_false,ave]at h1;exact h1 x RT e
  refine⟨by simp;omega,?_,by simpa using h3⟩;have hq:q<=p:=by
   rw[List.find?_range'_eq_some]at hf;by_cases IY:q<=p
   ·exact IY
   ·rw[avz]at hp;have:=hf.2.2 p (by omega) (by omega);simp only[Bool.not_not,List.any_eq_true,ave]at this;obtain⟨x,RT,e⟩:=this;exact absurd e (hx x RT)
  rw[avz]at hp;simp;omega
theorem nL (planes:List az)(l:List Sn)(p:Nat)(h:p<8):(kY planes l).getD p []=if p=0\/l.any (fun x=>x.plane==(p:Int))=true then planes.getD p []else []:=by
 unfold kY;rw[List.getD,avB,avC h];rfl
theorem QJ {α:Type}{l:List α}{i:Nat}{d:α}(h:i<l.length):l.getD i d∈l:=by
 rw[List.getD,auB h];exact ava _
theorem pr {planes:List az}(h8:planes.length=8)(n:Nat):am (cV planes) n=true↔∃ p,p<8/\am (planes.getD p []) n=true:=by
 rw[QI,List.any_eq_true]
 constructor
 ·rintro⟨s,hs,hn⟩;obtain⟨p,hp⟩:=avP hs;have:=(auP.1 hp).1;exact⟨p,by omega,by rw[List.getD,hp];exact hn⟩
 ·rintro⟨p,hp,hn⟩;exact⟨_,QJ (by omega),hn⟩
theorem uu {l r:List Sn}{id:Nat}(h:ju l id)(hs:r.Sublist l):ju r id where
 many:=aux hs.length_le h.many
 name x hx:=h.name x (hs.subset hx)
 names:=h.names.sublist (hs.map _)
 plane x hx:=h.plane x (hs.subset hx)
 planes:=h.planes.sublist (hs.map _)
 ids:=h.ids.sublist hs
 idlo x hx:=h.idlo x (hs.subset hx)
 top:=h.top
theorem uv {l:List Sn}{id:Nat}{more:az}{t:fP}(h:ju l id)(h7:l.length<7)(hn:aG more=true)(AK:more.length<=16)(lH:∀ x∈l,x.name≠more)(hid:id<=1099511627776):ju (l++[⟨more,id,aW l,t⟩]) (id+1) where
 many:=by simp;omega
 name x hx:=by
  rcases avE.1 hx with hx|hx
  ·exact h.name x hx
  ·simp at hx;subst hx;exact⟨hn,AK⟩
 names:=by
  rw[List.map_append,List.nodup_append];refine⟨h.names,by simp,?_⟩;intro a ha b hb;obtain⟨x,hx,rfl⟩:=au6.1 ha;simp at hb;subst hb;exact lH x hx
 plane x hx:=by
  rcases avE.1 hx with hx|hx
  ·exact h.plane x hx
  ·simp at hx;subst hx;have:=ee h7;simp;omega
 planes:=by
  rw[List.map_append,List.nodup_append];refine⟨h.planes,by simp,?_⟩;intro a ha b hb;obtain⟨x,hx,rfl⟩:=au6.1 ha;simp at hb;subst hb;exact(ee h7).2.2 x hx
 ids:=by
  rw[List.pairwise_append];refine⟨h.ids,by simp,?_⟩;intro a ha b hb;simp at hb;subst hb;have:=(h.idlo a ha).2;exact this
 idlo x hx:=by
  rcases avE.1 hx with hx|hx
  ·have:=h.idlo x hx;exact⟨this.1,by have:=this.2;omega⟩
  ·simp at hx;subst hx;have:=h.top;simp;omega
 top:=by have:=h.top;omega
structure mM (v:Vs):Prop where
 many:32<=v.blocks/\v.blocks<=4096
 next:1<=v.b.next/\v.b.next<=v.blocks
 eight:v.b.planes.length=8
 planes:∀ p,p<8->ga (v.b.planes.getD p [])/\∀ n,am (v.b.planes.getD p []) n=true->1<=n/\n<v.blocks
 list:ju v.b.list v.b.id
 snaps:∀ x∈v.b.list,∃ inos nodes,iI nodes/\j0 v.rd inos nodes x.table (fun n=>am (v.b.planes.getD x.plane.toNat []) n=true)
 here:∃(A B Ss:Nat->Prop) (own yi ko:az),lC v.rd v.b.inodes v.b.nodes A/\aR v.rd yi v.b.table B/\(ar v.T=v.b.nodes->yi=j9 v.b.inodes)/\aR v.rd ko v.b.snaps Ss/\ko.length<=240/\
  (∀ n,am (v.b.planes.getD 0 []) n=true↔(A n\/B n)\/Ss n\/am own n=true)/\
  (∀ n,Ss n\/am own n=true->¬(A n\/B n)/\∀ p,1<=p->p<8->am (v.b.planes.getD p []) n=false)/\(∀ n,Ss n->am own n=false)/\
  (jW (am own) v.blocks=aS v.blocks/\0<ko.length\/bH v (ar v.T)+bM v+1<=dp v)
 nodes:NodesOk v.b.nodes
 told:iI (ar v.T)
 room:bH v (ar v.T)<=dp v
theorem io.ready {v:Vs}(h:io v):mM v:=by
 refine⟨h.many,h.next,h.eight,h.planes,h.list,h.snaps,?_,h.nodes,h.told,h.room⟩;obtain⟨S,Ss,Sm,own,⟨A,B,hA,hB,OQ⟩,h2,h3,h4,h5,h6,h7,h8⟩:=h.here;have IW:∀ y∈v.b.list,y.table.ok=true:=by
  intro y hy;obtain⟨_,_,_,C,D,_,hD,_⟩:=h.snaps y hy;exact hD.may
 have hl:=xF h.list IW;exact⟨A,B,Ss,own,j9 v.b.inodes,kc v.b.list,hA,hB,fun _=>rfl,h2,hl.1,fun n=>by rw[h5,OQ],fun n hn=>by have:=h7 n hn;rw[OQ]at this;exact this,h8,.inl ⟨h6,hl.2⟩⟩
structure dX (v:Vs)(list:List Sn)(more:az):Prop where
 sub:list.Sublist v.b.list
 more:more=[]\/(aG more=true/\more.length<=16/\(∀ x∈list,x.name≠more)/\list.length<7/\v.b.id<=1099511627776)
def nM (v u:Vs)(x:Sn):Prop:=u.b.planes.getD x.plane.toNat []=v.b.planes.getD x.plane.toNat []/\∀ n:Nat,am (v.b.planes.getD x.plane.toNat []) n=true->u.rd n=v.rd n
structure Bt (v:Vs)(list:List Sn)(more:az)(u:Vs):Prop where
 run:bB v list more=.ok u
 good:io u
 blocks:u.blocks=v.blocks
 num:u.num=v.num+1
 T:u.T=v.T
 half:u.half=v.half
 recs:u.recs=[]
 nodes:u.b.nodes=ar v.T
 id:u.b.id=if more=[]then v.b.id else v.b.id+1
 sns:∃ x:Sn,x.name=more/\x.id=v.b.id/\x.table=u.b.table/\(u.b.list=if more=[]then list else list++[x])/\(more≠[]->qX u x (ar v.T))
 trees:∀ x∈list,∀ nodes,qX v x nodes->qX u x nodes
 room:bH u (ar u.T)=bM u+1
 kept:∀ x∈list,nM v u x
theorem Ag {v:Vs}{l:List Nt}(h:l=v.b.nodes)(hn:NodesOk l):bH v l=bM v+1:=by
 unfold bH;have:(l.map fun x=>dc (cI v.b.nodes x.num) x.data).sum=0:=by
  have key:∀ r:List Nt,(∀ x∈r,x∈l)->(r.map fun x=>dc (cI v.b.nodes x.num) x.data).sum=0:=by
   intro r
   induction r with
   |nil=>intro _;rfl
   |cons x r ih=>
    intro hr;have hx:=hr x (by simp);rw[auy,auz,ih fun y hy=>hr y (by simp[hy]),<-h,pp hn.nums x hx,kZ _ (hn.data x hx)]
  exact key l fun _ h=>h
 rw[this,auI h]
theorem tG {rd:Rd}:∀ {ys:List fC} {xs:List Nt} {S:Nat->Prop} {was:Int},lC rd ys xs S->lW was xs=true->xs.map (fun x=>(⟨x.num,x.dir,x.links,ec ys x.num⟩:fC))=ys
 |[],[],_,_,_,_=>rfl
 |y::ys,x::xs,S,was,⟨h1,A,B,h2,h3,h4⟩,hn=>by
  simp only[lW,auT,auY]at hn;have ih:=tG h3 hn.2;have aaQ:ys.filter (fun z=>z.num==x.num)=[]:=by
   rw[List.filter_eq_nil_iff];intro z hz;have:z.num∈xs.map (·.num):=by rw[<-h3.nums];exact au6.2 ⟨z,hz,rfl⟩
   obtain⟨w,hw,e⟩:=au6.1 this;have:=jm hn.2 w hw;simp;omega
  rw[auy]
  congr 1
  ·have:ec (y::ys) x.num=y.blob:=by
    unfold ec;rw[avN,auI (by simp[h1.1]),aaQ];rfl
   rw[this];obtain⟨e1,e2,e3⟩:=h1
   cases y
   simp only at e1 e2 e3;subst e1 e2 e3;rfl
  ·refine Eq.trans ?_ ih;apply au1;intro z hz;have oH:=jm hn.2 z hz;have:ec (y::ys) z.num=ec ys z.num:=by
    unfold ec;have hy:=h1.1;rw[avN,auK (by simp;omega)]
   rw[this]
 |[],_::_,_,_,h,_=>h.elim
 |_::_,[],_,_,h,_=>h.elim
theorem mN {n:Nat}(h:n<=240):aS n<=1:=by
 unfold aS;rcases aM n with⟨_,e⟩|⟨_,_,e⟩|⟨_,_,e⟩|⟨_,e⟩<;>rw[e]<;>simp<;>omega
theorem Ah {s:az}(h:s.length<=240):aO s 0=s:=by
 unfold aO;rw[Nat.zero_mul,avr,avl h]
theorem Mw {t:gK}{bh data:az}{b b':fP}{t':gK}{S S':Nat->Prop}(ht:cH t.pool)(h:aR t.rd bh b S)(hd:data.length<=240)(h0:0<data.length)(hh:bh.length<=240)(dW:bh≠data)(hl:0<t.pool.left)
  (e:dI t b data=.ok (b',t')) (h':aR t'.rd data b' S') (n:Nat) (hn:S' n):am t.pool.used n=false:=by
 obtain⟨hs,was,rfl,hw,_⟩:=h;obtain⟨o,e1,e2,_⟩:=kV hw hs true;have eU:au data.length=[1]:=by
  rcases aM data.length with⟨_,e⟩|⟨_,_,e⟩|⟨_,_,e⟩|⟨_,e⟩
  ·omega
  ·exact e
  all_goals omega
 obtain⟨m,p',et,m1,m2,m3,_⟩:=vk ht hl;have est:gc bh data was 0=none:=by
  unfold gc;rw[Ah hd,Ah hh,auK (Ne.symm dW)]
 have eN:kI bh data was t=.ok ([[(m:Int)]],⟨l8 t.rd m (aO data 0),p'⟩):=by
  unfold kI;rw[eU];simp only[iu,est,et];rfl
 unfold dI at e;rw[auK (by omega),e1]at e;simp only[↓reduceIte]at e;rw[e2,eN]at e;have e3:b'=dt data [[(m:Int)]]:=by
  injection e with e;injection e with e _;exact e.symm
 obtain⟨_,nums,eb,cf,hS'⟩:=h';have r1:=pS cf h0 (by omega);have yy:nums.length=1:=by
  have:=cf.shape;rw[eU]at this;have:=avO List.length this;simpa using this
 have hr:iP nums=m:=by
  rw[e3]at eb;unfold dt at eb;rw[auK (by omega),auK (by omega)]at eb;injection eb with eb _;have:iP [[(m:Int)]]=m:=rfl;omega
 have:nums=[[(m:Int)]]:=by
  obtain⟨L,rfl⟩:=List.length_eq_one_iff.1 yy;have:=r1.2.1;simp at this;rw[this,hr]
 have AK:=(hS' n).1 hn;rw[this]at AK;have:n=m:=by simp at AK;omega
 subst this;exact m3
theorem j0.iff {rd:Rd}{inos:List fC}{nodes:List Nt}{t:fP}{S S':Nat->Prop}(h:j0 rd inos nodes t S)(hS:∀ n,S' n↔S n):j0 rd inos nodes t S':=by
 obtain⟨A,B,h1,h2,h3⟩:=h;exact⟨A,B,h1,h2,fun n=>(hS n).trans (h3 n)⟩
end Go.Proofs.YtkghpdcloaiflaaGreatDoor
