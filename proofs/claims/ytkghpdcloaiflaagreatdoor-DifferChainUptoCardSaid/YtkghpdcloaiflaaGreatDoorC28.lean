import Derived.Test.YtkghpdcloaiflaaGreatDoorC27
namespace Go.Proofs.YtkghpdcloaiflaaGreatDoor
open _root_.Go.Proofs.Tryz
theorem xg (was:List fF)(bg:Int->ay)(U:Pl)(mN:Nat->Prop)(hSu:∀ n,mN n->ak U.used n=true/\n<U.blocks):∀(r:List Nt) (set:ay) (t:gA),cE t.pool->t.pool.blocks=U.blocks->(∀ n,ak U.used n=true->ak t.pool.used n=true)->
  (∀ x∈r,x.data.length<=16384/\∃ A,aR t.rd (bg x.num) (dX was x.num) A/\∀ n,A n->mN n)->((r.map fun x=>da (bg x.num) x.data).sum<=t.pool.left)->eT set->
  ∃ inos RW t' S,mt was r set t=.ok (inos,RW,t')/\mu t'.rd inos r S/\dg t t' (r.map fun x=>da (bg x.num) x.data).sum/\i1 t'.pool S/\(∀ n,S n->mN n\/ak U.used n=false)/\eT RW/\(∀ n,ak RW n=true↔ak set n=true\/S n)/\
   ((∀ x∈r,bg x.num=x.data)->inos=r.map (fun x=>⟨x.num,x.dir,x.links,dX was x.num⟩)/\t'=t)
 |[],set,t,ht,Ir,hut,hr,hc,hls=>⟨[],set,t,fun _=>False,rfl,fun _ h=>h,dg.refl ht,fun _ h=>h.elim,fun _ h=>h.elim,hls,fun n=>by simp,fun _=>⟨rfl,rfl⟩⟩
 |x::r,set,t,ht,Ir,hut,hr,hc,hls=>by
  rw[atF,atG]at hc;obtain⟨hx,A,hA,hAs⟩:=hr x (by simp);have hAp:i1 t.pool A:=fun n hn=>⟨hut n (hSu n (hAs n hn)).1,by rw[Ir];exact(hSu n (hAs n hn)).2⟩
  obtain⟨b,t1,S1,e1,h1,g1,p1,q1,k1⟩:=eC ht hA hAp hx (by omega);obtain⟨s,e2,lj,h2⟩:=h1.reached set;obtain⟨inos,RW,t',S,e3,h3,g3,p3,q3,J4,h4,k3⟩:=xg was bg U mN hSu r s t1 g1.ok (g1.blocks.trans Ir) (fun n hn=>g1.used n (hut n hn)) (fun y hy=>by
   obtain⟨hy1,B,hB,hBs⟩:=hr y (by simp[hy]);refine⟨hy1,B,hB.turn fun n hn=>?_,hBs⟩;exact g1.keepRd (hut n (hSu n (hBs n hn)).1)) (by have:=g1.left;omega) lj
  refine⟨⟨x.num,x.dir,x.links,b⟩::inos,RW,t',fun n=>S1 n\/S n,?_,⟨⟨rfl,rfl,rfl⟩,S1,S,h1.turn fun n hn=>g3.same p1 n hn,h3,fun n=>Iff.rfl⟩,?_,?_,?_,J4,?_,?_⟩
  ·rw[mt,e1];simp only;rw[e2];simp only;rw[e3];rfl
  ·rw[atF,atG];exact g1.trans g3
  ·intro n hn;rcases hn with hn|hn
   ·exact p1.grow g3 n hn
   ·exact p3 n hn
  ·intro n hn;rcases hn with hn|hn
   ·rcases q1 n hn with h|h
    ·exact .inl (hAs n h)
    ·right
     cases hu:ak U.used n with
     |false=>rfl
     |true=>rw[hut n hu]at h;cases h
   ·exact q3 n hn
  ·intro n;rw[h4,h2,or_assoc]
  ·intro nM;obtain⟨kb,kt,_⟩:=k1 (nM x (by simp));obtain⟨ki,kt'⟩:=k3 (fun y hy=>nM y (by simp[hy]));exact⟨by rw[atF,ki,kb],by rw[kt',kt]⟩
def jJ (p:Nat->Bool)(blocks:Nat):Nat:=((List.range' 1 (blocks-1)).filter p).length
theorem Qj {a b c d:Nat->Bool}{blocks:Nat}(h:∀ n,1<=n->n<blocks->(if a n=true then 1 else 0)+(if b n=true then 1 else 0)+(if c n=true then 1 else 0)<=(if d n=true then 1 else 0)):jJ a blocks+jJ b blocks+jJ c blocks<=jJ d blocks:=by
 unfold jJ;have key:∀ l:List Nat,(∀ n∈l,1<=n/\n<blocks)->(l.filter a).length+(l.filter b).length+(l.filter c).length<=(l.filter d).length:=by
  intro l
  induction l with
  |nil=>intro _;simp
  |cons n l ih=>
   intro hl;have h1:=ih fun m hm=>hl m (by simp[hm]);have h2:=h n (hl n (by simp)).1 (hl n (by simp)).2;simp only[auY]
   cases ha:a n<;>cases hb:b n<;>cases hc:c n<;>cases hd:d n<;>simp only[ha,hb,hc,hd,if_true,Bool.false_eq_true,if_false,atH]at h2 ⊢<;>omega
 exact key _ fun n hn=>by rw[auK]at hn;omega
theorem Qk {p:Nat->Bool}{blocks n:Nat}(h1:1<=n)(h2:n<blocks)(h:p n=true):1<=jJ p blocks:=by
 unfold jJ;exact List.length_pos_of_mem (a:=n) (by rw[atD,auK];exact⟨by omega,h⟩)
theorem GY (p q:Nat->Bool)(blocks:Nat):jJ p blocks=jJ (fun n=>p n&&q n) blocks+jJ (fun n=>p n&&!q n) blocks:=by
 unfold jJ
 induction List.range' 1 (blocks-1)with
 |nil=>rfl
 |cons n l ih=>
  simp only[auY]
  cases p n<;>cases q n<;>simp<;>omega
theorem i6 {p q:Nat->Bool}{blocks:Nat}(h:∀ n,1<=n->n<blocks->p n=q n):jJ p blocks=jJ q blocks:=by
 unfold jJ;rw[List.filter_congr];intro n hn;rw[auK]at hn;exact h n (by omega) (by omega)
theorem mE (used:ay)(blocks:Nat):kK used blocks=jJ (fun n=>!ak used n) blocks:=rfl
theorem DT {t t':gA}{k:Nat}(g:dg t t' k)(ht:cE t.pool):jJ (fun n=>ak t'.pool.used n&&!ak t.pool.used n) t.pool.blocks=k:=by
 have h1:=ht.left;have h2:=g.ok.left;have h3:=g.left;rw[mE]at h1 h2;rw[g.blocks]at h2;have h4:=GY (fun n=>!ak t.pool.used n) (fun n=>ak t'.pool.used n) t.pool.blocks;have e1:jJ (fun n=>!ak t.pool.used n&&ak t'.pool.used n) t.pool.blocks=jJ (fun n=>ak t'.pool.used n&&!ak t.pool.used n) t.pool.blocks:=i6 fun n _ _=>Bool.and_comm _ _;have e2:jJ (fun n=>!ak t.pool.used n&&!ak t'.pool.used n) t.pool.blocks=jJ (fun n=>!ak t'.pool.used n) t.pool.blocks:=i6 fun n _ _=>by
  have:=g.used n
  cases ha:ak t.pool.used n<;>cases hb:ak t'.pool.used n<;>simp_all
 omega
theorem xh (rd:Rd):∀(k:Nat) (p:Pl),cE p->k<=p.left->∃ q,oP k p=.ok q/\dg ⟨rd,p⟩ ⟨rd,q⟩ k
 |0,p,h,_=>⟨p,rfl,dg.refl h⟩
 |k+1,p,h,hl=>by
  obtain⟨n,p',e,h1,h2,h3,h4,h5,h6,h7,h8⟩:=uM h (by omega);obtain⟨q,e2,g⟩:=xh rd k p' h4 (by omega);refine⟨q,by rw[oP,e];exact e2,?_⟩;have g1:dg ⟨rd,p⟩ ⟨rd,p'⟩ 1:=by
   refine⟨h4,fun k hk=>by show ak p'.used k=true;rw[h7];simp[show ak p.used k=true from hk],fun k=>?_,h6,h5,fun _ _=>rfl,fun k hk dc=>?_⟩
   ·show ak p'.taken k=(ak p.taken k||(ak p'.used k&&!ak p.used k));rw[h8,h7];by_cases hk:k=n
    ·subst hk;simp[h3]
    ·have:(k==n)=false:=by simp[hk]
     rw[this];cases ak p.used k<;>simp
   ·have Fz:ak p'.used k=true:=hk;rw[h7]at Fz;have dq:ak p.used k=false:=dc;rw[dq]at Fz;have:k=n:=by simpa using Fz
    subst this;exact⟨h1,h2⟩
  have:=g1.trans g
  rwa [Nat.add_comm]at this
theorem rL {used:ay}{blocks next:Nat}(h1:1<=next)(h2:next<=blocks)(h3:blocks<=4096):cE (gm used blocks next):=⟨h1,h2,h3,rfl⟩
theorem Ql (planes:List ay)(n:Nat):ak (cV planes) n=planes.any fun s=>ak s n:=by
 unfold cV;have:∀(l:List ay) (a:ay),ak (l.foldl d6 a) n=(ak a n||l.any fun s=>ak s n):=by
  intro l
  induction l with
  |nil=>intro a;simp
  |cons s l ih=>intro a;rw[List.foldl_cons,ih,iL,List.any_cons,Bool.or_assoc]
 rw[this];rfl
theorem oW (planes:List ay)(blocks:Nat):(gW planes blocks).length=blocks:=by simp[gW]
def lP (was:Int):List Nt->Bool
 |[]=>true
 |x::r=>decide (was<x.num)&&decide (x.num<=65535)&&lP x.num r
structure jZ (l:List Nt):Prop where
 many:l.length<=60
 nums:lP 0 l=true
 links:∀ x∈l,1<=x.links/\x.links<=3600
 data:∀ x∈l,x.data.length<=16384
structure iz (l:List Nt):Prop extends jZ l where
 made:∃ T d,WF T d/\ar T=l
structure ji (l:List Sn)(id:Nat):Prop where
 many:l.length<=7
 name:∀ x∈l,aH x.name=true/\x.name.length<=16
 names:(l.map (·.name)).Nodup
 plane:∀ x∈l,1<=x.plane/\x.plane<=7
 planes:(l.map (·.plane)).Nodup
 ids:l.Pairwise fun a b=>a.id<b.id
 idlo:∀ x∈l,1<=x.id/\x.id<id
 top:1<=id/\id<=1099511627777
theorem i7 {l:List Nt}:∀ {was:Int},lP was l=true->∀ x∈l,was<x.num/\x.num<=65535:=by
 induction l with
 |nil=>intro _ _ x hx;simp at hx
 |cons y l ih=>
  intro was h x hx;simp only[lP,at2,aua]at h;rcases at9.1 hx with rfl|hx
  ·exact h.1
  ·have:=ih h.2 x hx;omega
theorem oX {l:List Nt}:∀ {was:Int},lP was l=true->∀ x∈l,cF l x.num=x.data:=by
 induction l with
 |nil=>intro _ _ x hx;simp at hx
 |cons y l ih=>
  intro was h x hx;simp only[lP,at2,aua]at h;rcases at9.1 hx with rfl|hx
  ·have:l.filter (fun z=>z.num==x.num)=[]:=by
    rw[List.filter_eq_nil_iff];intro z hz;have:=i7 h.2 z hz;simp;omega
   unfold cF;rw[auY,atP (by simp),this];rfl
  ·have h1:=ih h.2 x hx;have:=i7 h.2 x hx;unfold cF at h1 ⊢;rw[auY,atR (by simp;omega)];exact h1
theorem Wj {α:Type _}{l:List α}{f:α->Nat}{k:Nat}(h:∀ x∈l,f x<=k):(l.map f).sum<=k*l.length:=by
 induction l with
 |nil=>simp
 |cons a l ih=>
  have h1:=ih fun x hx=>h x (by simp[hx]);have h2:=h a (by simp);simp only[atF,atG,atH,Nat.mul_succ];omega
theorem oY {b:fR}(h:0<=b.root/\b.root<4096/\0<=b.size/\b.size<=16384):(yt b).length<=5:=by
 have h1:=eh 1 b.root.toNat (by omega);have h2:=eh 2 b.size.toNat (by omega);unfold yt;simp;omega
theorem xi {rd:Rd}:∀ {inos:List fF} {nodes:List Nt} {S:Nat->Prop} {was:Int},mu rd inos nodes S->lP was nodes=true->(∀ x∈nodes,1<=x.links/\x.links<=3600)->(inos.flatMap nU).length<=11*nodes.length
 |[],[],_,_,_,_,_=>by simp
 |y::ys,x::xs,S,was,⟨h1,A,B,h2,h3,h4⟩,hn,hl=>by
  simp only[lP,at2,aua]at hn;have ih:=xi h3 hn.2 fun z hz=>hl z (by simp[hz]);have hx:=hl x (by simp);have e1:=eh 2 y.num.toNat (by rw[h1.1];omega);have e2:=eh 0 (if y.dir=true then 1 else 0) (by split<;>omega);have e3:=eh 1 y.links.toNat (by rw[h1.2.2];omega);have e4:=oY h2.small;rw[aus,at0,atH];have:(nU y).length<=11:=by unfold nU;simp only[at0];omega
  omega
 |[],_::_,_,_,h,_,_=>h.elim
 |_::_,[],_,_,h,_,_=>h.elim
theorem DU {rd:Rd}{inos:List fF}{nodes:List Nt}{S:Nat->Prop}(h:mu rd inos nodes S)(hn:jZ nodes):(jT inos).length<=2+12*nodes.length/\(jT inos).length<=722:=by
 have h1:=xi h hn.nums hn.links;have h2:=h.len;have h3:=hn.many;have h4:=eh 0 inos.length (by omega);unfold jT;rw[at0];omega
theorem xj {l:List Sn}{id:Nat}(h:ji l id)(ht:∀ x∈l,x.table.ok=true):(jU l).length<=240/\0<(jU l).length:=by
 have h1:=eh 0 l.length (by have:=h.many;omega);have h2:(l.flatMap oO).length<=29*l.length:=by
  rw[List.length_flatMap];apply Wj;intro x hx;have a1:=eh 0 x.name.length (by have:=(h.name x hx).2;omega);have a2:=(h.name x hx).2;have a3:=eh 5 x.id.toNat (by have:=h.idlo x hx;have:=h.top;omega);have a4:=eh 0 x.plane.toNat (by have:=h.plane x hx;omega);have hb:=ht x hx;unfold fR.ok fR.may at hb;simp only[at2,aua]at hb;have a5:=oY (b:=x.table) ⟨hb.1.2,hb.2,hb.1.1.1.1,hb.1.1.1.2⟩;unfold oO;simp only[at0];omega
 have h3:0<(aO l.length).length:=by
  rw[aO];split<;>simp
 have:=h.many;unfold jU;rw[at0];omega
structure ma (v:Vs):Prop where
 many:32<=v.blocks/\v.blocks<=4096
 next:1<=v.b.next/\v.b.next<=v.blocks
 eight:v.b.planes.length=8
 planes:∀ p,p<8->eT (v.b.planes.getD p [])/\∀ n,ak (v.b.planes.getD p []) n=true->1<=n/\n<v.blocks
 list:ji v.b.list v.b.id
 clear:∀ p:Nat,1<=p->p<8->(∀ x∈v.b.list,x.plane≠(p:Int))->v.b.planes.getD p []=[]
 snaps:∀ x∈v.b.list,∃ inos nodes,iz nodes/\lM v.rd inos nodes x.table (fun n=>ak (v.b.planes.getD x.plane.toNat []) n=true)
 here:∃(S Ss Sm:Nat->Prop) (own:ay),lM v.rd v.b.inodes v.b.nodes v.b.table S/\aR v.rd (jU v.b.list) v.b.snaps Ss/\aR v.rd (gW v.b.planes v.blocks) v.b.mapped Sm/\(∀ n,Sm n->ak own n=true)/\
  (∀ n,ak (v.b.planes.getD 0 []) n=true↔S n\/Ss n\/ak own n=true)/\jJ (ak own) v.blocks=aQ v.blocks/\
  (∀ n,Ss n\/ak own n=true->¬ S n/\∀ p,1<=p->p<8->ak (v.b.planes.getD p []) n=false)/\(∀ n,Ss n->ak own n=false)
 nodes:jZ v.b.nodes
 told:iz (ar v.T)
 room:bF v (ar v.T)<=dh v
def qH (v:Vs)(x:Sn)(nodes:List Nt):Prop:=iz nodes/\∃ inos,lM v.rd inos nodes x.table (fun n=>ak (v.b.planes.getD x.plane.toNat []) n=true)
theorem dY {l:List Sn}(h:l.length<7):1<=aV l/\aV l<=7/\∀ x∈l,x.plane≠(aV l:Int):=by
 have key:∃ p,p∈List.range' 1 7/\∀ x∈l,x.plane≠((p:Nat):Int):=by
  apply auG;intro lB;have:∀ p∈(List.range' 1 7).map (fun p:Nat=>(p:Int)),p∈l.map (·.plane):=by
   intro p hp;obtain⟨q,hq,rfl⟩:=aui.1 hp;apply auG;intro hn;exact lB ⟨q,hq,fun x hx e=>hn (aui.2 ⟨x,hx,e⟩)⟩
  have:=px (by decide) this;simp at this;omega
 obtain⟨p,hp,hx⟩:=key;unfold aV
 cases hf:(List.range' 1 8).find? fun(p:Nat)=>!l.any fun x=>x.plane==(p:Int)with
 |none=>
  rw[auL]at hf;have:=hf p (by rw[auK]at hp ⊢;omega);simp only[Bool.not_eq_true,Bool.not_eq_false',List.any_eq_true,auq]at this;obtain⟨x,Rp,e⟩:=this;exact absurd e (hx x Rp)
 |some q=>
  have h1:=auI hf;have h2:=auJ hf;rw[auK]at h2;have h3:∀ x∈l,x.plane≠(q:Int):=by
   intro x Rp e;simp only[Bool.not_eq_true',List.any_eq_false,auq]at h1;exact h1 x Rp e
  refine⟨by simp;omega,?_,by simpa using h3⟩;have hq:q<=p:=by
   rw[List.find?_range'_eq_some]at hf;by_cases I2:q<=p
   ·exact I2
   ·rw[auK]at hp;have:=hf.2.2 p (by omega) (by omega);simp only[Bool.not_not,List.any_eq_true,auq]at this;obtain⟨x,Rp,e⟩:=this;exact absurd e (hx x Rp)
  rw[auK]at hp;simp;omega
theorem nt (planes:List ay)(l:List Sn)(p:Nat)(h:p<8):(kL planes l).getD p []=if p=0\/l.any (fun x=>x.plane==(p:Int))=true then planes.getD p []else []:=by
 unfold kL;rw[List.getD,auM,auN h];rfl
theorem Qm {α:Type}{l:List α}{i:Nat}{d:α}(h:i<l.length):l.getD i d∈l:=by
 rw[List.getD,atI h];exact aum _
theorem oZ {planes:List ay}(h8:planes.length=8)(n:Nat):ak (cV planes) n=true↔∃ p,p<8/\ak (planes.getD p []) n=true:=by
 rw[Ql,List.any_eq_true]
 constructor
 ·rintro⟨s,hs,hn⟩;obtain⟨p,hp⟩:=au0 hs;have:=(atX.1 hp).1;exact⟨p,by omega,by rw[List.getD,hp];exact hn⟩
 ·rintro⟨p,hp,hn⟩;exact⟨_,Qm (by omega),hn⟩
theorem t6 {l r:List Sn}{id:Nat}(h:ji l id)(hs:r.Sublist l):ji r id where
 many:=atE hs.length_le h.many
 name x hx:=h.name x (hs.subset hx)
 names:=h.names.sublist (hs.map _)
 plane x hx:=h.plane x (hs.subset hx)
 planes:=h.planes.sublist (hs.map _)
 ids:=h.ids.sublist hs
 idlo x hx:=h.idlo x (hs.subset hx)
 top:=h.top
theorem t7 {l:List Sn}{id:Nat}{more:ay}{t:fR}(h:ji l id)(h7:l.length<7)(hn:aH more=true)(Aq:more.length<=16)(lB:∀ x∈l,x.name≠more)(hid:id<=1099511627776):ji (l++[⟨more,id,aV l,t⟩]) (id+1) where
 many:=by simp;omega
 name x hx:=by
  rcases auP.1 hx with hx|hx
  ·exact h.name x hx
  ·simp at hx;subst hx;exact⟨hn,Aq⟩
 names:=by
  rw[List.map_append,List.nodup_append];refine⟨h.names,by simp,?_⟩;intro a ha b hb;obtain⟨x,hx,rfl⟩:=aui.1 ha;simp at hb;subst hb;exact lB x hx
 plane x hx:=by
  rcases auP.1 hx with hx|hx
  ·exact h.plane x hx
  ·simp at hx;subst hx;have:=dY h7;simp;omega
 planes:=by
  rw[List.map_append,List.nodup_append];refine⟨h.planes,by simp,?_⟩;intro a ha b hb;obtain⟨x,hx,rfl⟩:=aui.1 ha;simp at hb;subst hb;exact(dY h7).2.2 x hx
 ids:=by
  rw[List.pairwise_append];refine⟨h.ids,by simp,?_⟩;intro a ha b hb;simp at hb;subst hb;have:=(h.idlo a ha).2;exact this
 idlo x hx:=by
  rcases auP.1 hx with hx|hx
  ·have:=h.idlo x hx;exact⟨this.1,by have:=this.2;omega⟩
  ·simp at hx;subst hx;have:=h.top;simp;omega
 top:=by have:=h.top;omega
structure mF (v:Vs):Prop where
 many:32<=v.blocks/\v.blocks<=4096
 next:1<=v.b.next/\v.b.next<=v.blocks
 eight:v.b.planes.length=8
 planes:∀ p,p<8->eT (v.b.planes.getD p [])/\∀ n,ak (v.b.planes.getD p []) n=true->1<=n/\n<v.blocks
 list:ji v.b.list v.b.id
 snaps:∀ x∈v.b.list,∃ inos nodes,iz nodes/\lM v.rd inos nodes x.table (fun n=>ak (v.b.planes.getD x.plane.toNat []) n=true)
 here:∃(A B Ss:Nat->Prop) (own xW j6:ay),mu v.rd v.b.inodes v.b.nodes A/\aR v.rd xW v.b.table B/\(ar v.T=v.b.nodes->xW=jT v.b.inodes)/\aR v.rd j6 v.b.snaps Ss/\j6.length<=240/\
  (∀ n,ak (v.b.planes.getD 0 []) n=true↔(A n\/B n)\/Ss n\/ak own n=true)/\
  (∀ n,Ss n\/ak own n=true->¬(A n\/B n)/\∀ p,1<=p->p<8->ak (v.b.planes.getD p []) n=false)/\(∀ n,Ss n->ak own n=false)/\
  (jJ (ak own) v.blocks=aQ v.blocks/\0<j6.length\/bF v (ar v.T)+bL v+1<=dh v)
 nodes:jZ v.b.nodes
 told:iz (ar v.T)
 room:bF v (ar v.T)<=dh v
theorem ma.ready {v:Vs}(h:ma v):mF v:=by
 refine⟨h.many,h.next,h.eight,h.planes,h.list,h.snaps,?_,h.nodes,h.told,h.room⟩;obtain⟨S,Ss,Sm,own,⟨A,B,hA,hB,Ou⟩,h2,h3,h4,h5,h6,h7,h8⟩:=h.here;have IV:∀ y∈v.b.list,y.table.ok=true:=by
  intro y hy;obtain⟨_,_,_,C,D,_,hD,_⟩:=h.snaps y hy;exact hD.may
 have hl:=xj h.list IV;exact⟨A,B,Ss,own,jT v.b.inodes,jU v.b.list,hA,hB,fun _=>rfl,h2,hl.1,fun n=>by rw[h5,Ou],fun n hn=>by have:=h7 n hn;rw[Ou]at this;exact this,h8,.inl ⟨h6,hl.2⟩⟩
structure fG (v:Vs)(list:List Sn)(more:ay):Prop where
 sub:list.Sublist v.b.list
 more:more=[]\/(aH more=true/\more.length<=16/\(∀ x∈list,x.name≠more)/\list.length<7/\v.b.id<=1099511627776)
def Ys (v u:Vs)(x:Sn):Prop:=u.b.planes.getD x.plane.toNat []=v.b.planes.getD x.plane.toNat []/\∀ n:Nat,ak (v.b.planes.getD x.plane.toNat []) n=true->u.rd n=v.rd n
structure JK (v:Vs)(list:List Sn)(more:ay)(u:Vs):Prop where
 run:bB v list more=.ok u
 good:ma u
 blocks:u.blocks=v.blocks
 num:u.num=v.num+1
 T:u.T=v.T
 half:u.half=v.half
 recs:u.recs=[]
 nodes:u.b.nodes=ar v.T
 id:u.b.id=if more=[]then v.b.id else v.b.id+1
 sns:∃ x:Sn,x.name=more/\x.id=v.b.id/\x.table=u.b.table/\(u.b.list=if more=[]then list else list++[x])/\(more≠[]->qH u x (ar v.T))
 trees:∀ x∈list,∀ nodes,qH v x nodes->qH u x nodes
 room:bF u (ar u.T)=bL u+1
 kept:∀ x∈list,Ys v u x
theorem zR {v:Vs}{l:List Nt}(h:l=v.b.nodes)(hn:jZ l):bF v l=bL v+1:=by
 unfold bF;have:(l.map fun x=>da (cF v.b.nodes x.num) x.data).sum=0:=by
  have key:∀ r:List Nt,(∀ x∈r,x∈l)->(r.map fun x=>da (cF v.b.nodes x.num) x.data).sum=0:=by
   intro r
   induction r with
   |nil=>intro _;rfl
   |cons x r ih=>
    intro hr;have hx:=hr x (by simp);rw[atF,atG,ih fun y hy=>hr y (by simp[hy]),<-h,oX hn.nums x hx,kM _ (hn.data x hx)]
  exact key l fun _ h=>h
 rw[this,atP h]
theorem sV {rd:Rd}:∀ {ys:List fF} {xs:List Nt} {S:Nat->Prop} {was:Int},mu rd ys xs S->lP was xs=true->xs.map (fun x=>(⟨x.num,x.dir,x.links,dX ys x.num⟩:fF))=ys
 |[],[],_,_,_,_=>rfl
 |y::ys,x::xs,S,was,⟨h1,A,B,h2,h3,h4⟩,hn=>by
  simp only[lP,at2,aua]at hn;have ih:=sV h3 hn.2;have Nq:ys.filter (fun z=>z.num==x.num)=[]:=by
   rw[List.filter_eq_nil_iff];intro z hz;have:z.num∈xs.map (·.num):=by rw[<-h3.nums];exact aui.2 ⟨z,hz,rfl⟩
   obtain⟨w,hw,e⟩:=aui.1 this;have:=i7 hn.2 w hw;simp;omega
  rw[atF]
  congr 1
  ·have:dX (y::ys) x.num=y.blob:=by
    unfold dX;rw[auY,atP (by simp[h1.1]),Nq];rfl
   rw[this];obtain⟨e1,e2,e3⟩:=h1
   cases y
   simp only at e1 e2 e3;subst e1 e2 e3;rfl
  ·refine Eq.trans ?_ ih;apply aud;intro z hz;have ol:=i7 hn.2 z hz;have:dX (y::ys) z.num=dX ys z.num:=by
    unfold dX;have hy:=h1.1;rw[auY,atR (by simp;omega)]
   rw[this]
 |[],_::_,_,_,h,_=>h.elim
 |_::_,[],_,_,h,_=>h.elim
theorem mG {n:Nat}(h:n<=240):aQ n<=1:=by
 unfold aQ;rcases aK n with⟨_,e⟩|⟨_,_,e⟩|⟨_,_,e⟩|⟨_,e⟩<;>rw[e]<;>simp<;>omega
theorem zS {s:ay}(h:s.length<=240):aN s 0=s:=by
 unfold aN;rw[Nat.zero_mul,auC,aux h]
theorem LZ {t:gA}{bg data:ay}{b b':fR}{t':gA}{S S':Nat->Prop}(ht:cE t.pool)(h:aR t.rd bg b S)(hd:data.length<=240)(h0:0<data.length)(hh:bg.length<=240)(dZ:bg≠data)(hl:0<t.pool.left)
  (e:dE t b data=.ok (b',t')) (h':aR t'.rd data b' S') (n:Nat) (hn:S' n):ak t.pool.used n=false:=by
 obtain⟨hs,was,rfl,hw,_⟩:=h;obtain⟨o,e1,e2,_⟩:=kJ hw hs true;have ib:au data.length=[1]:=by
  rcases aK data.length with⟨_,e⟩|⟨_,_,e⟩|⟨_,_,e⟩|⟨_,e⟩
  ·omega
  ·exact e
  all_goals omega
 obtain⟨m,p',et,m1,m2,m3,_⟩:=uM ht hl;have est:fS bg data was 0=none:=by
  unfold fS;rw[zS hd,zS hh,atR (Ne.symm dZ)]
 have eN:ku bg data was t=.ok ([[(m:Int)]],⟨lW t.rd m (aN data 0),p'⟩):=by
  unfold ku;rw[ib];simp only[ij,est,et];rfl
 unfold dE at e;rw[atR (by omega),e1]at e;simp only[↓reduceIte]at e;rw[e2,eN]at e;have e3:b'=dp data [[(m:Int)]]:=by
  injection e with e;injection e with e _;exact e.symm
 obtain⟨_,nums,eb,cJ,hS'⟩:=h';have r1:=pE cJ h0 (by omega);have xX:nums.length=1:=by
  have:=cJ.shape;rw[ib]at this;have:=auZ List.length this;simpa using this
 have hr:iF nums=m:=by
  rw[e3]at eb;unfold dp at eb;rw[atR (by omega),atR (by omega)]at eb;injection eb with eb _;have:iF [[(m:Int)]]=m:=rfl;omega
 have:nums=[[(m:Int)]]:=by
  obtain⟨L,rfl⟩:=List.length_eq_one_iff.1 xX;have:=r1.2.1;simp at this;rw[this,hr]
 have Aq:=(hS' n).1 hn;rw[this]at Aq;have:n=m:=by simp at Aq;omega
 subst this;exact m3
theorem lM.iff {rd:Rd}{inos:List fF}{nodes:List Nt}{t:fR}{S S':Nat->Prop}(h:lM rd inos nodes t S)(hS:∀ n,S' n↔S n):lM rd inos nodes t S':=by
 obtain⟨A,B,h1,h2,h3⟩:=h;exact⟨A,B,h1,h2,fun n=>(hS n).trans (h3 n)⟩
end Go.Proofs.YtkghpdcloaiflaaGreatDoor
