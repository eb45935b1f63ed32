import Derived.Test.YtkghpdcloaiflaaGreatDoorB27
namespace Go.Proofs.YtkghpdcloaiflaaGreatDoor
open _root_.Go.Proofs.Tryz
theorem xp (was:List fH)(bg:Int->ay)(U:Pl)(mW:Nat->Prop)(hSu:∀ n,mW n->am U.used n=true/\n<U.blocks):∀(r:List Nt) (set:ay) (t:gC),cF t.pool->t.pool.blocks=U.blocks->(∀ n,am U.used n=true->am t.pool.used n=true)->
  (∀ x∈r,x.data.length<=16384/\∃ A,aS t.rd (bg x.num) (dZ was x.num) A/\∀ n,A n->mW n)->((r.map fun x=>db (bg x.num) x.data).sum<=t.pool.left)->fT set->
  ∃ inos RX t' S,mw was r set t=.ok (inos,RX,t')/\my t'.rd inos r S/\dj t t' (r.map fun x=>db (bg x.num) x.data).sum/\jc t'.pool S/\(∀ n,S n->mW n\/am U.used n=false)/\fT RX/\(∀ n,am RX n=true↔am set n=true\/S n)/\
   ((∀ x∈r,bg x.num=x.data)->inos=r.map (fun x=>⟨x.num,x.dir,x.links,dZ was x.num⟩)/\t'=t)
 |[],set,t,ht,I6,hut,hr,hc,hls=>⟨[],set,t,fun _=>False,rfl,fun _ h=>h,dj.refl ht,fun _ h=>h.elim,fun _ h=>h.elim,hls,fun n=>by simp,fun _=>⟨rfl,rfl⟩⟩
 |x::r,set,t,ht,I6,hut,hr,hc,hls=>by
  rw[auY,auZ]at hc;obtain⟨hx,A,hA,hAs⟩:=hr x (by simp);have hAp:jc t.pool A:=fun n hn=>⟨hut n (hSu n (hAs n hn)).1,by rw[I6];exact(hSu n (hAs n hn)).2⟩
  obtain⟨b,t1,S1,e1,h1,g1,p1,q1,k1⟩:=eH ht hA hAp hx (by omega);obtain⟨s,e2,ls,h2⟩:=h1.reached set;obtain⟨inos,RX,t',S,e3,h3,g3,p3,q3,Kq,h4,k3⟩:=xp was bg U mW hSu r s t1 g1.ok (g1.blocks.trans I6) (fun n hn=>g1.used n (hut n hn)) (fun y hy=>by
   obtain⟨hy1,B,hB,hBs⟩:=hr y (by simp[hy]);refine⟨hy1,B,hB.turn fun n hn=>?_,hBs⟩;exact g1.keepRd (hut n (hSu n (hBs n hn)).1)) (by have:=g1.left;omega) ls
  refine⟨⟨x.num,x.dir,x.links,b⟩::inos,RX,t',fun n=>S1 n\/S n,?_,⟨⟨rfl,rfl,rfl⟩,S1,S,h1.turn fun n hn=>g3.same p1 n hn,h3,fun n=>Iff.rfl⟩,?_,?_,?_,Kq,?_,?_⟩
  ·rw[mw,e1];simp only;rw[e2];simp only;rw[e3];rfl
  ·rw[auY,auZ];exact g1.trans g3
  ·intro n hn;rcases hn with hn|hn
   ·exact p1.grow g3 n hn
   ·exact p3 n hn
  ·intro n hn;rcases hn with hn|hn
   ·rcases q1 n hn with h|h
    ·exact .inl (hAs n h)
    ·right
     cases hu:am U.used n with
     |false=>rfl
     |true=>rw[hut n hu]at h;cases h
   ·exact q3 n hn
  ·intro n;rw[h4,h2,or_assoc]
  ·intro nR;obtain⟨kb,kt,_⟩:=k1 (nR x (by simp));obtain⟨ki,kt'⟩:=k3 (fun y hy=>nR y (by simp[hy]));exact⟨by rw[auY,ki,kb],by rw[kt',kt]⟩
def jT (p:Nat->Bool)(blocks:Nat):Nat:=((List.range' 1 (blocks-1)).filter p).length
theorem QD {a b c d:Nat->Bool}{blocks:Nat}(h:∀ n,1<=n->n<blocks->(if a n=true then 1 else 0)+(if b n=true then 1 else 0)+(if c n=true then 1 else 0)<=(if d n=true then 1 else 0)):jT a blocks+jT b blocks+jT c blocks<=jT d blocks:=by
 unfold jT;have key:∀ l:List Nat,(∀ n∈l,1<=n/\n<blocks)->(l.filter a).length+(l.filter b).length+(l.filter c).length<=(l.filter d).length:=by
  intro l
  induction l with
  |nil=>intro _;simp
  |cons n l ih=>
   intro hl;have h1:=ih fun m hm=>hl m (by simp[hm]);have h2:=h n (hl n (by simp)).1 (hl n (by simp)).2;simp only[awd]
   cases ha:a n<;>cases hb:b n<;>cases hc:c n<;>cases hd:d n<;>simp only[ha,hb,hc,hd,if_true,Bool.false_eq_true,if_false,au0]at h2 ⊢<;>omega
 exact key _ fun n hn=>by rw[avZ]at hn;omega
theorem QE {p:Nat->Bool}{blocks n:Nat}(h1:1<=n)(h2:n<blocks)(h:p n=true):1<=jT p blocks:=by
 unfold jT;exact List.length_pos_of_mem (a:=n) (by rw[auW,avZ];exact⟨by omega,h⟩)
theorem Ip (p q:Nat->Bool)(blocks:Nat):jT p blocks=jT (fun n=>p n&&q n) blocks+jT (fun n=>p n&&!q n) blocks:=by
 unfold jT
 induction List.range' 1 (blocks-1)with
 |nil=>rfl
 |cons n l ih=>
  simp only[awd]
  cases p n<;>cases q n<;>simp<;>omega
theorem jd {p q:Nat->Bool}{blocks:Nat}(h:∀ n,1<=n->n<blocks->p n=q n):jT p blocks=jT q blocks:=by
 unfold jT;rw[List.filter_congr];intro n hn;rw[avZ]at hn;exact h n (by omega) (by omega)
theorem mJ (used:ay)(blocks:Nat):kT used blocks=jT (fun n=>!am used n) blocks:=rfl
theorem Ei {t t':gC}{k:Nat}(g:dj t t' k)(ht:cF t.pool):jT (fun n=>am t'.pool.used n&&!am t.pool.used n) t.pool.blocks=k:=by
 have h1:=ht.left;have h2:=g.ok.left;have h3:=g.left;rw[mJ]at h1 h2;rw[g.blocks]at h2;have h4:=Ip (fun n=>!am t.pool.used n) (fun n=>am t'.pool.used n) t.pool.blocks;have e1:jT (fun n=>!am t.pool.used n&&am t'.pool.used n) t.pool.blocks=jT (fun n=>am t'.pool.used n&&!am t.pool.used n) t.pool.blocks:=jd fun n _ _=>Bool.and_comm _ _;have e2:jT (fun n=>!am t.pool.used n&&!am t'.pool.used n) t.pool.blocks=jT (fun n=>!am t'.pool.used n) t.pool.blocks:=jd fun n _ _=>by
  have:=g.used n
  cases ha:am t.pool.used n<;>cases hb:am t'.pool.used n<;>simp_all
 omega
theorem xr (rd:Rd):∀(k:Nat) (p:Pl),cF p->k<=p.left->∃ q,oX k p=.ok q/\dj ⟨rd,p⟩ ⟨rd,q⟩ k
 |0,p,h,_=>⟨p,rfl,dj.refl h⟩
 |k+1,p,h,hl=>by
  obtain⟨n,p',e,h1,h2,h3,h4,h5,h6,h7,h8⟩:=uU h (by omega);obtain⟨q,e2,g⟩:=xr rd k p' h4 (by omega);refine⟨q,by rw[oX,e];exact e2,?_⟩;have g1:dj ⟨rd,p⟩ ⟨rd,p'⟩ 1:=by
   refine⟨h4,fun k hk=>by show am p'.used k=true;rw[h7];simp[show am p.used k=true from hk],fun k=>?_,h6,h5,fun _ _=>rfl,fun k hk dd=>?_⟩
   ·show am p'.taken k=(am p.taken k||(am p'.used k&&!am p.used k));rw[h8,h7];by_cases hk:k=n
    ·subst hk;simp[h3]
    ·have:(k==n)=false:=by simp[hk]
     rw[this];cases am p.used k<;>simp
   ·have FP:am p'.used k=true:=hk;rw[h7]at FP;have dg:am p.used k=false:=dd;rw[dg]at FP;have:k=n:=by simpa using FP
    subst this;exact⟨h1,h2⟩
  have:=g1.trans g
  rwa [Nat.add_comm]at this
theorem rV {used:ay}{blocks next:Nat}(h1:1<=next)(h2:next<=blocks)(h3:blocks<=4096):cF (gp used blocks next):=⟨h1,h2,h3,rfl⟩
theorem QF (planes:List ay)(n:Nat):am (cX planes) n=planes.any fun s=>am s n:=by
 unfold cX;have:∀(l:List ay) (a:ay),am (l.foldl eC a) n=(am a n||l.any fun s=>am s n):=by
  intro l
  induction l with
  |nil=>intro a;simp
  |cons s l ih=>intro a;rw[List.foldl_cons,ih,jJ,List.any_cons,Bool.or_assoc]
 rw[this];rfl
theorem pa (planes:List ay)(blocks:Nat):(gY planes blocks).length=blocks:=by simp[gY]
def lR (was:Int):List Nt->Bool
 |[]=>true
 |x::r=>decide (was<x.num)&&decide (x.num<=65535)&&lR x.num r
structure kc (l:List Nt):Prop where
 many:l.length<=60
 nums:lR 0 l=true
 links:∀ x∈l,1<=x.links/\x.links<=3600
 data:∀ x∈l,x.data.length<=16384
structure iE (l:List Nt):Prop extends kc l where
 made:∃ T d,WF T d/\ar T=l
structure jp (l:List Sn)(id:Nat):Prop where
 many:l.length<=7
 name:∀ x∈l,aK x.name=true/\x.name.length<=16
 names:(l.map (·.name)).Nodup
 plane:∀ x∈l,1<=x.plane/\x.plane<=7
 planes:(l.map (·.plane)).Nodup
 ids:l.Pairwise fun a b=>a.id<b.id
 idlo:∀ x∈l,1<=x.id/\x.id<id
 top:1<=id/\id<=1099511627777
theorem je {l:List Nt}:∀ {was:Int},lR was l=true->∀ x∈l,was<x.num/\x.num<=65535:=by
 induction l with
 |nil=>intro _ _ x hx;simp at hx
 |cons y l ih=>
  intro was h x hx;simp only[lR,avj,avo]at h;rcases avn.1 hx with rfl|hx
  ·exact h.1
  ·have:=ih h.2 x hx;omega
theorem pf {l:List Nt}:∀ {was:Int},lR was l=true->∀ x∈l,cG l x.num=x.data:=by
 induction l with
 |nil=>intro _ _ x hx;simp at hx
 |cons y l ih=>
  intro was h x hx;simp only[lR,avj,avo]at h;rcases avn.1 hx with rfl|hx
  ·have:l.filter (fun z=>z.num==x.num)=[]:=by
    rw[List.filter_eq_nil_iff];intro z hz;have:=je h.2 z hz;simp;omega
   unfold cG;rw[awd,au8 (by simp),this];rfl
  ·have h1:=ih h.2 x hx;have:=je h.2 x hx;unfold cG at h1 ⊢;rw[awd,ava (by simp;omega)];exact h1
theorem W9 {α:Type _}{l:List α}{f:α->Nat}{k:Nat}(h:∀ x∈l,f x<=k):(l.map f).sum<=k*l.length:=by
 induction l with
 |nil=>simp
 |cons a l ih=>
  have h1:=ih fun x hx=>h x (by simp[hx]);have h2:=h a (by simp);simp only[auY,auZ,au0,Nat.mul_succ];omega
theorem pg {b:fU}(h:0<=b.root/\b.root<4096/\0<=b.size/\b.size<=16384):(yI b).length<=5:=by
 have h1:=ez 1 b.root.toNat (by omega);have h2:=ez 2 b.size.toNat (by omega);unfold yI;simp;omega
theorem xt {rd:Rd}:∀ {inos:List fH} {nodes:List Nt} {S:Nat->Prop} {was:Int},my rd inos nodes S->lR was nodes=true->(∀ x∈nodes,1<=x.links/\x.links<=3600)->(inos.flatMap oc).length<=11*nodes.length
 |[],[],_,_,_,_,_=>by simp
 |y::ys,x::xs,S,was,⟨h1,A,B,h2,h3,h4⟩,hn,hl=>by
  simp only[lR,avj,avo]at hn;have ih:=xt h3 hn.2 fun z hz=>hl z (by simp[hz]);have hx:=hl x (by simp);have e1:=ez 2 y.num.toNat (by rw[h1.1];omega);have e2:=ez 0 (if y.dir=true then 1 else 0) (by split<;>omega);have e3:=ez 1 y.links.toNat (by rw[h1.2.2];omega);have e4:=pg h2.small;rw[avH,avi,au0];have:(oc y).length<=11:=by unfold oc;simp only[avi];omega
  omega
 |[],_::_,_,_,h,_,_=>h.elim
 |_::_,[],_,_,h,_,_=>h.elim
theorem Ej {rd:Rd}{inos:List fH}{nodes:List Nt}{S:Nat->Prop}(h:my rd inos nodes S)(hn:kc nodes):(j7 inos).length<=2+12*nodes.length/\(j7 inos).length<=722:=by
 have h1:=xt h hn.nums hn.links;have h2:=h.len;have h3:=hn.many;have h4:=ez 0 inos.length (by omega);unfold j7;rw[avi];omega
theorem xu {l:List Sn}{id:Nat}(h:jp l id)(ht:∀ x∈l,x.table.ok=true):(j8 l).length<=240/\0<(j8 l).length:=by
 have h1:=ez 0 l.length (by have:=h.many;omega);have h2:(l.flatMap oW).length<=29*l.length:=by
  rw[List.length_flatMap];apply W9;intro x hx;have a1:=ez 0 x.name.length (by have:=(h.name x hx).2;omega);have a2:=(h.name x hx).2;have a3:=ez 5 x.id.toNat (by have:=h.idlo x hx;have:=h.top;omega);have a4:=ez 0 x.plane.toNat (by have:=h.plane x hx;omega);have hb:=ht x hx;unfold fU.ok fU.may at hb;simp only[avj,avo]at hb;have a5:=pg (b:=x.table) ⟨hb.1.2,hb.2,hb.1.1.1.1,hb.1.1.1.2⟩;unfold oW;simp only[avi];omega
 have h3:0<(aG l.length).length:=by
  rw[aG];split<;>simp
 have:=h.many;unfold j8;rw[avi];omega
structure mL (v:Vs):Prop where
 many:32<=v.blocks/\v.blocks<=4096
 next:1<=v.b.next/\v.b.next<=v.blocks
 eight:v.b.planes.length=8
 planes:∀ p,p<8->fT (v.b.planes.getD p [])/\∀ n,am (v.b.planes.getD p []) n=true->1<=n/\n<v.blocks
 list:jp v.b.list v.b.id
 clear:∀ p:Nat,1<=p->p<8->(∀ x∈v.b.list,x.plane≠(p:Int))->v.b.planes.getD p []=[]
 snaps:∀ x∈v.b.list,∃ inos nodes,iE nodes/\lM v.rd inos nodes x.table (fun n=>am (v.b.planes.getD x.plane.toNat []) n=true)
 here:∃(S Ss Sm:Nat->Prop) (own:ay),lM v.rd v.b.inodes v.b.nodes v.b.table S/\aS v.rd (j8 v.b.list) v.b.snaps Ss/\aS v.rd (gY v.b.planes v.blocks) v.b.mapped Sm/\(∀ n,Sm n->am own n=true)/\
  (∀ n,am (v.b.planes.getD 0 []) n=true↔S n\/Ss n\/am own n=true)/\jT (am own) v.blocks=aR v.blocks/\
  (∀ n,Ss n\/am own n=true->¬ S n/\∀ p,1<=p->p<8->am (v.b.planes.getD p []) n=false)/\(∀ n,Ss n->am own n=false)
 nodes:kc v.b.nodes
 told:iE (ar v.T)
 room:bH v (ar v.T)<=dm v
def qV (v:Vs)(x:Sn)(nodes:List Nt):Prop:=iE nodes/\∃ inos,lM v.rd inos nodes x.table (fun n=>am (v.b.planes.getD x.plane.toNat []) n=true)
theorem d5 {l:List Sn}(h:l.length<7):1<=aW l/\aW l<=7/\∀ x∈l,x.plane≠(aW l:Int):=by
 have key:∃ p,p∈List.range' 1 7/\∀ x∈l,x.plane≠((p:Nat):Int):=by
  apply avV;intro lD;have:∀ p∈(List.range' 1 7).map (fun p:Nat=>(p:Int)),p∈l.map (·.plane):=by
   intro p hp;obtain⟨q,hq,rfl⟩:=avx.1 hp;apply avV;intro hn;exact lD ⟨q,hq,fun x hx e=>hn (avx.2 ⟨x,hx,e⟩)⟩
  have:=pH (by decide) this;simp at this;omega
 obtain⟨p,hp,hx⟩:=key;unfold aW
 cases hf:(List.range' 1 8).find? fun(p:Nat)=>!l.any fun x=>x.plane==(p:Int)with
 |none=>
  rw[av0]at hf;have:=hf p (by rw[avZ]at hp ⊢;omega);simp only[Bool.not_eq_true,Bool.not_eq_false',List.any_eq_true,avF]at this;obtain⟨x,Ti,e⟩:=this;exact absurd e (hx x Ti)
 |some q=>
  have h1:=avX hf;have h2:=avY hf;rw[avZ]at h2;have h3:∀ x∈l,x.plane≠(q:Int):=by
   intro x Ti e;simp only[Bool.not_eq_true',List.any_eq_false,avF]at h1;exact h1 x Ti e
  refine⟨by simp;omega,?_,by simpa using h3⟩;have hq:q<=p:=by
   rw[List.find?_range'_eq_some]at hf;by_cases Cx:q<=p
   ·exact Cx
   ·rw[avZ]at hp;have:=hf.2.2 p (by omega) (by omega);simp only[Bool.not_not,List.any_eq_true,avF]at this;obtain⟨x,Ti,e⟩:=this;exact absurd e (hx x Ti)
  rw[avZ]at hp;simp;omega
theorem nJ (planes:List ay)(l:List Sn)(p:Nat)(h:p<8):(kU planes l).getD p []=if p=0\/l.any (fun x=>x.plane==(p:Int))=true then planes.getD p []else []:=by
 unfold kU;rw[List.getD,av1,av2 h];rfl
theorem QG {α:Type}{l:List α}{i:Nat}{d:α}(h:i<l.length):l.getD i d∈l:=by
 rw[List.getD,au1 h];exact avB _
theorem ph {planes:List ay}(h8:planes.length=8)(n:Nat):am (cX planes) n=true↔∃ p,p<8/\am (planes.getD p []) n=true:=by
 rw[QF,List.any_eq_true]
 constructor
 ·rintro⟨s,hs,hn⟩;obtain⟨p,hp⟩:=awf hs;have:=(avf.1 hp).1;exact⟨p,by omega,by rw[List.getD,hp];exact hn⟩
 ·rintro⟨p,hp,hn⟩;exact⟨_,QG (by omega),hn⟩
theorem uh {l r:List Sn}{id:Nat}(h:jp l id)(hs:r.Sublist l):jp r id where
 many:=auX hs.length_le h.many
 name x hx:=h.name x (hs.subset hx)
 names:=h.names.sublist (hs.map _)
 plane x hx:=h.plane x (hs.subset hx)
 planes:=h.planes.sublist (hs.map _)
 ids:=h.ids.sublist hs
 idlo x hx:=h.idlo x (hs.subset hx)
 top:=h.top
theorem ui {l:List Sn}{id:Nat}{more:ay}{t:fU}(h:jp l id)(h7:l.length<7)(hn:aK more=true)(AD:more.length<=16)(lD:∀ x∈l,x.name≠more)(hid:id<=1099511627776):jp (l++[⟨more,id,aW l,t⟩]) (id+1) where
 many:=by simp;omega
 name x hx:=by
  rcases av4.1 hx with hx|hx
  ·exact h.name x hx
  ·simp at hx;subst hx;exact⟨hn,AD⟩
 names:=by
  rw[List.map_append,List.nodup_append];refine⟨h.names,by simp,?_⟩;intro a ha b hb;obtain⟨x,hx,rfl⟩:=avx.1 ha;simp at hb;subst hb;exact lD x hx
 plane x hx:=by
  rcases av4.1 hx with hx|hx
  ·exact h.plane x hx
  ·simp at hx;subst hx;have:=d5 h7;simp;omega
 planes:=by
  rw[List.map_append,List.nodup_append];refine⟨h.planes,by simp,?_⟩;intro a ha b hb;obtain⟨x,hx,rfl⟩:=avx.1 ha;simp at hb;subst hb;exact(d5 h7).2.2 x hx
 ids:=by
  rw[List.pairwise_append];refine⟨h.ids,by simp,?_⟩;intro a ha b hb;simp at hb;subst hb;have:=(h.idlo a ha).2;exact this
 idlo x hx:=by
  rcases av4.1 hx with hx|hx
  ·have:=h.idlo x hx;exact⟨this.1,by have:=this.2;omega⟩
  ·simp at hx;subst hx;have:=h.top;simp;omega
 top:=by have:=h.top;omega
structure mM (v:Vs):Prop where
 many:32<=v.blocks/\v.blocks<=4096
 next:1<=v.b.next/\v.b.next<=v.blocks
 eight:v.b.planes.length=8
 planes:∀ p,p<8->fT (v.b.planes.getD p [])/\∀ n,am (v.b.planes.getD p []) n=true->1<=n/\n<v.blocks
 list:jp v.b.list v.b.id
 snaps:∀ x∈v.b.list,∃ inos nodes,iE nodes/\lM v.rd inos nodes x.table (fun n=>am (v.b.planes.getD x.plane.toNat []) n=true)
 here:∃(A B Ss:Nat->Prop) (own yf kh:ay),my v.rd v.b.inodes v.b.nodes A/\aS v.rd yf v.b.table B/\(ar v.T=v.b.nodes->yf=j7 v.b.inodes)/\aS v.rd kh v.b.snaps Ss/\kh.length<=240/\
  (∀ n,am (v.b.planes.getD 0 []) n=true↔(A n\/B n)\/Ss n\/am own n=true)/\
  (∀ n,Ss n\/am own n=true->¬(A n\/B n)/\∀ p,1<=p->p<8->am (v.b.planes.getD p []) n=false)/\(∀ n,Ss n->am own n=false)/\
  (jT (am own) v.blocks=aR v.blocks/\0<kh.length\/bH v (ar v.T)+bM v+1<=dm v)
 nodes:kc v.b.nodes
 told:iE (ar v.T)
 room:bH v (ar v.T)<=dm v
theorem mL.ready {v:Vs}(h:mL v):mM v:=by
 refine⟨h.many,h.next,h.eight,h.planes,h.list,h.snaps,?_,h.nodes,h.told,h.room⟩;obtain⟨S,Ss,Sm,own,⟨A,B,hA,hB,OE⟩,h2,h3,h4,h5,h6,h7,h8⟩:=h.here;have Jd:∀ y∈v.b.list,y.table.ok=true:=by
  intro y hy;obtain⟨_,_,_,C,D,_,hD,_⟩:=h.snaps y hy;exact hD.may
 have hl:=xu h.list Jd;exact⟨A,B,Ss,own,j7 v.b.inodes,j8 v.b.list,hA,hB,fun _=>rfl,h2,hl.1,fun n=>by rw[h5,OE],fun n hn=>by have:=h7 n hn;rw[OE]at this;exact this,h8,.inl ⟨h6,hl.2⟩⟩
structure fI (v:Vs)(list:List Sn)(more:ay):Prop where
 sub:list.Sublist v.b.list
 more:more=[]\/(aK more=true/\more.length<=16/\(∀ x∈list,x.name≠more)/\list.length<7/\v.b.id<=1099511627776)
def Zb (v u:Vs)(x:Sn):Prop:=u.b.planes.getD x.plane.toNat []=v.b.planes.getD x.plane.toNat []/\∀ n:Nat,am (v.b.planes.getD x.plane.toNat []) n=true->u.rd n=v.rd n
structure J9 (v:Vs)(list:List Sn)(more:ay)(u:Vs):Prop where
 run:bD v list more=.ok u
 good:mL u
 blocks:u.blocks=v.blocks
 num:u.num=v.num+1
 T:u.T=v.T
 half:u.half=v.half
 recs:u.recs=[]
 nodes:u.b.nodes=ar v.T
 id:u.b.id=if more=[]then v.b.id else v.b.id+1
 sns:∃ x:Sn,x.name=more/\x.id=v.b.id/\x.table=u.b.table/\(u.b.list=if more=[]then list else list++[x])/\(more≠[]->qV u x (ar v.T))
 trees:∀ x∈list,∀ nodes,qV v x nodes->qV u x nodes
 room:bH u (ar u.T)=bM u+1
 kept:∀ x∈list,Zb v u x
theorem Ag {v:Vs}{l:List Nt}(h:l=v.b.nodes)(hn:kc l):bH v l=bM v+1:=by
 unfold bH;have:(l.map fun x=>db (cG v.b.nodes x.num) x.data).sum=0:=by
  have key:∀ r:List Nt,(∀ x∈r,x∈l)->(r.map fun x=>db (cG v.b.nodes x.num) x.data).sum=0:=by
   intro r
   induction r with
   |nil=>intro _;rfl
   |cons x r ih=>
    intro hr;have hx:=hr x (by simp);rw[auY,auZ,ih fun y hy=>hr y (by simp[hy]),<-h,pf hn.nums x hx,kV _ (hn.data x hx)]
  exact key l fun _ h=>h
 rw[this,au8 h]
theorem ti {rd:Rd}:∀ {ys:List fH} {xs:List Nt} {S:Nat->Prop} {was:Int},my rd ys xs S->lR was xs=true->xs.map (fun x=>(⟨x.num,x.dir,x.links,dZ ys x.num⟩:fH))=ys
 |[],[],_,_,_,_=>rfl
 |y::ys,x::xs,S,was,⟨h1,A,B,h2,h3,h4⟩,hn=>by
  simp only[lR,avj,avo]at hn;have ih:=ti h3 hn.2;have aa9:ys.filter (fun z=>z.num==x.num)=[]:=by
   rw[List.filter_eq_nil_iff];intro z hz;have:z.num∈xs.map (·.num):=by rw[<-h3.nums];exact avx.2 ⟨z,hz,rfl⟩
   obtain⟨w,hw,e⟩:=avx.1 this;have:=je hn.2 w hw;simp;omega
  rw[auY]
  congr 1
  ·have:dZ (y::ys) x.num=y.blob:=by
    unfold dZ;rw[awd,au8 (by simp[h1.1]),aa9];rfl
   rw[this];obtain⟨e1,e2,e3⟩:=h1
   cases y
   simp only at e1 e2 e3;subst e1 e2 e3;rfl
  ·refine Eq.trans ?_ ih;apply avs;intro z hz;have oA:=je hn.2 z hz;have:dZ (y::ys) z.num=dZ ys z.num:=by
    unfold dZ;have hy:=h1.1;rw[awd,ava (by simp;omega)]
   rw[this]
 |[],_::_,_,_,h,_=>h.elim
 |_::_,[],_,_,h,_=>h.elim
theorem mN {n:Nat}(h:n<=240):aR n<=1:=by
 unfold aR;rcases aM n with⟨_,e⟩|⟨_,_,e⟩|⟨_,_,e⟩|⟨_,e⟩<;>rw[e]<;>simp<;>omega
theorem Ah {s:ay}(h:s.length<=240):aO s 0=s:=by
 unfold aO;rw[Nat.zero_mul,avR,avM h]
theorem Mq {t:gC}{bg data:ay}{b b':fU}{t':gC}{S S':Nat->Prop}(ht:cF t.pool)(h:aS t.rd bg b S)(hd:data.length<=240)(h0:0<data.length)(hh:bg.length<=240)(dV:bg≠data)(hl:0<t.pool.left)
  (e:dG t b data=.ok (b',t')) (h':aS t'.rd data b' S') (n:Nat) (hn:S' n):am t.pool.used n=false:=by
 obtain⟨hs,was,rfl,hw,_⟩:=h;obtain⟨o,e1,e2,_⟩:=kS hw hs true;have iH:au data.length=[1]:=by
  rcases aM data.length with⟨_,e⟩|⟨_,_,e⟩|⟨_,_,e⟩|⟨_,e⟩
  ·omega
  ·exact e
  all_goals omega
 obtain⟨m,p',et,m1,m2,m3,_⟩:=uU ht hl;have est:fV bg data was 0=none:=by
  unfold fV;rw[Ah hd,Ah hh,ava (Ne.symm dV)]
 have eN:kF bg data was t=.ok ([[(m:Int)]],⟨lZ t.rd m (aO data 0),p'⟩):=by
  unfold kF;rw[iH];simp only[ip,est,et];rfl
 unfold dG at e;rw[ava (by omega),e1]at e;simp only[↓reduceIte]at e;rw[e2,eN]at e;have e3:b'=du data [[(m:Int)]]:=by
  injection e with e;injection e with e _;exact e.symm
 obtain⟨_,nums,eb,bf,hS'⟩:=h';have r1:=pO bf h0 (by omega);have yc:nums.length=1:=by
  have:=bf.shape;rw[iH]at this;have:=awe List.length this;simpa using this
 have hr:iL nums=m:=by
  rw[e3]at eb;unfold du at eb;rw[ava (by omega),ava (by omega)]at eb;injection eb with eb _;have:iL [[(m:Int)]]=m:=rfl;omega
 have:nums=[[(m:Int)]]:=by
  obtain⟨L,rfl⟩:=List.length_eq_one_iff.1 yc;have:=r1.2.1;simp at this;rw[this,hr]
 have AD:=(hS' n).1 hn;rw[this]at AD;have:n=m:=by simp at AD;omega
 subst this;exact m3
theorem lM.iff {rd:Rd}{inos:List fH}{nodes:List Nt}{t:fU}{S S':Nat->Prop}(h:lM rd inos nodes t S)(hS:∀ n,S' n↔S n):lM rd inos nodes t S':=by
 obtain⟨A,B,h1,h2,h3⟩:=h;exact⟨A,B,h1,h2,fun n=>(hS n).trans (h3 n)⟩
end Go.Proofs.YtkghpdcloaiflaaGreatDoor
