import Derived.Test.YtkghpdcloaiflaaGreatDoorH32
namespace Go.Proofs.YtkghpdcloaiflaaGreatDoor
open _root_.Go.Proofs.Tryz
variable {F F':Nat->Prop}{b base eb g n q sz:Nat}{iv lv nv sv v:Value}{w w' w0:World}{xs:List Value}
section
open Go.RowKit
attribute [local go_sem] av0
structure nZ (c:qj)(F:Nat->Prop)(w:World)(g:Nat):Prop where
 lt:g<w.heap.size
 nf:¬ F g
 nn:g≠c.nb
 np:g≠c.pb
 nm:g≠c.pm
theorem nZ.step {c:qj}(h:nZ c F w g)(k:ga c F F' w w'):nZ c F' w' g:=
 ⟨awg h.lt k.mod.size,λhf=>(k.foot g hf).elim h.nf (λh2=>by have:=h.lt;omega),h.nn,h.np,h.nm⟩
theorem nZ.same {c:qj}(h:nZ c F w g)(k:ga c F F' w w'):w'.heap[g]?=w.heap[g]?:=
 k.mod.block g h.lt λhh=>hh.elim h.nf λhh=>hh.elim h.nn λhh=>hh.elim h.np h.nm
theorem nZ.keep {c:qj}(h:nZ c F w g)(k:af w w'):nZ c F w' g:=⟨awg h.lt k.size,h.nf,h.nn,h.np,h.nm⟩
structure du {α:Type}(f:α->List Value)(sz:Nat)(t:TypeId)(c:qj)(F:Nat->Prop)(w:World)(v:Value)(l:List α):Prop where
 own:dX f sz t w 0 v l
 side:∀ g,v.ownBlock=some g->nZ c F w g
theorem du.step {α:Type}{f:α->List Value}{t:TypeId}{c:qj}{l:List α}(h:du f sz t c F w v l)(k:ga c F F' w w'):du f sz t c F' w' v l:=
 ⟨aA h.own λg hg=>(h.side g hg).same k,λg hg=>(h.side g hg).step k⟩
theorem du.keep {α:Type}{f:α->List Value}{t:TypeId}{c:qj}{l:List α}(h:du f sz t c F w v l)(k:af w w'):du f sz t c F w' v l:=
 ⟨gY h.own k,λg hg=>(h.side g hg).keep k⟩
theorem gJ {a:Nat}{x y:Array Value}{s t:TypeId}(h:World.blk w a x s)(k:World.blk w b y t)(eG:s≠t):a≠b:=by
 rintro rfl;unfold World.blk at h k;rw[h]at k
 cases k
 exact eG rfl
theorem jb {s t:TypeId}{c:Array Value}(h:w.ownsRow base s sz v n xs)(hg:v.ownBlock=some g)(k:World.blk w b c t)(eG:s≠t):g≠b:=by
 rcases h.2 with⟨rfl,_⟩|⟨g',cap,dW,rfl,hb,hk,_⟩
 ·cases hg
 ·have e:g'=g:=by simpa[Value.ownBlock]using hg
  subst e;exact gJ (x:=dW) hk k eG
theorem pL {t:TypeId}(h:w.ownsRow base t sz v n xs):w.ownsRow 0 t sz v n xs:=by
 obtain⟨h1,h2⟩:=h;exact⟨h1,h2.imp id (λ⟨g,cap,dW,e,_,r⟩=>⟨g,cap,dW,e,awP _,r⟩)⟩
def iI (id:Nat):iX:=⟨⟨0,0⟩,⟨0,0⟩,⟨0,0⟩,0,id,[],[],[],[]⟩
def fQ (L:List ay)(l:List Sn)(q:Nat):List ay:=(List.range 8).map λ(p:Nat)=>if p=0\/q<=p\/l.any (λx=>x.plane==(p:Int))=true then L.getD p []else []
theorem EP {L:List ay}(h:L.length=8)(l:List Sn):fQ L l 1=L:=by
 apply List.ext_getElem?;intro i;unfold fQ;rw[aw5];by_cases hi:i<8
 ·rw[aw6 hi,aw7,awd J,axm,av6 J];rfl
 ·rw[awY (by simp;omega),awY J];rfl
theorem ER (L:List ay)(l:List Sn):fQ L l 8=kG L l:=by
 unfold fQ kG;apply aww;intro p hp;rw[aw0]at hp
 congr 1
 apply propext
 constructor
 ·rintro(h|h|h)
  ·exact .inl h
  ·omega
  ·exact .inr h
 ·rintro(h|h)
  ·exact .inl h
  ·exact .inr (.inr h)
theorem Bz (L:List ay){l:List Sn}(h:l.any (λx=>x.plane==(q:Int))=true):fQ L l (q+1)=fQ L l q:=by
 unfold fQ;apply aww;intro p _;by_cases e:p=q
 ·subst e;rw[awd (.inr (.inr h)),awd (.inr (.inr h))]
 ·congr 1
  apply propext
  constructor
  ·rintro(h|h|h)
   ·exact .inl h
   ·exact .inr (.inl J)
   ·exact .inr (.inr h)
  ·rintro(h|h|h)
   ·exact .inl h
   ·exact .inr (.inl J)
   ·exact .inr (.inr h)
theorem BA (L:List ay){l:List Sn}(h1:1<=q)(h8:q<8)(h:l.any (λx=>x.plane==(q:Int))=false):fQ L l (q+1)=(fQ L l q).set q []:=by
 apply List.ext_getElem?;intro i;rw[List.getElem?_set];unfold fQ;rw[aw5,aw5,awz,List.length_range];by_cases hi:i<8
 ·rw[aw6 hi,aw7,aw7];by_cases e:q=i
  ·subst e;rw[awd rfl,awd h8,awf];rintro(h2|h2|h2)
   ·omega
   ·omega
   ·rw[h]at h2;cases h2
  ·rw[awf e]
   congr 1
   congr 1
   apply propext
   constructor
   ·rintro(h|h|h)
    ·exact .inl h
    ·exact .inr (.inl J)
    ·exact .inr (.inr h)
   ·rintro(h|h|h)
    ·exact .inl h
    ·exact .inr (.inl J)
    ·exact .inr (.inr h)
 ·have e0:(List.range 8)[i]?=none:=awY (by simp;omega);rw[e0,awf J];rfl
structure dH (a:eX)(w0:World)(c:qj)(eb:Nat)(lv:Value)(list:List Sn)(nodes:List Nt)(rd:Rd)(pool:Pl)(b:iX)(iv sv nv:Value)(inos:List fD)(l2:List Sn)(L:List ay)(F:Nat->Prop)(w:World):Prop where
 st:eO c rd pool b iv sv nv L F w
 tw:ga c a.Fv F w0 w
 se:nZ c F w eb
 eb:World.blk w eb #[.int .i64 0] 22
 sn:du gt 4 221 c F w nv nodes
 si:du jA 5 128 c F w iv inos
 ss:du uj 5 85 c F w sv l2
 sl:du uj 5 85 c F w lv list
 sf:∀ g,sv.ownBlock=some g->w0.heap.size<=g
 lf:∀ g,lv.ownBlock=some g->g<w0.heap.size
section
variable {a:eX}{w0 w w':World}{c:qj}{eb:Nat}{lv:Value}{list:List Sn}{nodes:List Nt}{rd KR:Rd}{pool YP:Pl}{b b':iX}{iv sv nv:Value}{inos:List fD}{l2:List Sn}{L L':List ay}{F F':Nat->Prop}
theorem dH.step (h:dH a w0 c eb lv list nodes rd pool b iv sv nv inos l2 L F w)(s:eO c KR YP b' iv sv nv L' F' w')(k:ga c F F' w w'):dH a w0 c eb lv list nodes KR YP b' iv sv nv inos l2 L' F' w':=
 ⟨s,h.tw.trans k,h.se.step k,(h.se.same k).trans h.eb,h.sn.step k,h.si.step k,h.ss.step k,h.sl.step k,h.sf,h.lf⟩
theorem dH.keep (h:dH a w0 c eb lv list nodes rd pool b iv sv nv inos l2 L F w)(k:af w w'):dH a w0 c eb lv list nodes rd pool b iv sv nv inos l2 L F w':=
 ⟨h.st.keep k,h.tw.keep k,h.se.keep k,ab k h.eb id,h.sn.keep k,h.si.keep k,h.ss.keep k,h.sl.keep k,h.sf,h.lf⟩
theorem dH.snapped (h:dH a w0 c eb lv list nodes rd pool b iv sv nv inos l2 L F w)(hc:c.Ok){KH:Value}{l3:List Sn}(r:du uj 5 85 c F w KH l3)(hf:∀ g,KH.ownBlock=some g->w0.heap.size<=g){b':iX}(hb:World.blk w' c.nb (lU b' iv KH c.pm nv) 99)(m:ai (λg=>g=c.nb) w w'):dH a w0 c eb lv list nodes rd pool b' iv KH nv inos l3 L F w':=by
 have k:=h.st.boxed (b':=b') hc hb m;exact⟨k.1,h.tw.trans k.2,h.se.step k.2,(h.se.same k.2).trans h.eb,h.sn.step k.2,h.si.step k.2,r.step k.2,h.sl.step k.2,hf,h.lf⟩
end
theorem du.other {α:Type}{f:α->List Value}{t:TypeId}{c:qj}{S:Nat->Prop}{l:List α}(h:du f sz t c F w v l)(m:ai S w w')(hS:∀ g,v.ownBlock=some g->¬ S g):du f sz t c F w' v l:=
 ⟨aA h.own λg hg=>m.block g (aX h.own hg) (hS g hg),λg hg=>⟨awg (h.side g hg).lt m.size,(h.side g hg).nf,(h.side g hg).nn,(h.side g hg).np,(h.side g hg).nm⟩⟩
structure Rj (w0:World)(F:Nat->Prop)(B:Nat)(t:TypeId)(x:Array Value)(w:World):Prop where
 blk:World.blk w B x t
 nf:¬ F B
 new:w0.heap.size<=B
theorem nZ.fresh {c:qj}{rd:Rd}{pool:Pl}{b:iX}{L:List ay}(h:eO c rd pool b iv sv nv L F w)(hg:w.heap.size<=g)(hl:g<w'.heap.size):nZ c F w' g:=
 ⟨hl,λhf=>by have:=h.lt hf;omega,λe=>by have:=ak h.box;omega,λe=>by have:=ak h.pool.own;omega,λe=>by have:=ak h.map.own;omega⟩
theorem dH.pushed {a:eX}{w1:World}{c:qj}{list:List Sn}{nodes:List Nt}{rd:Rd}{pool:Pl}{b:iX}{inos:List fD}{l2:List Sn}{L:List ay}(h:dH a w0 c eb lv list nodes rd pool b iv sv nv inos l2 L F w)(hc:c.Ok){v':Value}{x:Sn}(ho:w1.ownsRow 0 85 5 v' (l2.length+1) (l2.flatMap uj++uj x))(hb:v'.ownBlock=sv.ownBlock\/∃ k,v'.ownBlock=some k/\w.heap.size<=k)(m:ai (λg=>sv.ownBlock=some g) w w1)
  {b':iX} (hx:World.blk w' c.nb (lU b' iv v' c.pm nv) 99) (m2:ai (λg=>g=c.nb) w1 w'):dH a w0 c eb lv list nodes rd pool b' iv v' nv inos (l2++[x]) L F w':=by
 have hS:∀ g,sv.ownBlock=some g->¬ F g/\g≠c.nb/\g≠c.pb/\g≠c.pm/\g≠c.v:=λg hg=>⟨(h.ss.side g hg).nf,(h.ss.side g hg).nn,(h.ss.side g hg).np,(h.ss.side g hg).nm,jb h.ss.own hg h.st.own dc7⟩
 have st1:=h.st.other m hS;have tw1:=h.tw.fresh m h.sf;have eG:∀ g,lv.ownBlock=some g->¬ sv.ownBlock=some g:=λg hg hh=>by have:=h.lf g hg;have:=h.sf g hh;omega
 have heb:¬ sv.ownBlock=some eb:=λe=>jb h.ss.own e h.eb dc7 rfl;have FG:dX uj 5 85 w1 0 v' (l2++[x]):=by
  unfold dX;rw[awm,awn];simpa using ho
 have hd:∀(v:Value) (t:TypeId),t≠85->∀ n sz xs,w.ownsRow 0 t sz v n xs->∀ g,v.ownBlock=some g->¬ sv.ownBlock=some g:=λv t ht n sz xs h1 g hg hh=>by
  rcases h.ss.own.2 with⟨e,_⟩|⟨g',cap,dW,e,_,hk,_⟩
  ·rw[e]at hh;cases hh
  ·rw[e]at hh;have e2:g'=g:=by simpa[Value.ownBlock]using hh
   subst e2;exact jb h1 hg (c:=dW) hk ht rfl
 have rs:du uj 5 85 c F w1 v' (l2++[x]):=⟨FG,λg hg=>by
  rcases hb with e|⟨k,e,hk⟩
  ·rw[e]at hg;have hs:=h.ss.side g hg;exact⟨awg hs.lt m.size,hs.nf,hs.nn,hs.np,hs.nm⟩
  ·rw[e]at hg;injection hg with hg;subst hg;exact nZ.fresh h.st hk (aX FG e)⟩
 have k:=st1.boxed (b':=b') hc hx m2;exact⟨k.1,tw1.trans k.2,nZ.step ⟨awg h.se.lt m.size,h.se.nf,h.se.nn,h.se.np,h.se.nm⟩ k.2,ab m2 (ab m h.eb heb) h.se.nn,
  (h.sn.other m (hd nv 221 dc7 _ _ _ h.sn.own)).step k.2,(h.si.other m (hd iv 128 dc7 _ _ _ h.si.own)).step k.2,rs.step k.2,(h.sl.other m eG).step k.2,λg hg=>by
   rcases hb with e|⟨k,e,hk⟩
   ·exact h.sf g (e▸hg)
   ·rw[e]at hg;injection hg with hg;subst hg;exact av2 h.tw.mod.size hk,h.lf⟩
theorem dH.erred {a:eX}{c:qj}{list:List Sn}{nodes:List Nt}{rd:Rd}{pool:Pl}{b:iX}{inos:List fD}{l2:List Sn}{L:List ay}(h:dH a w0 c eb lv list nodes rd pool b iv sv nv inos l2 L F w)(hw:w0.heap.size<=eb)(hb:World.blk w' eb #[.int .i64 0] 22)(m:ai (λg=>g=eb) w w'):dH a w0 c eb lv list nodes rd pool b iv sv nv inos l2 L F w':=
 ⟨h.st.other m (λg e=>by subst e;exact⟨h.se.nf,h.se.nn,h.se.np,h.se.nm,gJ h.eb h.st.own dc7⟩),h.tw.fresh m (λg e=>by subst e;exact hw),⟨awg h.se.lt m.size,h.se.nf,h.se.nn,h.se.np,h.se.nm⟩,hb,
  h.sn.other m (λg hg e=>jb h.sn.own hg h.eb dc7 e),h.si.other m (λg hg e=>jb h.si.own hg h.eb dc7 e),h.ss.other m (λg hg e=>jb h.ss.own hg h.eb dc7 e),h.sl.other m (λg hg e=>jb h.sl.own hg h.eb dc7 e),h.sf,h.lf⟩
theorem Rk {pv size:Nat}{text:ay}{num:Nat}{rd:Rd}(h:ld pv size text num rd w F)(t2:ay)(ht:t2.length<=40)(hn:num<1099511627776):
  Calls prog 140 #[au pv,az t2] w λe w'=>e=.returned (.int .i64 0)/\∃ F',ld pv size t2 (num+1) rd w' F'/\dO F F' w w':=by
 obtain⟨d,h,hr,hs⟩:=h;refine(DY h t2 ht hn).mono ?_;rintro e w' ⟨rfl,F',h',k⟩;exact⟨rfl,F',⟨_,h',by rw[vC,AQ];exact hr,by rw[qB,dx];exact hs⟩,k⟩
theorem MJ (b:iX)(h1:0<=b.table.root/\b.table.root<4096/\0<=b.table.size/\b.table.size<=16384)(h2:0<=b.snaps.root/\b.snaps.root<4096/\0<=b.snaps.size/\b.snaps.size<=16384)(h3:0<=b.mapped.root/\b.mapped.root<4096/\0<=b.mapped.size/\b.mapped.size<=16384)(h4:b.next<=4096)(h5:b.id<=1099511627777)(iv sv nv:Value)(pm nb:Nat)(w:World)(hb:World.blk w nb (lU b iv sv pm nv) 99):
  Calls prog 141 #[au nb] w λe w'=>e=.returned (az (fT b))/\af w w':=by
 have key:=MF b.table.root.toNat b.table.size.toNat b.snaps.root.toNat b.snaps.size.toNat b.mapped.root.toNat b.mapped.size.toNat b.next b.id (by
  intro x hx;simp only[aws,List.not_mem_nil,or_false]at hx;rcases hx with rfl|rfl|rfl|rfl|rfl|rfl|rfl|rfl<;>omega) iv sv (au pm) nv nb w (by
  rw[Int.toNat_of_nonneg h1.1,Int.toNat_of_nonneg h1.2.2.1,Int.toNat_of_nonneg h2.1,Int.toNat_of_nonneg h2.2.2.1,Int.toNat_of_nonneg h3.1,Int.toNat_of_nonneg h3.2.2.1];exact hb)
 refine key.mono ?_;rintro e w' ⟨rfl,k⟩;refine⟨?_,k⟩;unfold fT yM;simp
theorem MK (b:iX)(h1:0<=b.table.root/\b.table.root<4096/\0<=b.table.size/\b.table.size<=16384)(h2:0<=b.snaps.root/\b.snaps.root<4096/\0<=b.snaps.size/\b.snaps.size<=16384)(h3:0<=b.mapped.root/\b.mapped.root<4096/\0<=b.mapped.size/\b.mapped.size<=16384)(h4:b.next<=4096)(h5:b.id<=1099511627777):(fT b).length<=40:=by
 have e1:=oT h1;have e2:=oT h2;have e3:=oT h3;have e4:=ei 1 b.next J;have e5:=ei 5 b.id J;unfold fT;simp only[awn];omega
theorem dH.commit {a:eX}{c:qj}{list:List Sn}{nodes:List Nt}{rd:Rd}{pool:Pl}{b:iX}{inos:List fD}{l2:List Sn}{L:List ay}(h:dH a w0 c eb lv list nodes rd pool b iv sv nv inos l2 L F w){t2:ay}{n2:Nat}(hv:ld c.pv c.size t2 n2 rd w' F')(k:dO F F' w w'):dH a w0 { c with text:=t2,num:=n2 } eb lv list nodes rd pool b iv sv nv inos l2 L F' w':=by
 have hn:∀ {g},¬ F g->g<w.heap.size->¬ F' g:=λhg hl h=>(k.foot _ h).elim hg (λh2=>J);have dh:=h.st;have st:eO { c with text:=t2,num:=n2 } rd pool b iv sv nv L F' w':=⟨hv,dh.pool.mod k.mod dh.fp,ab k.mod dh.box dh.fn,dh.map.mod k.mod dh.fm,ab k.mod dh.own dh.fv,hn dh.fv (ak dh.own),hn dh.fn (ak dh.box),hn dh.fp (ak dh.pool.own),hn dh.fm (ak dh.map.own)⟩
 have to2:ga c F F' w w':=⟨k.foot,k.mod.mono λ_ _ h=>.inl h⟩
 have tw:=h.tw.trans to2;have se:=h.se.step to2;have sn:=h.sn.step to2;have si:=h.si.step to2;have ss:=h.ss.step to2;have sl:=h.sl.step to2;exact⟨st,⟨tw.foot,tw.mod⟩,⟨se.lt,se.nf,se.nn,se.np,se.nm⟩,(h.se.same to2).trans h.eb,⟨sn.own,λg hg=>⟨(sn.side g hg).lt,(sn.side g hg).nf,(sn.side g hg).nn,(sn.side g hg).np,(sn.side g hg).nm⟩⟩,⟨si.own,λg hg=>⟨(si.side g hg).lt,(si.side g hg).nf,(si.side g hg).nn,(si.side g hg).np,(si.side g hg).nm⟩⟩,⟨ss.own,λg hg=>⟨(ss.side g hg).lt,(ss.side g hg).nf,(ss.side g hg).nn,(ss.side g hg).np,(ss.side g hg).nm⟩⟩,⟨sl.own,λg hg=>⟨(sl.side g hg).lt,(sl.side g hg).nf,(sl.side g hg).nn,(sl.side g hg).np,(sl.side g hg).nm⟩⟩,h.sf,h.lf⟩
theorem dH.cleared {a:eX}{c:qj}{list:List Sn}{nodes:List Nt}{rd:Rd}{pool:Pl}{b:iX}{inos:List fD}{l2:List Sn}{L L':List ay}(h:dH a w0 c eb lv list nodes rd pool b iv sv nv inos l2 L F w)(hc:c.Ok)(hp:dp w' c.pm c.n L')(m:ai (λg=>g=c.pm) w w'):dH a w0 c eb lv list nodes rd pool b iv sv nv inos l2 L' F w':=by
 have k:=h.st.mapped hc hp m;exact h.step k.1 k.2
end
section
open Go.RowKit
theorem ZY {a:eX}{wc wD wF wZ:World}{p:Nat}{v:Vs}{list:List Sn}{c:qj}{rd:Rd}{pool:Pl}{B7:iX}{inos:List fD}{l2:List Sn}{L:List ay}{F5 Fl2:Nat->Prop}{d2 dl2:Dk}
  (h0:lc w p v a) (hp:dH a w c eb lv list (aw v.T) rd pool B7 iv sv nv inos l2 L F5 wc) (ym:c.v=p) (Uv:c.n=v.blocks) (FS:w.heap.size<=c.nb) (Fy:w.heap.size<=c.pb) (Yd:w.heap.size<=c.pm) (Xu:w.heap.size=eb)
  (Ku:∀ g,iv.ownBlock=some g->w.heap.size<=g) (Xv:∀ g,nv.ownBlock=some g->w.heap.size<=g)
  (hb:World.blk wD p (tq a.pv a.pl B7 iv sv nv c.pm a.pt) 102) (mb:ai (λg=>g=p) wc wD)
  (OJ:gS wD a.pv d2 (fT B7) (v.num+1) F5) (yX:il d2=rd) (cJ:d2.size/4=v.blocks)
  (hl:kK wF a.pl dl2 (v.num+1) [] Fl2) (afp:bH dl2*64=v.half) (FJ:∀ g,Fl2 g->a.Fl g\/wD.heap.size<=g) (ml:ai a.Fl wD wF) (mz:ai (λg=>g=eb) wF wZ)
  {v':Vs} (hv':v'={ v with rd:=rd,num:=v.num+1,recs:=[],b:={ B7 with inodes:=inos,list:=l2,planes:=L,nodes:=aw v.T } }):
  ∃ a',lc wZ p v' a'/\(a'.text=fT v'.b/\a'.role=a.role)/\(∀ g,a'.foot p g->a.foot p g\/w.heap.size<=g)/\ai (λg=>g=p\/a.Fv g\/a.Fl g) w wZ:=by
 subst hv';have plt:=ak h0.own;have mD:ai (λg=>a.Fl g\/g=eb) wD wZ:=(ml.mono (λ_ _ h=>.inl h)).trans mz (λ_ _ h=>.inr h);have fl:∀ g,a.Fl g->g<w.heap.size:=λg hg=>h0.log.lt g hg;have scd:wc.heap.size<=wD.heap.size:=mb.size;have swc:w.heap.size<=wc.heap.size:=hp.tw.mod.size;have mv:ai (λg=>g=p\/a.Fv g\/a.Fl g) w wZ:=by
  have m1:ai (λg=>a.Fv g\/a.Fl g\/g=p) w wc:=hp.tw.mod.mono λg hg hh=>hh.elim .inl (λhh=>by rcases hh with e|e|e<;>omega);have m2:=(m1.trans mb (λg _ e=>.inr (.inr e))).trans mD (λg hg h=>h.elim (λh=>.inr (.inl h)) (λe=>J));exact m2.mono λg _ h=>by rcases h with h|h|h;exact .inr (.inl h);exact .inr (.inr h);exact .inl h
 have cD:∀ g,w.heap.size<=g->g≠eb->g<wc.heap.size->g≠p->wZ.heap[g]?=wc.heap[g]?:=λg h1 h2 h3 h4=>
  (mD.block g J (λh=>h.elim (λh=>by have:=fl g h;omega) h2)).trans (mb.block g h3 h4)
 have f5:∀ g,F5 g->a.Fv g\/w.heap.size<=g:=hp.tw.foot;have ale:∀ g,F5 g->g<wc.heap.size:=λg hg=>hp.st.lt hg;have nfl:∀ g,F5 g->¬ a.Fl g:=λg hg hf=>(f5 g hg).elim (λh=>h0.apart g h hf) (λh=>by have:=fl g hf;omega);have bp:=hp.st.own;rw[ym]at bp;have row:∀ {α:Type} {f:α->List Value} {sz:Nat} {t:TypeId} {x:Value} {l:List α},du f sz t c F5 wc x l->(∀ g,x.ownBlock=some g->w.heap.size<=g)->t≠22->t≠102->dX f sz t wZ 0 x l/\∀ g,x.ownBlock=some g->¬ F5 g/\¬ Fl2 g/\g≠p:=λhr hf h1 h2=>by
  have eG:∀ g,_->g≠eb:=λg hg=>jb hr.own hg hp.eb h1;have hnp:∀ g,_->g≠p:=λg hg=>jb hr.own hg bp h2;refine⟨aA hr.own λg hg=>cD g (hf g hg) (eG g hg) (aX hr.own hg) (hnp g hg),λg hg=>⟨(hr.side g hg).nf,λh=>?_,hnp g hg⟩⟩;rcases FJ g h with h|h
  ·have:=fl g h;have:=hf g hg;omega
  ·have:=aX hr.own hg;omega
 have ri:=row hp.si Ku dc7 dc7;have rs:=row hp.ss hp.sf dc7 dc7;have rn:=row hp.sn Xv dc7 dc7;have npm:c.pm≠p:=λe=>J
 have role:∀ b,a.role b≠.none->b<w.heap.size/\¬ a.Fv b/\¬ a.Fl b/\b≠p:=λb hb=>by
  have h1:=h0.lt (b:=b) (.inr (.inr (.inr (.inr (.inl hb)))));exact⟨h1,h0.stays b (.inr (.inl hb))⟩
 refine⟨{ a with pm:=c.pm,iv:=iv,sv:=sv,nv:=nv,d:=d2,dl:=dl2,text:=fT B7,Fv:=F5,Fl:=Fl2 },⟨?_,?_,yX,cJ,?_,afp,ri.1,rs.1,rn.1,?_,?_,h0.wf,?_,?_,?_,?_⟩,⟨rfl,rfl⟩,?_,mv⟩
 ·exact ab mD hb (λh=>h.elim h0.nl (λe=>J))
 ·exact OJ.same (mD.on λg hg h=>h.elim (nfl g hg) (λe=>hp.se.nf (e▸hg))) mD.size
 ·refine hl.same (mz.on λg hg e=>?_) mz.size;subst e;rcases FJ _ hg with h|h
  ·have:=fl _ h;omega
  ·have:=hp.se.lt;omega
 ·have hm:=hp.st.map;rw[Uv]at hm;exact⟨(cD c.pm Yd (λe=>hp.se.nm e.symm) (ak hm.own) npm).trans hm.own,hm.many,hm.eight,hm.short⟩
 ·obtain⟨tb,A,M,ht⟩:=h0.tree;exact⟨tb,A,M,ht.same (mv.on λg hg h=>by
   have:=role g hg;rcases h with h|h|h
   ·exact this.2.2.2 h
   ·exact this.2.1 h
   ·exact this.2.2.1 h) mv.size⟩
 ·exact λb hb h=>(FJ b h).elim (nfl b hb) (λh=>by have:=ale b hb;omega)
 ·show ¬ F5 p;rw[<-ym];exact hp.st.fv
 ·exact λh=>(FJ p h).elim h0.nl (λh=>J)
 ·intro b hb;rcases hb with hb|hb|hb|hb|hb
  ·obtain rfl:b=c.pm:=hb;refine⟨hp.st.fm,λh=>?_,npm⟩;rcases FJ c.pm h with h|h
   ·have:=fl c.pm h;omega
   ·have:=ak hp.st.map.own;omega
  ·obtain⟨h1,h2,h3,h4⟩:=role b hb;exact⟨λh=>(f5 b h).elim h2 (λh=>J),λh=>(FJ b h).elim h3 (λh=>J),h4⟩
  ·exact ri.2 b hb
  ·exact rs.2 b hb
  ·exact rn.2 b hb
 ·intro g hg;rcases hg with hg|hg|hg|hg|hg|hg|hg|hg
  ·exact .inl (.inl hg)
  ·exact(f5 g hg).imp (λh=>.inr (.inl h)) id
  ·exact(FJ g hg).imp (λh=>.inr (.inr (.inl h))) (λh=>J)
  ·exact .inr (by rw[show g=c.pm from hg];exact Yd)
  ·exact .inl (.inr (.inr (.inr (.inr (.inl hg)))))
  ·exact .inr (Ku g hg)
  ·exact .inr (hp.sf g hg)
  ·exact .inr (Xv g hg)
end
end Go.Proofs.YtkghpdcloaiflaaGreatDoor
