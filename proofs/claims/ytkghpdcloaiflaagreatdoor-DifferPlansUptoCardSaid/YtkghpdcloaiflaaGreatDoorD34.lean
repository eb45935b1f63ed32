import Derived.Test.YtkghpdcloaiflaaGreatDoorD33
namespace Go.Proofs.YtkghpdcloaiflaaGreatDoor
open _root_.Go.Proofs.Tryz
section
open Go.RowKit
attribute [local go_sem] auG
structure oC (c:qt)(F:Nat->Prop)(w:World)(g:Nat):Prop where
 lt:g<w.heap.size
 nf:¬ F g
 nn:g≠c.nb
 np:g≠c.pb
 nm:g≠c.pm
theorem oC.step {c:qt}{F F':Nat->Prop}{w w':World}{g:Nat}(h:oC c F w g)(k:gw c F F' w w'):oC c F' w' g:=
 ⟨auW h.lt k.mod.size,fun hf=>(k.foot g hf).elim h.nf (fun h2=>by have:=h.lt;omega),h.nn,h.np,h.nm⟩
theorem oC.same {c:qt}{F F':Nat->Prop}{w w':World}{g:Nat}(h:oC c F w g)(k:gw c F F' w w'):w'.heap[g]?=w.heap[g]?:=
 k.mod.block g h.lt fun hh=>hh.elim h.nf fun hh=>hh.elim h.nn fun hh=>hh.elim h.np h.nm
theorem oC.keep {c:qt}{F:Nat->Prop}{w w':World}{g:Nat}(h:oC c F w g)(k:af w w'):oC c F w' g:=⟨auW h.lt k.size,h.nf,h.nn,h.np,h.nm⟩
structure dB {α:Type}(f:α->List Value)(sz:Nat)(t:TypeId)(c:qt)(F:Nat->Prop)(w:World)(v:Value)(l:List α):Prop where
 own:dX f sz t w 0 v l
 side:∀ g,v.ownBlock=some g->oC c F w g
theorem dB.step {α:Type}{f:α->List Value}{sz:Nat}{t:TypeId}{c:qt}{F F':Nat->Prop}{w w':World}{v:Value}{l:List α}(h:dB f sz t c F w v l)(k:gw c F F' w w'):dB f sz t c F' w' v l:=
 ⟨aA h.own fun g hg=>(h.side g hg).same k,fun g hg=>(h.side g hg).step k⟩
theorem dB.keep {α:Type}{f:α->List Value}{sz:Nat}{t:TypeId}{c:qt}{F:Nat->Prop}{w w':World}{v:Value}{l:List α}(h:dB f sz t c F w v l)(k:af w w'):dB f sz t c F w' v l:=
 ⟨io h.own k,fun g hg=>(h.side g hg).keep k⟩
theorem gT {w:World}{a b:Nat}{x y:Array Value}{s t:TypeId}(h:World.blk w a x s)(k:World.blk w b y t)(dZ:s≠t):a≠b:=by
 rintro rfl;unfold World.blk at h k;rw[h]at k
 cases k
 exact dZ rfl
theorem jm {w:World}{base n sz g b:Nat}{s t:TypeId}{v:Value}{xs:List Value}{c:Array Value}(h:w.ownsRow base s sz v n xs)(hg:v.ownBlock=some g)(k:World.blk w b c t)(dZ:s≠t):g≠b:=by
 rcases h.2 with⟨rfl,_⟩|⟨g',cap,dz,rfl,hb,hk,_⟩
 ·cases hg
 ·have e:g'=g:=by simpa[Value.ownBlock]using hg
  subst e;exact gT (x:=dz) hk k dZ
theorem pZ {w:World}{base n sz:Nat}{t:TypeId}{v:Value}{xs:List Value}(h:w.ownsRow base t sz v n xs):w.ownsRow 0 t sz v n xs:=by
 obtain⟨h1,h2⟩:=h;exact⟨h1,h2.imp id (fun⟨g,cap,dz,e,_,r⟩=>⟨g,cap,dz,e,avw _,r⟩)⟩
def iQ (id:Nat):jf:=⟨⟨0,0⟩,⟨0,0⟩,⟨0,0⟩,0,id,[],[],[],[]⟩
def fX (L:List ay)(l:List Sn)(q:Nat):List ay:=(List.range 8).map fun(p:Nat)=>if p=0\/q<=p\/l.any (fun x=>x.plane==(p:Int))=true then L.getD p []else []
theorem EE {L:List ay}(h:L.length=8)(l:List Sn):fX L l 1=L:=by
 apply List.ext_getElem?;intro i;unfold fX;rw[avM];by_cases hi:i<8
 ·rw[avN hi,avO,auT (by omega),av4,auM (by omega)];rfl
 ·rw[avF (by simp;omega),avF (by omega)];rfl
theorem EF (L:List ay)(l:List Sn):fX L l 8=kX L l:=by
 unfold fX kX;apply avc;intro p hp;rw[avH]at hp
 congr 1
 apply propext
 constructor
 ·rintro(h|h|h)
  ·exact .inl h
  ·omega
  ·exact .inr h
 ·rintro(h|h)
  ·exact .inl h
  ·exact .inr (.inr h)
theorem Bz (L:List ay){l:List Sn}{q:Nat}(h:l.any (fun x=>x.plane==(q:Int))=true):fX L l (q+1)=fX L l q:=by
 unfold fX;apply avc;intro p _;by_cases e:p=q
 ·subst e;rw[auT (.inr (.inr h)),auT (.inr (.inr h))]
 ·congr 1
  apply propext
  constructor
  ·rintro(h|h|h)
   ·exact .inl h
   ·exact .inr (.inl (by omega))
   ·exact .inr (.inr h)
  ·rintro(h|h|h)
   ·exact .inl h
   ·exact .inr (.inl (by omega))
   ·exact .inr (.inr h)
theorem BA (L:List ay){l:List Sn}{q:Nat}(h1:1<=q)(h8:q<8)(h:l.any (fun x=>x.plane==(q:Int))=false):fX L l (q+1)=(fX L l q).set q []:=by
 apply List.ext_getElem?;intro i;rw[List.getElem?_set];unfold fX;rw[avM,avM,avf,List.length_range];by_cases hi:i<8
 ·rw[avN hi,avO,avO];by_cases e:q=i
  ·subst e;rw[auT rfl,auT h8,auV];rintro(h2|h2|h2)
   ·omega
   ·omega
   ·rw[h]at h2;cases h2
  ·rw[auV e]
   congr 1
   congr 1
   apply propext
   constructor
   ·rintro(h|h|h)
    ·exact .inl h
    ·exact .inr (.inl (by omega))
    ·exact .inr (.inr h)
   ·rintro(h|h|h)
    ·exact .inl h
    ·exact .inr (.inl (by omega))
    ·exact .inr (.inr h)
 ·have e0:(List.range 8)[i]?=none:=avF (by simp;omega);rw[e0,auV (by omega)];rfl
structure dV (a:eV)(w0:World)(c:qt)(eb:Nat)(lv:Value)(list:List Sn)(nodes:List Nt)(rd:Rd)(pool:Pl)(b:jf)(iv sv nv:Value)(inos:List fC)(l2:List Sn)(L:List ay)(F:Nat->Prop)(w:World):Prop where
 st:eR c rd pool b iv sv nv L F w
 tw:gw c a.Fv F w0 w
 se:oC c F w eb
 eb:World.blk w eb #[.int .i64 0] 22
 sn:dB gF 4 221 c F w nv nodes
 si:dB jG 5 128 c F w iv inos
 ss:dB oB 5 85 c F w sv l2
 sl:dB oB 5 85 c F w lv list
 sf:∀ g,sv.ownBlock=some g->w0.heap.size<=g
 lf:∀ g,lv.ownBlock=some g->g<w0.heap.size
section
variable {a:eV}{w0 w w':World}{c:qt}{eb:Nat}{lv:Value}{list:List Sn}{nodes:List Nt}{rd KQ:Rd}{pool Xv:Pl}{b b':jf}{iv sv nv:Value}{inos:List fC}{l2:List Sn}{L L':List ay}{F F':Nat->Prop}
theorem dV.step (h:dV a w0 c eb lv list nodes rd pool b iv sv nv inos l2 L F w)(s:eR c KQ Xv b' iv sv nv L' F' w')(k:gw c F F' w w'):dV a w0 c eb lv list nodes KQ Xv b' iv sv nv inos l2 L' F' w':=
 ⟨s,h.tw.trans k,h.se.step k,(h.se.same k).trans h.eb,h.sn.step k,h.si.step k,h.ss.step k,h.sl.step k,h.sf,h.lf⟩
theorem dV.keep (h:dV a w0 c eb lv list nodes rd pool b iv sv nv inos l2 L F w)(k:af w w'):dV a w0 c eb lv list nodes rd pool b iv sv nv inos l2 L F w':=
 ⟨h.st.keep k,h.tw.keep k,h.se.keep k,ab k h.eb id,h.sn.keep k,h.si.keep k,h.ss.keep k,h.sl.keep k,h.sf,h.lf⟩
theorem dV.snapped (h:dV a w0 c eb lv list nodes rd pool b iv sv nv inos l2 L F w)(hc:c.Ok){Kn:Value}{l3:List Sn}(r:dB oB 5 85 c F w Kn l3)(hf:∀ g,Kn.ownBlock=some g->w0.heap.size<=g){b':jf}(hb:World.blk w' c.nb (mn b' iv Kn c.pm nv) 99)(m:ah (fun g=>g=c.nb) w w'):dV a w0 c eb lv list nodes rd pool b' iv Kn nv inos l3 L F w':=by
 have k:=h.st.boxed (b':=b') hc hb m;exact⟨k.1,h.tw.trans k.2,h.se.step k.2,(h.se.same k.2).trans h.eb,h.sn.step k.2,h.si.step k.2,r.step k.2,h.sl.step k.2,hf,h.lf⟩
end
theorem dB.other {α:Type}{f:α->List Value}{sz:Nat}{t:TypeId}{c:qt}{F S:Nat->Prop}{w w':World}{v:Value}{l:List α}(h:dB f sz t c F w v l)(m:ah S w w')(hS:∀ g,v.ownBlock=some g->¬ S g):dB f sz t c F w' v l:=
 ⟨aA h.own fun g hg=>m.block g (aU h.own hg) (hS g hg),fun g hg=>⟨auW (h.side g hg).lt m.size,(h.side g hg).nf,(h.side g hg).nn,(h.side g hg).np,(h.side g hg).nm⟩⟩
structure Q0 (w0:World)(F:Nat->Prop)(B:Nat)(t:TypeId)(x:Array Value)(w:World):Prop where
 blk:World.blk w B x t
 nf:¬ F B
 new:w0.heap.size<=B
theorem oC.fresh {c:qt}{rd:Rd}{pool:Pl}{b:jf}{iv sv nv:Value}{L:List ay}{F:Nat->Prop}{w:World}(h:eR c rd pool b iv sv nv L F w){g:Nat}(hg:w.heap.size<=g){w':World}(hl:g<w'.heap.size):oC c F w' g:=
 ⟨hl,fun hf=>by have:=h.lt hf;omega,fun e=>by have:=ak h.box;omega,fun e=>by have:=ak h.pool.own;omega,fun e=>by have:=ak h.map.own;omega⟩
theorem dV.pushed {a:eV}{w0 w w1 w':World}{c:qt}{eb:Nat}{lv:Value}{list:List Sn}{nodes:List Nt}{rd:Rd}{pool:Pl}{b:jf}{iv sv nv:Value}{inos:List fC}{l2:List Sn}{L:List ay}{F:Nat->Prop}(h:dV a w0 c eb lv list nodes rd pool b iv sv nv inos l2 L F w)(hc:c.Ok){v':Value}{x:Sn}(ho:w1.ownsRow 0 85 5 v' (l2.length+1) (l2.flatMap oB++oB x))(hb:v'.ownBlock=sv.ownBlock\/∃ k,v'.ownBlock=some k/\w.heap.size<=k)(m:ah (fun g=>sv.ownBlock=some g) w w1)
  {b':jf} (hx:World.blk w' c.nb (mn b' iv v' c.pm nv) 99) (m2:ah (fun g=>g=c.nb) w1 w'):dV a w0 c eb lv list nodes rd pool b' iv v' nv inos (l2++[x]) L F w':=by
 have hS:∀ g,sv.ownBlock=some g->¬ F g/\g≠c.nb/\g≠c.pb/\g≠c.pm/\g≠c.v:=fun g hg=>⟨(h.ss.side g hg).nf,(h.ss.side g hg).nn,(h.ss.side g hg).np,(h.ss.side g hg).nm,jm h.ss.own hg h.st.own (by decide)⟩
 have st1:=h.st.other m hS;have tw1:=h.tw.fresh m h.sf;have dZ:∀ g,lv.ownBlock=some g->¬ sv.ownBlock=some g:=fun g hg hh=>by have:=h.lf g hg;have:=h.sf g hh;omega
 have heb:¬ sv.ownBlock=some eb:=fun e=>jm h.ss.own e h.eb (by decide) rfl;have Fs:dX oB 5 85 w1 0 v' (l2++[x]):=by
  unfold dX;rw[au2,au3];simpa using ho
 have hd:∀(v:Value) (t:TypeId),t≠85->∀ n sz xs,w.ownsRow 0 t sz v n xs->∀ g,v.ownBlock=some g->¬ sv.ownBlock=some g:=fun v t ht n sz xs h1 g hg hh=>by
  rcases h.ss.own.2 with⟨e,_⟩|⟨g',cap,dz,e,_,hk,_⟩
  ·rw[e]at hh;cases hh
  ·rw[e]at hh;have e2:g'=g:=by simpa[Value.ownBlock]using hh
   subst e2;exact jm h1 hg (c:=dz) hk ht rfl
 have rs:dB oB 5 85 c F w1 v' (l2++[x]):=⟨Fs,fun g hg=>by
  rcases hb with e|⟨k,e,hk⟩
  ·rw[e]at hg;have hs:=h.ss.side g hg;exact⟨auW hs.lt m.size,hs.nf,hs.nn,hs.np,hs.nm⟩
  ·rw[e]at hg;injection hg with hg;subst hg;exact oC.fresh h.st hk (aU Fs e)⟩
 have k:=st1.boxed (b':=b') hc hx m2;exact⟨k.1,tw1.trans k.2,oC.step ⟨auW h.se.lt m.size,h.se.nf,h.se.nn,h.se.np,h.se.nm⟩ k.2,ab m2 (ab m h.eb heb) h.se.nn,
  (h.sn.other m (hd nv 221 (by decide) _ _ _ h.sn.own)).step k.2,(h.si.other m (hd iv 128 (by decide) _ _ _ h.si.own)).step k.2,rs.step k.2,(h.sl.other m dZ).step k.2,fun g hg=>by
   rcases hb with e|⟨k,e,hk⟩
   ·exact h.sf g (e▸hg)
   ·rw[e]at hg;injection hg with hg;subst hg;exact auI h.tw.mod.size hk,h.lf⟩
theorem dV.erred {a:eV}{w0 w w':World}{c:qt}{eb:Nat}{lv:Value}{list:List Sn}{nodes:List Nt}{rd:Rd}{pool:Pl}{b:jf}{iv sv nv:Value}{inos:List fC}{l2:List Sn}{L:List ay}{F:Nat->Prop}(h:dV a w0 c eb lv list nodes rd pool b iv sv nv inos l2 L F w)(hw:w0.heap.size<=eb)(hb:World.blk w' eb #[.int .i64 0] 22)(m:ah (fun g=>g=eb) w w'):dV a w0 c eb lv list nodes rd pool b iv sv nv inos l2 L F w':=
 ⟨h.st.other m (fun g e=>by subst e;exact⟨h.se.nf,h.se.nn,h.se.np,h.se.nm,gT h.eb h.st.own (by decide)⟩),h.tw.fresh m (fun g e=>by subst e;exact hw),⟨auW h.se.lt m.size,h.se.nf,h.se.nn,h.se.np,h.se.nm⟩,hb,
  h.sn.other m (fun g hg e=>jm h.sn.own hg h.eb (by decide) e),h.si.other m (fun g hg e=>jm h.si.own hg h.eb (by decide) e),h.ss.other m (fun g hg e=>jm h.ss.own hg h.eb (by decide) e),h.sl.other m (fun g hg e=>jm h.sl.own hg h.eb (by decide) e),h.sf,h.lf⟩
theorem Q5 {pv size:Nat}{text:ay}{num:Nat}{rd:Rd}{w:World}{F:Nat->Prop}(h:lD pv size text num rd w F)(t2:ay)(ht:t2.length<=40)(hn:num<1099511627776):
  Calls prog 140 #[aq pv,aB t2] w fun e w'=>e=.returned (.int .i64 0)/\∃ F',lD pv size t2 (num+1) rd w' F'/\ec F F' w w':=by
 obtain⟨d,h,hr,hs⟩:=h;refine(DK h t2 ht hn).mono ?_;rintro e w' ⟨rfl,F',h',k⟩;exact⟨rfl,F',⟨_,h',by rw[vJ,AS];exact hr,by rw[qG,dG];exact hs⟩,k⟩
theorem MD (b:jf)(h1:0<=b.table.root/\b.table.root<4096/\0<=b.table.size/\b.table.size<=16384)(h2:0<=b.snaps.root/\b.snaps.root<4096/\0<=b.snaps.size/\b.snaps.size<=16384)(h3:0<=b.mapped.root/\b.mapped.root<4096/\0<=b.mapped.size/\b.mapped.size<=16384)(h4:b.next<=4096)(h5:b.id<=1099511627777)(iv sv nv:Value)(pm nb:Nat)(w:World)(hb:World.blk w nb (mn b iv sv pm nv) 99):
  Calls prog 141 #[aq nb] w fun e w'=>e=.returned (aB (ge b))/\af w w':=by
 have key:=Mz b.table.root.toNat b.table.size.toNat b.snaps.root.toNat b.snaps.size.toNat b.mapped.root.toNat b.mapped.size.toNat b.next b.id (by
  intro x hx;simp only[au8,List.not_mem_nil,or_false]at hx;rcases hx with rfl|rfl|rfl|rfl|rfl|rfl|rfl|rfl<;>omega) iv sv (aq pm) nv nb w (by
  rw[Int.toNat_of_nonneg h1.1,Int.toNat_of_nonneg h1.2.2.1,Int.toNat_of_nonneg h2.1,Int.toNat_of_nonneg h2.2.2.1,Int.toNat_of_nonneg h3.1,Int.toNat_of_nonneg h3.2.2.1];exact hb)
 refine key.mono ?_;rintro e w' ⟨rfl,k⟩;refine⟨?_,k⟩;unfold ge yJ;simp
theorem ME (b:jf)(h1:0<=b.table.root/\b.table.root<4096/\0<=b.table.size/\b.table.size<=16384)(h2:0<=b.snaps.root/\b.snaps.root<4096/\0<=b.snaps.size/\b.snaps.size<=16384)(h3:0<=b.mapped.root/\b.mapped.root<4096/\0<=b.mapped.size/\b.mapped.size<=16384)(h4:b.next<=4096)(h5:b.id<=1099511627777):(ge b).length<=40:=by
 have e1:=po h1;have e2:=po h2;have e3:=po h3;have e4:=eF 1 b.next (by omega);have e5:=eF 5 b.id (by omega);unfold ge;simp only[au3];omega
theorem dV.commit {a:eV}{w0 w w':World}{c:qt}{eb:Nat}{lv:Value}{list:List Sn}{nodes:List Nt}{rd:Rd}{pool:Pl}{b:jf}{iv sv nv:Value}{inos:List fC}{l2:List Sn}{L:List ay}{F F':Nat->Prop}(h:dV a w0 c eb lv list nodes rd pool b iv sv nv inos l2 L F w){t2:ay}{n2:Nat}(hv:lD c.pv c.size t2 n2 rd w' F')(k:ec F F' w w'):dV a w0 { c with text:=t2,num:=n2 } eb lv list nodes rd pool b iv sv nv inos l2 L F' w':=by
 have hn:∀ {g},¬ F g->g<w.heap.size->¬ F' g:=fun hg hl h=>(k.foot _ h).elim hg (fun h2=>by omega);have dj:=h.st;have st:eR { c with text:=t2,num:=n2 } rd pool b iv sv nv L F' w':=⟨hv,dj.pool.mod k.mod dj.fp,ab k.mod dj.box dj.fn,dj.map.mod k.mod dj.fm,ab k.mod dj.own dj.fv,hn dj.fv (ak dj.own),hn dj.fn (ak dj.box),hn dj.fp (ak dj.pool.own),hn dj.fm (ak dj.map.own)⟩
 have to2:gw c F F' w w':=⟨k.foot,k.mod.mono fun _ _ h=>.inl h⟩
 have tw:=h.tw.trans to2;have se:=h.se.step to2;have sn:=h.sn.step to2;have si:=h.si.step to2;have ss:=h.ss.step to2;have sl:=h.sl.step to2;exact⟨st,⟨tw.foot,tw.mod⟩,⟨se.lt,se.nf,se.nn,se.np,se.nm⟩,(h.se.same to2).trans h.eb,⟨sn.own,fun g hg=>⟨(sn.side g hg).lt,(sn.side g hg).nf,(sn.side g hg).nn,(sn.side g hg).np,(sn.side g hg).nm⟩⟩,⟨si.own,fun g hg=>⟨(si.side g hg).lt,(si.side g hg).nf,(si.side g hg).nn,(si.side g hg).np,(si.side g hg).nm⟩⟩,⟨ss.own,fun g hg=>⟨(ss.side g hg).lt,(ss.side g hg).nf,(ss.side g hg).nn,(ss.side g hg).np,(ss.side g hg).nm⟩⟩,⟨sl.own,fun g hg=>⟨(sl.side g hg).lt,(sl.side g hg).nf,(sl.side g hg).nn,(sl.side g hg).np,(sl.side g hg).nm⟩⟩,h.sf,h.lf⟩
theorem dV.cleared {a:eV}{w0 w w':World}{c:qt}{eb:Nat}{lv:Value}{list:List Sn}{nodes:List Nt}{rd:Rd}{pool:Pl}{b:jf}{iv sv nv:Value}{inos:List fC}{l2:List Sn}{L L':List ay}{F:Nat->Prop}(h:dV a w0 c eb lv list nodes rd pool b iv sv nv inos l2 L F w)(hc:c.Ok)(hp:dy w' c.pm c.n L')(m:ah (fun g=>g=c.pm) w w'):dV a w0 c eb lv list nodes rd pool b iv sv nv inos l2 L' F w':=by
 have k:=h.st.mapped hc hp m;exact h.step k.1 k.2
end
section
open Go.RowKit
theorem Ze {a:eV}{w wc wD wF wZ:World}{p eb:Nat}{v:Vs}{lv:Value}{list:List Sn}{c:qt}{rd:Rd}{pool:Pl}{B7:jf}{iv sv nv:Value}{inos:List fC}{l2:List Sn}{L:List ay}{F5 Fl2:Nat->Prop}{d2 dl2:Dk}
  (h0:lp w p v a) (hp:dV a w c eb lv list (ar v.T) rd pool B7 iv sv nv inos l2 L F5 wc) (yv:c.v=p) (T4:c.n=v.blocks) (Cg:w.heap.size<=c.nb) (AB:w.heap.size<=c.pb) (TD:w.heap.size<=c.pm) (VX:w.heap.size=eb)
  (Ks:∀ g,iv.ownBlock=some g->w.heap.size<=g) (Ws:∀ g,nv.ownBlock=some g->w.heap.size<=g)
  (hb:World.blk wD p (tB a.pv a.pl B7 iv sv nv c.pm a.pt) 102) (mb:ah (fun g=>g=p) wc wD)
  (OX:ig wD a.pv d2 (ge B7) (v.num+1) F5) (Fu:iy d2=rd) (cJ:d2.size/4=v.blocks)
  (hl:ld wF a.pl dl2 (v.num+1) [] Fl2) (afj:bF dl2*64=v.half) (Fr:∀ g,Fl2 g->a.Fl g\/wD.heap.size<=g) (ml:ah a.Fl wD wF) (mz:ah (fun g=>g=eb) wF wZ)
  {v':Vs} (hv':v'={ v with rd:=rd,num:=v.num+1,recs:=[],b:={ B7 with inodes:=inos,list:=l2,planes:=L,nodes:=ar v.T } }):
  ∃ a',lp wZ p v' a'/\(a'.text=ge v'.b/\a'.role=a.role)/\(∀ g,a'.foot p g->a.foot p g\/w.heap.size<=g)/\ah (fun g=>g=p\/a.Fv g\/a.Fl g) w wZ:=by
 subst hv';have plt:=ak h0.own;have mD:ah (fun g=>a.Fl g\/g=eb) wD wZ:=(ml.mono (fun _ _ h=>.inl h)).trans mz (fun _ _ h=>.inr h);have fl:∀ g,a.Fl g->g<w.heap.size:=fun g hg=>h0.log.lt g hg;have scd:wc.heap.size<=wD.heap.size:=mb.size;have swc:w.heap.size<=wc.heap.size:=hp.tw.mod.size;have mv:ah (fun g=>g=p\/a.Fv g\/a.Fl g) w wZ:=by
  have m1:ah (fun g=>a.Fv g\/a.Fl g\/g=p) w wc:=hp.tw.mod.mono fun g hg hh=>hh.elim .inl (fun hh=>by rcases hh with e|e|e<;>omega);have m2:=(m1.trans mb (fun g _ e=>.inr (.inr e))).trans mD (fun g hg h=>h.elim (fun h=>.inr (.inl h)) (fun e=>by omega));exact m2.mono fun g _ h=>by rcases h with h|h|h;exact .inr (.inl h);exact .inr (.inr h);exact .inl h
 have cD:∀ g,w.heap.size<=g->g≠eb->g<wc.heap.size->g≠p->wZ.heap[g]?=wc.heap[g]?:=fun g h1 h2 h3 h4=>
  (mD.block g (by omega) (fun h=>h.elim (fun h=>by have:=fl g h;omega) h2)).trans (mb.block g h3 h4)
 have f5:∀ g,F5 g->a.Fv g\/w.heap.size<=g:=hp.tw.foot;have ah0:∀ g,F5 g->g<wc.heap.size:=fun g hg=>hp.st.lt hg;have nfl:∀ g,F5 g->¬ a.Fl g:=fun g hg hf=>(f5 g hg).elim (fun h=>h0.apart g h hf) (fun h=>by have:=fl g hf;omega);have bp:=hp.st.own;rw[yv]at bp;have row:∀ {α:Type} {f:α->List Value} {sz:Nat} {t:TypeId} {x:Value} {l:List α},dB f sz t c F5 wc x l->(∀ g,x.ownBlock=some g->w.heap.size<=g)->t≠22->t≠102->dX f sz t wZ 0 x l/\∀ g,x.ownBlock=some g->¬ F5 g/\¬ Fl2 g/\g≠p:=fun hr hf h1 h2=>by
  have dZ:∀ g,_->g≠eb:=fun g hg=>jm hr.own hg hp.eb h1;have hnp:∀ g,_->g≠p:=fun g hg=>jm hr.own hg bp h2;refine⟨aA hr.own fun g hg=>cD g (hf g hg) (dZ g hg) (aU hr.own hg) (hnp g hg),fun g hg=>⟨(hr.side g hg).nf,fun h=>?_,hnp g hg⟩⟩;rcases Fr g h with h|h
  ·have:=fl g h;have:=hf g hg;omega
  ·have:=aU hr.own hg;omega
 have ri:=row hp.si Ks (by decide) (by decide);have rs:=row hp.ss hp.sf (by decide) (by decide);have rn:=row hp.sn Ws (by decide) (by decide);have npm:c.pm≠p:=fun e=>by omega
 have role:∀ b,a.role b≠.none->b<w.heap.size/\¬ a.Fv b/\¬ a.Fl b/\b≠p:=fun b hb=>by
  have h1:=h0.lt (b:=b) (.inr (.inr (.inr (.inr (.inl hb)))));exact⟨h1,h0.stays b (.inr (.inl hb))⟩
 refine⟨{ a with pm:=c.pm,iv:=iv,sv:=sv,nv:=nv,d:=d2,dl:=dl2,text:=ge B7,Fv:=F5,Fl:=Fl2 },⟨?_,?_,Fu,cJ,?_,afj,ri.1,rs.1,rn.1,?_,?_,h0.wf,?_,?_,?_,?_⟩,⟨rfl,rfl⟩,?_,mv⟩
 ·exact ab mD hb (fun h=>h.elim h0.nl (fun e=>by omega))
 ·exact OX.same (mD.on fun g hg h=>h.elim (nfl g hg) (fun e=>hp.se.nf (e▸hg))) mD.size
 ·refine hl.same (mz.on fun g hg e=>?_) mz.size;subst e;rcases Fr _ hg with h|h
  ·have:=fl _ h;omega
  ·have:=hp.se.lt;omega
 ·have hm:=hp.st.map;rw[T4]at hm;exact⟨(cD c.pm TD (fun e=>hp.se.nm e.symm) (ak hm.own) npm).trans hm.own,hm.many,hm.eight,hm.short⟩
 ·obtain⟨tb,A,M,ht⟩:=h0.tree;exact⟨tb,A,M,ht.same (mv.on fun g hg h=>by
   have:=role g hg;rcases h with h|h|h
   ·exact this.2.2.2 h
   ·exact this.2.1 h
   ·exact this.2.2.1 h) mv.size⟩
 ·exact fun b hb h=>(Fr b h).elim (nfl b hb) (fun h=>by have:=ah0 b hb;omega)
 ·show ¬ F5 p;rw[<-yv];exact hp.st.fv
 ·exact fun h=>(Fr p h).elim h0.nl (fun h=>by omega)
 ·intro b hb;rcases hb with hb|hb|hb|hb|hb
  ·obtain rfl:b=c.pm:=hb;refine⟨hp.st.fm,fun h=>?_,npm⟩;rcases Fr c.pm h with h|h
   ·have:=fl c.pm h;omega
   ·have:=ak hp.st.map.own;omega
  ·obtain⟨h1,h2,h3,h4⟩:=role b hb;exact⟨fun h=>(f5 b h).elim h2 (fun h=>by omega),fun h=>(Fr b h).elim h3 (fun h=>by omega),h4⟩
  ·exact ri.2 b hb
  ·exact rs.2 b hb
  ·exact rn.2 b hb
 ·intro g hg;rcases hg with hg|hg|hg|hg|hg|hg|hg|hg
  ·exact .inl (.inl hg)
  ·exact(f5 g hg).imp (fun h=>.inr (.inl h)) id
  ·exact(Fr g hg).imp (fun h=>.inr (.inr (.inl h))) (fun h=>by omega)
  ·exact .inr (by rw[show g=c.pm from hg];exact TD)
  ·exact .inl (.inr (.inr (.inr (.inr (.inl hg)))))
  ·exact .inr (Ks g hg)
  ·exact .inr (hp.sf g hg)
  ·exact .inr (Ws g hg)
end
end Go.Proofs.YtkghpdcloaiflaaGreatDoor
