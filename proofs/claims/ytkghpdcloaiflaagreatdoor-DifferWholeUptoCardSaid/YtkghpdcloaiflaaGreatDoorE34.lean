import Derived.Test.YtkghpdcloaiflaaGreatDoorE33
namespace Go.Proofs.YtkghpdcloaiflaaGreatDoor
open _root_.Go.Proofs.Tryz
section
open Go.RowKit
attribute [local go_sem] auv
structure oD (c:qu)(F:Nat->Prop)(w:World)(g:Nat):Prop where
 lt:g<w.heap.size
 nf:¬ F g
 nn:g≠c.nb
 np:g≠c.pb
 nm:g≠c.pm
theorem oD.step {c:qu}{F F':Nat->Prop}{w w':World}{g:Nat}(h:oD c F w g)(k:gx c F F' w w'):oD c F' w' g:=
 ⟨auL h.lt k.mod.size,fun hf=>(k.foot g hf).elim h.nf (fun h2=>by have:=h.lt;omega),h.nn,h.np,h.nm⟩
theorem oD.same {c:qu}{F F':Nat->Prop}{w w':World}{g:Nat}(h:oD c F w g)(k:gx c F F' w w'):w'.heap[g]?=w.heap[g]?:=
 k.mod.block g h.lt fun hh=>hh.elim h.nf fun hh=>hh.elim h.nn fun hh=>hh.elim h.np h.nm
theorem oD.keep {c:qu}{F:Nat->Prop}{w w':World}{g:Nat}(h:oD c F w g)(k:af w w'):oD c F w' g:=⟨auL h.lt k.size,h.nf,h.nn,h.np,h.nm⟩
structure dB {α:Type}(f:α->List Value)(sz:Nat)(t:TypeId)(c:qu)(F:Nat->Prop)(w:World)(v:Value)(l:List α):Prop where
 own:dU f sz t w 0 v l
 side:∀ g,v.ownBlock=some g->oD c F w g
theorem dB.step {α:Type}{f:α->List Value}{sz:Nat}{t:TypeId}{c:qu}{F F':Nat->Prop}{w w':World}{v:Value}{l:List α}(h:dB f sz t c F w v l)(k:gx c F F' w w'):dB f sz t c F' w' v l:=
 ⟨aA h.own fun g hg=>(h.side g hg).same k,fun g hg=>(h.side g hg).step k⟩
theorem dB.keep {α:Type}{f:α->List Value}{sz:Nat}{t:TypeId}{c:qu}{F:Nat->Prop}{w w':World}{v:Value}{l:List α}(h:dB f sz t c F w v l)(k:af w w'):dB f sz t c F w' v l:=
 ⟨il h.own k,fun g hg=>(h.side g hg).keep k⟩
theorem gS {w:World}{a b:Nat}{x y:Array Value}{s t:TypeId}(h:World.blk w a x s)(k:World.blk w b y t)(dW:s≠t):a≠b:=by
 rintro rfl;unfold World.blk at h k;rw[h]at k
 cases k
 exact dW rfl
theorem jn {w:World}{base n sz g b:Nat}{s t:TypeId}{v:Value}{xs:List Value}{c:Array Value}(h:w.ownsRow base s sz v n xs)(hg:v.ownBlock=some g)(k:World.blk w b c t)(dW:s≠t):g≠b:=by
 rcases h.2 with⟨rfl,_⟩|⟨g',cap,dz,rfl,hb,hk,_⟩
 ·cases hg
 ·have e:g'=g:=by simpa[Value.ownBlock]using hg
  subst e;exact gS (x:=dz) hk k dW
theorem qa {w:World}{base n sz:Nat}{t:TypeId}{v:Value}{xs:List Value}(h:w.ownsRow base t sz v n xs):w.ownsRow 0 t sz v n xs:=by
 obtain⟨h1,h2⟩:=h;exact⟨h1,h2.imp id (fun⟨g,cap,dz,e,_,r⟩=>⟨g,cap,dz,e,avk _,r⟩)⟩
def iR (id:Nat):jg:=⟨⟨0,0⟩,⟨0,0⟩,⟨0,0⟩,0,id,[],[],[],[]⟩
def fW (L:List az)(l:List Sn)(q:Nat):List az:=(List.range 8).map fun(p:Nat)=>if p=0\/q<=p\/l.any (fun x=>x.plane==(p:Int))=true then L.getD p []else []
theorem EF {L:List az}(h:L.length=8)(l:List Sn):fW L l 1=L:=by
 apply List.ext_getElem?;intro i;unfold fW;rw[avB];by_cases hi:i<8
 ·rw[avC hi,avD,auI (by omega),avS,auB (by omega)];rfl
 ·rw[avu (by simp;omega),avu (by omega)];rfl
theorem EG (L:List az)(l:List Sn):fW L l 8=kY L l:=by
 unfold fW kY;apply au1;intro p hp;rw[avw]at hp
 congr 1
 apply propext
 constructor
 ·rintro(h|h|h)
  ·exact .inl h
  ·omega
  ·exact .inr h
 ·rintro(h|h)
  ·exact .inl h
  ·exact .inr (.inr h)
theorem Bw (L:List az){l:List Sn}{q:Nat}(h:l.any (fun x=>x.plane==(q:Int))=true):fW L l (q+1)=fW L l q:=by
 unfold fW;apply au1;intro p _;by_cases e:p=q
 ·subst e;rw[auI (.inr (.inr h)),auI (.inr (.inr h))]
 ·congr 1
  apply propext
  constructor
  ·rintro(h|h|h)
   ·exact .inl h
   ·exact .inr (.inl (by omega))
   ·exact .inr (.inr h)
  ·rintro(h|h|h)
   ·exact .inl h
   ·exact .inr (.inl (by omega))
   ·exact .inr (.inr h)
theorem By (L:List az){l:List Sn}{q:Nat}(h1:1<=q)(h8:q<8)(h:l.any (fun x=>x.plane==(q:Int))=false):fW L l (q+1)=(fW L l q).set q []:=by
 apply List.ext_getElem?;intro i;rw[List.getElem?_set];unfold fW;rw[avB,avB,au4,List.length_range];by_cases hi:i<8
 ·rw[avC hi,avD,avD];by_cases e:q=i
  ·subst e;rw[auI rfl,auI h8,auK];rintro(h2|h2|h2)
   ·omega
   ·omega
   ·rw[h]at h2;cases h2
  ·rw[auK e]
   congr 1
   congr 1
   apply propext
   constructor
   ·rintro(h|h|h)
    ·exact .inl h
    ·exact .inr (.inl (by omega))
    ·exact .inr (.inr h)
   ·rintro(h|h|h)
    ·exact .inl h
    ·exact .inr (.inl (by omega))
    ·exact .inr (.inr h)
 ·have e0:(List.range 8)[i]?=none:=avu (by simp;omega);rw[e0,auK (by omega)];rfl
structure dR (a:eF)(w0:World)(c:qu)(eb:Nat)(lv:Value)(list:List Sn)(nodes:List Nt)(rd:Rd)(pool:Pl)(b:jg)(iv sv nv:Value)(inos:List fC)(l2:List Sn)(L:List az)(F:Nat->Prop)(w:World):Prop where
 st:eR c rd pool b iv sv nv L F w
 tw:gx c a.Fv F w0 w
 se:oD c F w eb
 eb:World.blk w eb #[.int .i64 0] 22
 sn:dB gG 4 221 c F w nv nodes
 si:dB jF 5 128 c F w iv inos
 ss:dB oC 5 85 c F w sv l2
 sl:dB oC 5 85 c F w lv list
 sf:∀ g,sv.ownBlock=some g->w0.heap.size<=g
 lf:∀ g,lv.ownBlock=some g->g<w0.heap.size
section
variable {a:eF}{w0 w w':World}{c:qu}{eb:Nat}{lv:Value}{list:List Sn}{nodes:List Nt}{rd KF:Rd}{pool Xt:Pl}{b b':jg}{iv sv nv:Value}{inos:List fC}{l2:List Sn}{L L':List az}{F F':Nat->Prop}
theorem dR.step (h:dR a w0 c eb lv list nodes rd pool b iv sv nv inos l2 L F w)(s:eR c KF Xt b' iv sv nv L' F' w')(k:gx c F F' w w'):dR a w0 c eb lv list nodes KF Xt b' iv sv nv inos l2 L' F' w':=
 ⟨s,h.tw.trans k,h.se.step k,(h.se.same k).trans h.eb,h.sn.step k,h.si.step k,h.ss.step k,h.sl.step k,h.sf,h.lf⟩
theorem dR.keep (h:dR a w0 c eb lv list nodes rd pool b iv sv nv inos l2 L F w)(k:af w w'):dR a w0 c eb lv list nodes rd pool b iv sv nv inos l2 L F w':=
 ⟨h.st.keep k,h.tw.keep k,h.se.keep k,ab k h.eb id,h.sn.keep k,h.si.keep k,h.ss.keep k,h.sl.keep k,h.sf,h.lf⟩
theorem dR.snapped (h:dR a w0 c eb lv list nodes rd pool b iv sv nv inos l2 L F w)(hc:c.Ok){KR:Value}{l3:List Sn}(r:dB oC 5 85 c F w KR l3)(hf:∀ g,KR.ownBlock=some g->w0.heap.size<=g){b':jg}(hb:World.blk w' c.nb (mn b' iv KR c.pm nv) 99)(m:ah (fun g=>g=c.nb) w w'):dR a w0 c eb lv list nodes rd pool b' iv KR nv inos l3 L F w':=by
 have k:=h.st.boxed (b':=b') hc hb m;exact⟨k.1,h.tw.trans k.2,h.se.step k.2,(h.se.same k.2).trans h.eb,h.sn.step k.2,h.si.step k.2,r.step k.2,h.sl.step k.2,hf,h.lf⟩
end
theorem dB.other {α:Type}{f:α->List Value}{sz:Nat}{t:TypeId}{c:qu}{F S:Nat->Prop}{w w':World}{v:Value}{l:List α}(h:dB f sz t c F w v l)(m:ah S w w')(hS:∀ g,v.ownBlock=some g->¬ S g):dB f sz t c F w' v l:=
 ⟨aA h.own fun g hg=>m.block g (aT h.own hg) (hS g hg),fun g hg=>⟨auL (h.side g hg).lt m.size,(h.side g hg).nf,(h.side g hg).nn,(h.side g hg).np,(h.side g hg).nm⟩⟩
structure QV (w0:World)(F:Nat->Prop)(B:Nat)(t:TypeId)(x:Array Value)(w:World):Prop where
 blk:World.blk w B x t
 nf:¬ F B
 new:w0.heap.size<=B
theorem oD.fresh {c:qu}{rd:Rd}{pool:Pl}{b:jg}{iv sv nv:Value}{L:List az}{F:Nat->Prop}{w:World}(h:eR c rd pool b iv sv nv L F w){g:Nat}(hg:w.heap.size<=g){w':World}(hl:g<w'.heap.size):oD c F w' g:=
 ⟨hl,fun hf=>by have:=h.lt hf;omega,fun e=>by have:=ai h.box;omega,fun e=>by have:=ai h.pool.own;omega,fun e=>by have:=ai h.map.own;omega⟩
theorem dR.pushed {a:eF}{w0 w w1 w':World}{c:qu}{eb:Nat}{lv:Value}{list:List Sn}{nodes:List Nt}{rd:Rd}{pool:Pl}{b:jg}{iv sv nv:Value}{inos:List fC}{l2:List Sn}{L:List az}{F:Nat->Prop}(h:dR a w0 c eb lv list nodes rd pool b iv sv nv inos l2 L F w)(hc:c.Ok){v':Value}{x:Sn}(ho:w1.ownsRow 0 85 5 v' (l2.length+1) (l2.flatMap oC++oC x))(hb:v'.ownBlock=sv.ownBlock\/∃ k,v'.ownBlock=some k/\w.heap.size<=k)(m:ah (fun g=>sv.ownBlock=some g) w w1)
  {b':jg} (hx:World.blk w' c.nb (mn b' iv v' c.pm nv) 99) (m2:ah (fun g=>g=c.nb) w1 w'):dR a w0 c eb lv list nodes rd pool b' iv v' nv inos (l2++[x]) L F w':=by
 have hS:∀ g,sv.ownBlock=some g->¬ F g/\g≠c.nb/\g≠c.pb/\g≠c.pm/\g≠c.v:=fun g hg=>⟨(h.ss.side g hg).nf,(h.ss.side g hg).nn,(h.ss.side g hg).np,(h.ss.side g hg).nm,jn h.ss.own hg h.st.own (by decide)⟩
 have st1:=h.st.other m hS;have tw1:=h.tw.fresh m h.sf;have dW:∀ g,lv.ownBlock=some g->¬ sv.ownBlock=some g:=fun g hg hh=>by have:=h.lf g hg;have:=h.sf g hh;omega
 have heb:¬ sv.ownBlock=some eb:=fun e=>jn h.ss.own e h.eb (by decide) rfl;have Fe:dU oC 5 85 w1 0 v' (l2++[x]):=by
  unfold dU;rw[auR,auS];simpa using ho
 have hd:∀(v:Value) (t:TypeId),t≠85->∀ n sz xs,w.ownsRow 0 t sz v n xs->∀ g,v.ownBlock=some g->¬ sv.ownBlock=some g:=fun v t ht n sz xs h1 g hg hh=>by
  rcases h.ss.own.2 with⟨e,_⟩|⟨g',cap,dz,e,_,hk,_⟩
  ·rw[e]at hh;cases hh
  ·rw[e]at hh;have e2:g'=g:=by simpa[Value.ownBlock]using hh
   subst e2;exact jn h1 hg (c:=dz) hk ht rfl
 have rs:dB oC 5 85 c F w1 v' (l2++[x]):=⟨Fe,fun g hg=>by
  rcases hb with e|⟨k,e,hk⟩
  ·rw[e]at hg;have hs:=h.ss.side g hg;exact⟨auL hs.lt m.size,hs.nf,hs.nn,hs.np,hs.nm⟩
  ·rw[e]at hg;injection hg with hg;subst hg;exact oD.fresh h.st hk (aT Fe e)⟩
 have k:=st1.boxed (b':=b') hc hx m2;exact⟨k.1,tw1.trans k.2,oD.step ⟨auL h.se.lt m.size,h.se.nf,h.se.nn,h.se.np,h.se.nm⟩ k.2,ab m2 (ab m h.eb heb) h.se.nn,
  (h.sn.other m (hd nv 221 (by decide) _ _ _ h.sn.own)).step k.2,(h.si.other m (hd iv 128 (by decide) _ _ _ h.si.own)).step k.2,rs.step k.2,(h.sl.other m dW).step k.2,fun g hg=>by
   rcases hb with e|⟨k,e,hk⟩
   ·exact h.sf g (e▸hg)
   ·rw[e]at hg;injection hg with hg;subst hg;exact aux h.tw.mod.size hk,h.lf⟩
theorem dR.erred {a:eF}{w0 w w':World}{c:qu}{eb:Nat}{lv:Value}{list:List Sn}{nodes:List Nt}{rd:Rd}{pool:Pl}{b:jg}{iv sv nv:Value}{inos:List fC}{l2:List Sn}{L:List az}{F:Nat->Prop}(h:dR a w0 c eb lv list nodes rd pool b iv sv nv inos l2 L F w)(hw:w0.heap.size<=eb)(hb:World.blk w' eb #[.int .i64 0] 22)(m:ah (fun g=>g=eb) w w'):dR a w0 c eb lv list nodes rd pool b iv sv nv inos l2 L F w':=
 ⟨h.st.other m (fun g e=>by subst e;exact⟨h.se.nf,h.se.nn,h.se.np,h.se.nm,gS h.eb h.st.own (by decide)⟩),h.tw.fresh m (fun g e=>by subst e;exact hw),⟨auL h.se.lt m.size,h.se.nf,h.se.nn,h.se.np,h.se.nm⟩,hb,
  h.sn.other m (fun g hg e=>jn h.sn.own hg h.eb (by decide) e),h.si.other m (fun g hg e=>jn h.si.own hg h.eb (by decide) e),h.ss.other m (fun g hg e=>jn h.ss.own hg h.eb (by decide) e),h.sl.other m (fun g hg e=>jn h.sl.own hg h.eb (by decide) e),h.sf,h.lf⟩
theorem QW {pv size:Nat}{text:az}{num:Nat}{rd:Rd}{w:World}{F:Nat->Prop}(h:lD pv size text num rd w F)(t2:az)(ht:t2.length<=40)(hn:num<1099511627776):
  Calls prog 140 #[aq pv,aC t2] w fun e w'=>e=.returned (.int .i64 0)/\∃ F',lD pv size t2 (num+1) rd w' F'/\d6 F F' w w':=by
 obtain⟨d,h,hr,hs⟩:=h;refine(DK h t2 ht hn).mono ?_;rintro e w' ⟨rfl,F',h',k⟩;exact⟨rfl,F',⟨_,h',by rw[vN,AQ];exact hr,by rw[qH,dF];exact hs⟩,k⟩
theorem MF (b:jg)(h1:0<=b.table.root/\b.table.root<4096/\0<=b.table.size/\b.table.size<=16384)(h2:0<=b.snaps.root/\b.snaps.root<4096/\0<=b.snaps.size/\b.snaps.size<=16384)(h3:0<=b.mapped.root/\b.mapped.root<4096/\0<=b.mapped.size/\b.mapped.size<=16384)(h4:b.next<=4096)(h5:b.id<=1099511627777)(iv sv nv:Value)(pm nb:Nat)(w:World)(hb:World.blk w nb (mn b iv sv pm nv) 99):
  Calls prog 141 #[aq nb] w fun e w'=>e=.returned (aC (ge b))/\af w w':=by
 have key:=MC b.table.root.toNat b.table.size.toNat b.snaps.root.toNat b.snaps.size.toNat b.mapped.root.toNat b.mapped.size.toNat b.next b.id (by
  intro x hx;simp only[auX,List.not_mem_nil,or_false]at hx;rcases hx with rfl|rfl|rfl|rfl|rfl|rfl|rfl|rfl<;>omega) iv sv (aq pm) nv nb w (by
  rw[Int.toNat_of_nonneg h1.1,Int.toNat_of_nonneg h1.2.2.1,Int.toNat_of_nonneg h2.1,Int.toNat_of_nonneg h2.2.2.1,Int.toNat_of_nonneg h3.1,Int.toNat_of_nonneg h3.2.2.1];exact hb)
 refine key.mono ?_;rintro e w' ⟨rfl,k⟩;refine⟨?_,k⟩;unfold ge yH;simp
theorem MG (b:jg)(h1:0<=b.table.root/\b.table.root<4096/\0<=b.table.size/\b.table.size<=16384)(h2:0<=b.snaps.root/\b.snaps.root<4096/\0<=b.snaps.size/\b.snaps.size<=16384)(h3:0<=b.mapped.root/\b.mapped.root<4096/\0<=b.mapped.size/\b.mapped.size<=16384)(h4:b.next<=4096)(h5:b.id<=1099511627777):(ge b).length<=40:=by
 have e1:=pq h1;have e2:=pq h2;have e3:=pq h3;have e4:=eC 1 b.next (by omega);have e5:=eC 5 b.id (by omega);unfold ge;simp only[auS];omega
theorem dR.commit {a:eF}{w0 w w':World}{c:qu}{eb:Nat}{lv:Value}{list:List Sn}{nodes:List Nt}{rd:Rd}{pool:Pl}{b:jg}{iv sv nv:Value}{inos:List fC}{l2:List Sn}{L:List az}{F F':Nat->Prop}(h:dR a w0 c eb lv list nodes rd pool b iv sv nv inos l2 L F w){t2:az}{n2:Nat}(hv:lD c.pv c.size t2 n2 rd w' F')(k:d6 F F' w w'):dR a w0 { c with text:=t2,num:=n2 } eb lv list nodes rd pool b iv sv nv inos l2 L F' w':=by
 have hn:∀ {g},¬ F g->g<w.heap.size->¬ F' g:=fun hg hl h=>(k.foot _ h).elim hg (fun h2=>by omega);have dg:=h.st;have st:eR { c with text:=t2,num:=n2 } rd pool b iv sv nv L F' w':=⟨hv,dg.pool.mod k.mod dg.fp,ab k.mod dg.box dg.fn,dg.map.mod k.mod dg.fm,ab k.mod dg.own dg.fv,hn dg.fv (ai dg.own),hn dg.fn (ai dg.box),hn dg.fp (ai dg.pool.own),hn dg.fm (ai dg.map.own)⟩
 have ZV:gx c F F' w w':=⟨k.foot,k.mod.mono fun _ _ h=>.inl h⟩
 have tw:=h.tw.trans ZV;have se:=h.se.step ZV;have sn:=h.sn.step ZV;have si:=h.si.step ZV;have ss:=h.ss.step ZV;have sl:=h.sl.step ZV;exact⟨st,⟨tw.foot,tw.mod⟩,⟨se.lt,se.nf,se.nn,se.np,se.nm⟩,(h.se.same ZV).trans h.eb,⟨sn.own,fun g hg=>⟨(sn.side g hg).lt,(sn.side g hg).nf,(sn.side g hg).nn,(sn.side g hg).np,(sn.side g hg).nm⟩⟩,⟨si.own,fun g hg=>⟨(si.side g hg).lt,(si.side g hg).nf,(si.side g hg).nn,(si.side g hg).np,(si.side g hg).nm⟩⟩,⟨ss.own,fun g hg=>⟨(ss.side g hg).lt,(ss.side g hg).nf,(ss.side g hg).nn,(ss.side g hg).np,(ss.side g hg).nm⟩⟩,⟨sl.own,fun g hg=>⟨(sl.side g hg).lt,(sl.side g hg).nf,(sl.side g hg).nn,(sl.side g hg).np,(sl.side g hg).nm⟩⟩,h.sf,h.lf⟩
theorem dR.cleared {a:eF}{w0 w w':World}{c:qu}{eb:Nat}{lv:Value}{list:List Sn}{nodes:List Nt}{rd:Rd}{pool:Pl}{b:jg}{iv sv nv:Value}{inos:List fC}{l2:List Sn}{L L':List az}{F:Nat->Prop}(h:dR a w0 c eb lv list nodes rd pool b iv sv nv inos l2 L F w)(hc:c.Ok)(hp:dy w' c.pm c.n L')(m:ah (fun g=>g=c.pm) w w'):dR a w0 c eb lv list nodes rd pool b iv sv nv inos l2 L' F w':=by
 have k:=h.st.mapped hc hp m;exact h.step k.1 k.2
end
section
open Go.RowKit
theorem YZ {a:eF}{w wc wD wF wZ:World}{p eb:Nat}{v:Vs}{lv:Value}{list:List Sn}{c:qu}{rd:Rd}{pool:Pl}{B7:jg}{iv sv nv:Value}{inos:List fC}{l2:List Sn}{L:List az}{F5 Fl2:Nat->Prop}{d2 dl2:Dk}
  (h0:kg w p v a) (hp:dR a w c eb lv list (ar v.T) rd pool B7 iv sv nv inos l2 L F5 wc) (yt:c.v=p) (N9:c.n=v.blocks) (Cl:w.heap.size<=c.nb) (AK:w.heap.size<=c.pb) (Te:w.heap.size<=c.pm) (VG:w.heap.size=eb)
  (KP:∀ g,iv.ownBlock=some g->w.heap.size<=g) (Wj:∀ g,nv.ownBlock=some g->w.heap.size<=g)
  (hb:World.blk wD p (tH a.pv a.pl B7 iv sv nv c.pm a.pt) 102) (mb:ah (fun g=>g=p) wc wD)
  (Oz:ic wD a.pv d2 (ge B7) (v.num+1) F5) (FB:iw d2=rd) (cK:d2.size/4=v.blocks)
  (hl:le wF a.pl dl2 (v.num+1) [] Fl2) (adI:bG dl2*64=v.half) (Fy:∀ g,Fl2 g->a.Fl g\/wD.heap.size<=g) (ml:ah a.Fl wD wF) (mz:ah (fun g=>g=eb) wF wZ)
  {v':Vs} (hv':v'={ v with rd:=rd,num:=v.num+1,recs:=[],b:={ B7 with inodes:=inos,list:=l2,planes:=L,nodes:=ar v.T } }):
  ∃ a',kg wZ p v' a'/\(a'.text=ge v'.b/\a'.role=a.role)/\(∀ g,a'.foot p g->a.foot p g\/w.heap.size<=g)/\ah (fun g=>g=p\/a.Fv g\/a.Fl g) w wZ:=by
 subst hv';have plt:=ai h0.own;have mD:ah (fun g=>a.Fl g\/g=eb) wD wZ:=(ml.mono (fun _ _ h=>.inl h)).trans mz (fun _ _ h=>.inr h);have fl:∀ g,a.Fl g->g<w.heap.size:=fun g hg=>h0.log.lt g hg;have scd:wc.heap.size<=wD.heap.size:=mb.size;have swc:w.heap.size<=wc.heap.size:=hp.tw.mod.size;have mv:ah (fun g=>g=p\/a.Fv g\/a.Fl g) w wZ:=by
  have m1:ah (fun g=>a.Fv g\/a.Fl g\/g=p) w wc:=hp.tw.mod.mono fun g hg hh=>hh.elim .inl (fun hh=>by rcases hh with e|e|e<;>omega);have m2:=(m1.trans mb (fun g _ e=>.inr (.inr e))).trans mD (fun g hg h=>h.elim (fun h=>.inr (.inl h)) (fun e=>by omega));exact m2.mono fun g _ h=>by rcases h with h|h|h;exact .inr (.inl h);exact .inr (.inr h);exact .inl h
 have cD:∀ g,w.heap.size<=g->g≠eb->g<wc.heap.size->g≠p->wZ.heap[g]?=wc.heap[g]?:=fun g h1 h2 h3 h4=>
  (mD.block g (by omega) (fun h=>h.elim (fun h=>by have:=fl g h;omega) h2)).trans (mb.block g h3 h4)
 have f5:∀ g,F5 g->a.Fv g\/w.heap.size<=g:=hp.tw.foot;have aks:∀ g,F5 g->g<wc.heap.size:=fun g hg=>hp.st.lt hg;have nfl:∀ g,F5 g->¬ a.Fl g:=fun g hg hf=>(f5 g hg).elim (fun h=>h0.apart g h hf) (fun h=>by have:=fl g hf;omega);have bp:=hp.st.own;rw[yt]at bp;have row:∀ {α:Type} {f:α->List Value} {sz:Nat} {t:TypeId} {x:Value} {l:List α},dB f sz t c F5 wc x l->(∀ g,x.ownBlock=some g->w.heap.size<=g)->t≠22->t≠102->dU f sz t wZ 0 x l/\∀ g,x.ownBlock=some g->¬ F5 g/\¬ Fl2 g/\g≠p:=fun hr hf h1 h2=>by
  have dW:∀ g,_->g≠eb:=fun g hg=>jn hr.own hg hp.eb h1;have hnp:∀ g,_->g≠p:=fun g hg=>jn hr.own hg bp h2;refine⟨aA hr.own fun g hg=>cD g (hf g hg) (dW g hg) (aT hr.own hg) (hnp g hg),fun g hg=>⟨(hr.side g hg).nf,fun h=>?_,hnp g hg⟩⟩;rcases Fy g h with h|h
  ·have:=fl g h;have:=hf g hg;omega
  ·have:=aT hr.own hg;omega
 have ri:=row hp.si KP (by decide) (by decide);have rs:=row hp.ss hp.sf (by decide) (by decide);have rn:=row hp.sn Wj (by decide) (by decide);have npm:c.pm≠p:=fun e=>by omega
 have role:∀ b,a.role b≠.none->b<w.heap.size/\¬ a.Fv b/\¬ a.Fl b/\b≠p:=fun b hb=>by
  have h1:=h0.lt (b:=b) (.inr (.inr (.inr (.inr (.inl hb)))));exact⟨h1,h0.stays b (.inr (.inl hb))⟩
 refine⟨{ a with pm:=c.pm,iv:=iv,sv:=sv,nv:=nv,d:=d2,dl:=dl2,text:=ge B7,Fv:=F5,Fl:=Fl2 },⟨?_,?_,FB,cK,?_,adI,ri.1,rs.1,rn.1,?_,?_,h0.wf,?_,?_,?_,?_⟩,⟨rfl,rfl⟩,?_,mv⟩
 ·exact ab mD hb (fun h=>h.elim h0.nl (fun e=>by omega))
 ·exact Oz.same (mD.on fun g hg h=>h.elim (nfl g hg) (fun e=>hp.se.nf (e▸hg))) mD.size
 ·refine hl.same (mz.on fun g hg e=>?_) mz.size;subst e;rcases Fy _ hg with h|h
  ·have:=fl _ h;omega
  ·have:=hp.se.lt;omega
 ·have hm:=hp.st.map;rw[N9]at hm;exact⟨(cD c.pm Te (fun e=>hp.se.nm e.symm) (ai hm.own) npm).trans hm.own,hm.many,hm.eight,hm.short⟩
 ·obtain⟨tb,A,M,ht⟩:=h0.tree;exact⟨tb,A,M,ht.same (mv.on fun g hg h=>by
   have:=role g hg;rcases h with h|h|h
   ·exact this.2.2.2 h
   ·exact this.2.1 h
   ·exact this.2.2.1 h) mv.size⟩
 ·exact fun b hb h=>(Fy b h).elim (nfl b hb) (fun h=>by have:=aks b hb;omega)
 ·show ¬ F5 p;rw[<-yt];exact hp.st.fv
 ·exact fun h=>(Fy p h).elim h0.nl (fun h=>by omega)
 ·intro b hb;rcases hb with hb|hb|hb|hb|hb
  ·obtain rfl:b=c.pm:=hb;refine⟨hp.st.fm,fun h=>?_,npm⟩;rcases Fy c.pm h with h|h
   ·have:=fl c.pm h;omega
   ·have:=ai hp.st.map.own;omega
  ·obtain⟨h1,h2,h3,h4⟩:=role b hb;exact⟨fun h=>(f5 b h).elim h2 (fun h=>by omega),fun h=>(Fy b h).elim h3 (fun h=>by omega),h4⟩
  ·exact ri.2 b hb
  ·exact rs.2 b hb
  ·exact rn.2 b hb
 ·intro g hg;rcases hg with hg|hg|hg|hg|hg|hg|hg|hg
  ·exact .inl (.inl hg)
  ·exact(f5 g hg).imp (fun h=>.inr (.inl h)) id
  ·exact(Fy g hg).imp (fun h=>.inr (.inr (.inl h))) (fun h=>by omega)
  ·exact .inr (by rw[show g=c.pm from hg];exact Te)
  ·exact .inl (.inr (.inr (.inr (.inr (.inl hg)))))
  ·exact .inr (KP g hg)
  ·exact .inr (hp.sf g hg)
  ·exact .inr (Wj g hg)
end
end Go.Proofs.YtkghpdcloaiflaaGreatDoor
