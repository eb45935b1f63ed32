import Derived.Test.YtkghpdcloaiflaaGreatDoorH33
set_option maxHeartbeats 8000000
set_option maxRecDepth 100000
namespace Go.Proofs.YtkghpdcloaiflaaGreatDoor
open _root_.Go.Proofs.Tryz
variable {W1 w w':World}{b p pm:Nat}{nv:Value}
section
open Go.RowKit
attribute [local go_sem] av0
structure Am (w:World)(p:Nat)(v:Vs)(a:eX)(lv:Value)(list:List Sn):Prop where
 st:lc w p v a
 row:dX uj 5 85 w 0 lv list
 frow:∀ g,lv.ownBlock=some g->¬ a.Fv g/\¬ a.Fl g/\g≠p
def V4 (Q:Exit->Act->World->Prop):Exit->Act->World->Prop
 | .ret,a,w=>Q .ret a w
 |_,_,_=>False
theorem BB {P:Program}{c:Code}{Q:Exit->Act->World->Prop}{a:Act}(h:c.wp P (V4 Q) a w):c.wp P Q a w:=
 wp_mono h λe a w hq=>by cases e<;>first|exact hq|exact hq.elim
theorem ES {v:Vs}(h:mw v):(cT v.b.planes).length<=600:=by
 have key:∀(l:List ay) (a:ay),a.length<=512->(∀ s∈l,s.length<=512)->(l.foldl dZ a).length<=512:=by
  intro l
  induction l with
  |nil=>intro a ha _;exact ha
  |cons s l ih=>
   intro a ha hs;exact ih _ (av2 (lA _ _) (by have:=hs s sp7;omega)) λx hx=>hs x (by simp[hx])
 have h1:=key v.b.planes [] sp7 λs hs=>by
  obtain⟨p,hp⟩:=axj hs;have h8:=(awk.1 hp).1;have h9:=h.planes p (by have:=h.eight;omega);rw[axm,hp]at h9;exact pK h9.1 λn hn=>by have:=(h9.2 n hn).2;have:=h.many;omega
 unfold cT;omega
abbrev EU:Array Value:=#[.int .i64 0,.int .i64 0,.int .i64 0,.int .i64 0,.int .i64 0,.int .i64 0,.int .i64 0,.int .i64 0,.slice none 0 0,.slice none 0 0,.pointer none,.slice none 0 0]
theorem lE {t:TypeId}(h:World.blk w b EU t):w.cell? ⟨b,0,none⟩=some (.int .i64 0)/\w.cell? ⟨b,1,none⟩=some (.int .i64 0)/\w.cell? ⟨b,2,none⟩=some (.int .i64 0)/\w.cell? ⟨b,3,none⟩=some (.int .i64 0)/\w.cell? ⟨b,4,none⟩=some (.int .i64 0)/\w.cell? ⟨b,5,none⟩=some (.int .i64 0)/\w.cell? ⟨b,6,none⟩=some (.int .i64 0)/\w.cell? ⟨b,7,none⟩=some (.int .i64 0)/\w.cell? ⟨b,8,none⟩=some (.slice none 0 0)/\w.cell? ⟨b,9,none⟩=some (.slice none 0 0)/\w.cell? ⟨b,10,none⟩=some (.pointer none)/\w.cell? ⟨b,11,none⟩=some (.slice none 0 0)/\w.frozen? ⟨b,0,none⟩=false/\w.frozen? ⟨b,1,none⟩=false/\w.frozen? ⟨b,2,none⟩=false/\w.frozen? ⟨b,3,none⟩=false/\w.frozen? ⟨b,4,none⟩=false/\w.frozen? ⟨b,5,none⟩=false/\w.frozen? ⟨b,6,none⟩=false/\w.frozen? ⟨b,7,none⟩=false/\w.frozen? ⟨b,8,none⟩=false/\w.frozen? ⟨b,9,none⟩=false/\w.frozen? ⟨b,10,none⟩=false/\w.frozen? ⟨b,11,none⟩=false:=
 ⟨aa h 0,aa h 1,aa h 2,aa h 3,aa h 4,aa h 5,aa h 6,aa h 7,aa h 8,aa h 9,aa h 10,aa h 11,ae h ⟨b,0,none⟩ rfl,ae h ⟨b,1,none⟩ rfl,ae h ⟨b,2,none⟩ rfl,ae h ⟨b,3,none⟩ rfl,ae h ⟨b,4,none⟩ rfl,ae h ⟨b,5,none⟩ rfl,ae h ⟨b,6,none⟩ rfl,ae h ⟨b,7,none⟩ rfl,ae h ⟨b,8,none⟩ rfl,ae h ⟨b,9,none⟩ rfl,ae h ⟨b,10,none⟩ rfl,ae h ⟨b,11,none⟩ rfl⟩
theorem XT {t:TypeId}{x0 x1 x2 x3 x4 x5 x6 x7 x8 x9 x10 x11:Value}(h:World.blk w b EU t):
  World.blk ((((((((((((w.setCell ⟨b,0,none⟩ x0).setCell ⟨b,1,none⟩ x1).setCell ⟨b,2,none⟩ x2).setCell ⟨b,3,none⟩ x3).setCell ⟨b,4,none⟩ x4).setCell ⟨b,5,none⟩ x5).setCell ⟨b,6,none⟩ x6).setCell ⟨b,7,none⟩ x7).setCell ⟨b,8,none⟩ x8).setCell ⟨b,9,none⟩ x9).setCell ⟨b,10,none⟩ x10).setCell ⟨b,11,none⟩ x11) b #[x0,x1,x2,x3,x4,x5,x6,x7,x8,x9,x10,x11] t/\ai (λg=>g=b) w ((((((((((((w.setCell ⟨b,0,none⟩ x0).setCell ⟨b,1,none⟩ x1).setCell ⟨b,2,none⟩ x2).setCell ⟨b,3,none⟩ x3).setCell ⟨b,4,none⟩ x4).setCell ⟨b,5,none⟩ x5).setCell ⟨b,6,none⟩ x6).setCell ⟨b,7,none⟩ x7).setCell ⟨b,8,none⟩ x8).setCell ⟨b,9,none⟩ x9).setCell ⟨b,10,none⟩ x10).setCell ⟨b,11,none⟩ x11):=by
 have h1:World.blk (w.setCell ⟨b,0,none⟩ x0) b #[x0,.int .i64 0,.int .i64 0,.int .i64 0,.int .i64 0,.int .i64 0,.int .i64 0,.int .i64 0,.slice none 0 0,.slice none 0 0,.pointer none,.slice none 0 0] t:=ah h 0 x0;have h2:World.blk ((w.setCell ⟨b,0,none⟩ x0).setCell ⟨b,1,none⟩ x1) b #[x0,x1,.int .i64 0,.int .i64 0,.int .i64 0,.int .i64 0,.int .i64 0,.int .i64 0,.slice none 0 0,.slice none 0 0,.pointer none,.slice none 0 0] t:=ah h1 1 x1;have h3:World.blk (((w.setCell ⟨b,0,none⟩ x0).setCell ⟨b,1,none⟩ x1).setCell ⟨b,2,none⟩ x2) b #[x0,x1,x2,.int .i64 0,.int .i64 0,.int .i64 0,.int .i64 0,.int .i64 0,.slice none 0 0,.slice none 0 0,.pointer none,.slice none 0 0] t:=ah h2 2 x2;have h4:World.blk ((((w.setCell ⟨b,0,none⟩ x0).setCell ⟨b,1,none⟩ x1).setCell ⟨b,2,none⟩ x2).setCell ⟨b,3,none⟩ x3) b #[x0,x1,x2,x3,.int .i64 0,.int .i64 0,.int .i64 0,.int .i64 0,.slice none 0 0,.slice none 0 0,.pointer none,.slice none 0 0] t:=ah h3 3 x3;have h5:World.blk (((((w.setCell ⟨b,0,none⟩ x0).setCell ⟨b,1,none⟩ x1).setCell ⟨b,2,none⟩ x2).setCell ⟨b,3,none⟩ x3).setCell ⟨b,4,none⟩ x4) b #[x0,x1,x2,x3,x4,.int .i64 0,.int .i64 0,.int .i64 0,.slice none 0 0,.slice none 0 0,.pointer none,.slice none 0 0] t:=ah h4 4 x4;have h6:World.blk ((((((w.setCell ⟨b,0,none⟩ x0).setCell ⟨b,1,none⟩ x1).setCell ⟨b,2,none⟩ x2).setCell ⟨b,3,none⟩ x3).setCell ⟨b,4,none⟩ x4).setCell ⟨b,5,none⟩ x5) b #[x0,x1,x2,x3,x4,x5,.int .i64 0,.int .i64 0,.slice none 0 0,.slice none 0 0,.pointer none,.slice none 0 0] t:=ah h5 5 x5;have h7:World.blk (((((((w.setCell ⟨b,0,none⟩ x0).setCell ⟨b,1,none⟩ x1).setCell ⟨b,2,none⟩ x2).setCell ⟨b,3,none⟩ x3).setCell ⟨b,4,none⟩ x4).setCell ⟨b,5,none⟩ x5).setCell ⟨b,6,none⟩ x6) b #[x0,x1,x2,x3,x4,x5,x6,.int .i64 0,.slice none 0 0,.slice none 0 0,.pointer none,.slice none 0 0] t:=ah h6 6 x6;have h8:World.blk ((((((((w.setCell ⟨b,0,none⟩ x0).setCell ⟨b,1,none⟩ x1).setCell ⟨b,2,none⟩ x2).setCell ⟨b,3,none⟩ x3).setCell ⟨b,4,none⟩ x4).setCell ⟨b,5,none⟩ x5).setCell ⟨b,6,none⟩ x6).setCell ⟨b,7,none⟩ x7) b #[x0,x1,x2,x3,x4,x5,x6,x7,.slice none 0 0,.slice none 0 0,.pointer none,.slice none 0 0] t:=ah h7 7 x7;have h9:World.blk (((((((((w.setCell ⟨b,0,none⟩ x0).setCell ⟨b,1,none⟩ x1).setCell ⟨b,2,none⟩ x2).setCell ⟨b,3,none⟩ x3).setCell ⟨b,4,none⟩ x4).setCell ⟨b,5,none⟩ x5).setCell ⟨b,6,none⟩ x6).setCell ⟨b,7,none⟩ x7).setCell ⟨b,8,none⟩ x8) b #[x0,x1,x2,x3,x4,x5,x6,x7,x8,.slice none 0 0,.pointer none,.slice none 0 0] t:=ah h8 8 x8;have h10:World.blk ((((((((((w.setCell ⟨b,0,none⟩ x0).setCell ⟨b,1,none⟩ x1).setCell ⟨b,2,none⟩ x2).setCell ⟨b,3,none⟩ x3).setCell ⟨b,4,none⟩ x4).setCell ⟨b,5,none⟩ x5).setCell ⟨b,6,none⟩ x6).setCell ⟨b,7,none⟩ x7).setCell ⟨b,8,none⟩ x8).setCell ⟨b,9,none⟩ x9) b #[x0,x1,x2,x3,x4,x5,x6,x7,x8,x9,.pointer none,.slice none 0 0] t:=ah h9 9 x9;have h11:World.blk (((((((((((w.setCell ⟨b,0,none⟩ x0).setCell ⟨b,1,none⟩ x1).setCell ⟨b,2,none⟩ x2).setCell ⟨b,3,none⟩ x3).setCell ⟨b,4,none⟩ x4).setCell ⟨b,5,none⟩ x5).setCell ⟨b,6,none⟩ x6).setCell ⟨b,7,none⟩ x7).setCell ⟨b,8,none⟩ x8).setCell ⟨b,9,none⟩ x9).setCell ⟨b,10,none⟩ x10) b #[x0,x1,x2,x3,x4,x5,x6,x7,x8,x9,x10,.slice none 0 0] t:=ah h10 10 x10;have h12:World.blk ((((((((((((w.setCell ⟨b,0,none⟩ x0).setCell ⟨b,1,none⟩ x1).setCell ⟨b,2,none⟩ x2).setCell ⟨b,3,none⟩ x3).setCell ⟨b,4,none⟩ x4).setCell ⟨b,5,none⟩ x5).setCell ⟨b,6,none⟩ x6).setCell ⟨b,7,none⟩ x7).setCell ⟨b,8,none⟩ x8).setCell ⟨b,9,none⟩ x9).setCell ⟨b,10,none⟩ x10).setCell ⟨b,11,none⟩ x11) b #[x0,x1,x2,x3,x4,x5,x6,x7,x8,x9,x10,x11] t:=ah h11 11 x11;exact⟨h12,(((((((((((((ai.refl (λg=>g=b) w).setCell (p:=⟨b,0,none⟩) (.inl rfl) x0).setCell (p:=⟨b,1,none⟩) (.inl rfl) x1).setCell (p:=⟨b,2,none⟩) (.inl rfl) x2).setCell (p:=⟨b,3,none⟩) (.inl rfl) x3).setCell (p:=⟨b,4,none⟩) (.inl rfl) x4).setCell (p:=⟨b,5,none⟩) (.inl rfl) x5).setCell (p:=⟨b,6,none⟩) (.inl rfl) x6).setCell (p:=⟨b,7,none⟩) (.inl rfl) x7).setCell (p:=⟨b,8,none⟩) (.inl rfl) x8).setCell (p:=⟨b,9,none⟩) (.inl rfl) x9).setCell (p:=⟨b,10,none⟩) (.inl rfl) x10).setCell (p:=⟨b,11,none⟩) (.inl rfl) x11)⟩
structure IP (W1:World)(eb:Nat)(n:Nat)(L:List ay)(l:List Nt)(om:Option Nat)(on:Option Value)(ob:Option Nat)(w:World):Prop where
 keep:af W1 w
 lt:eb<W1.heap.size
 map:∀ m,om=some m->dp w m n L/\eb<m
 nodes:∀ v,on=some v->dX gt 4 221 w 0 v l/\∀ g,v.ownBlock=some g->eb<g
 box:∀ b,ob=some b->World.blk w b EU 99/\W1.heap.size<=b
section
variable {W1 w:World}{eb n:Nat}{L:List ay}{l:List Nt}{om:Option Nat}{on:Option Value}{ob:Option Nat}
theorem IP.step (h:IP W1 eb n L l om on ob w)(k:af w w'):IP W1 eb n L l om on ob w':=
 ⟨h.keep.keep k,h.lt,λm e=>⟨(h.map m e).1.mod k id,(h.map m e).2⟩,λv e=>⟨gY (h.nodes v e).1 k,(h.nodes v e).2⟩,λb e=>⟨ab k (h.box b e).1 id,(h.box b e).2⟩⟩
theorem IP.alloc (h:IP W1 eb n L l om on none w):IP W1 eb n L l om on (some w.heap.size) (w.alloc (.cells EU 99)):=by
 have h1:=h.step ((ai.refl (λ_=>False) w).alloc (.cells EU 99));exact⟨h1.keep,h1.lt,h1.map,h1.nodes,λb e=>by injection e with e;subst e;exact⟨av _ _ _,h.keep.size⟩⟩
def Rl (W1:World)(eb n:Nat)(L:List ay)(l:List Nt)(id b pm:Nat)(nv:Value)(w:World):Prop:=
 World.blk w b (lU (iI id) (.slice none 0 0) (.slice none 0 0) pm nv) 99/\dp w pm n L/\dX gt 4 221 w 0 nv l/\eb<b/\eb<pm/\(∀ g,nv.ownBlock=some g->eb<g)/\af W1 w
theorem IP.end1 (h:IP W1 eb n L l (some pm) (some nv) ob w)(id:Nat):Rl W1 eb n L l id w.heap.size pm nv (w.alloc (.cells (lU (iI id) (.slice none 0 0) (.slice none 0 0) pm nv) 99)):=by
 have h1:=h.step ((ai.refl (λ_=>False) w).alloc (.cells (lU (iI id) (.slice none 0 0) (.slice none 0 0) pm nv) 99));exact⟨av _ _ _,(h1.map pm rfl).1,(h1.nodes nv rfl).1,awg h.lt h.keep.size,(h1.map pm rfl).2,(h1.nodes nv rfl).2,h1.keep⟩
theorem IP.end2 (h:IP W1 eb n L l (some pm) (some nv) (some b) w)(id:Nat)(hb:World.blk w' b (lU (iI id) (.slice none 0 0) (.slice none 0 0) pm nv) 99)(m:ai (λg=>g=b) w w'):Rl W1 eb n L l id b pm nv w':=by
 obtain⟨b1,b2⟩:=h.box b rfl;obtain⟨m1,m2⟩:=h.map pm rfl;obtain⟨n1,n2⟩:=h.nodes nv rfl;exact⟨hb,m1.mod m (gJ m1.own b1 dc7),aA n1 (λg hg=>m.block g (aX n1 hg) (jb n1 hg b1 dc7)),awg h.lt b2,m2,n2,h.keep.new m b2⟩
end
structure Rm (W1:World)(ob:Option Nat)(w:World):Prop where
 keep:af W1 w
 box:∀ b,ob=some b->World.blk w b #[.string ⟨#[]⟩,.int .i64 0,.int .i64 0,.int .i64 0,.int .i64 0] 85/\W1.heap.size<=b
theorem Rm.step {ob:Option Nat}(h:Rm W1 ob w)(k:af w w'):Rm W1 ob w':=⟨h.keep.keep k,λb e=>⟨ab k (h.box b e).1 id,(h.box b e).2⟩⟩
theorem Rm.alloc (h:Rm W1 none w):Rm W1 (some w.heap.size) (w.alloc (.cells #[.string ⟨#[]⟩,.int .i64 0,.int .i64 0,.int .i64 0,.int .i64 0] 85)):=
 ⟨h.keep.alloc _,λb e=>by injection e with e;subst e;exact⟨av _ _ _,h.keep.size⟩⟩
theorem jc {t:TypeId}(h:World.blk w b #[.string ⟨#[]⟩,.int .i64 0,.int .i64 0,.int .i64 0,.int .i64 0] t):
  w.cell? ⟨b,0,none⟩=some (.string ⟨#[]⟩)/\w.cell? ⟨b,1,none⟩=some (.int .i64 0)/\w.cell? ⟨b,2,none⟩=some (.int .i64 0)/\w.cell? ⟨b,3,none⟩=some (.int .i64 0)/\w.cell? ⟨b,4,none⟩=some (.int .i64 0)/\w.frozen? ⟨b,0,none⟩=false/\w.frozen? ⟨b,1,none⟩=false/\w.frozen? ⟨b,2,none⟩=false/\w.frozen? ⟨b,3,none⟩=false/\w.frozen? ⟨b,4,none⟩=false:=
 ⟨aa h 0,aa h 1,aa h 2,aa h 3,aa h 4,ae h ⟨b,0,none⟩ rfl,ae h ⟨b,1,none⟩ rfl,ae h ⟨b,2,none⟩ rfl,ae h ⟨b,3,none⟩ rfl,ae h ⟨b,4,none⟩ rfl⟩
theorem Rm.end1 (h:Rm W1 none w)(x0 x1 x2 x3 x4:Value):World.blk (w.alloc (.cells #[x0,x1,x2,x3,x4] 85)) w.heap.size #[x0,x1,x2,x3,x4] 85/\W1.heap.size<=w.heap.size/\af W1 (w.alloc (.cells #[x0,x1,x2,x3,x4] 85)):=
 ⟨av _ _ _,h.keep.size,h.keep.alloc _⟩
theorem Rm.end2 (h:Rm W1 (some b) w)(x0 x1 x2 x3 x4:Value):
  World.blk (((((w.setCell ⟨b,0,none⟩ x0).setCell ⟨b,1,none⟩ x1).setCell ⟨b,2,none⟩ x2).setCell ⟨b,3,none⟩ x3).setCell ⟨b,4,none⟩ x4) b #[x0,x1,x2,x3,x4] 85/\W1.heap.size<=b/\af W1 (((((w.setCell ⟨b,0,none⟩ x0).setCell ⟨b,1,none⟩ x1).setCell ⟨b,2,none⟩ x2).setCell ⟨b,3,none⟩ x3).setCell ⟨b,4,none⟩ x4):=by
 obtain⟨hb,hn⟩:=h.box b rfl;exact⟨ah (ah (ah (ah (ah hb 0 x0) 1 x1) 2 x2) 3 x3) 4 x4,hn,((((h.keep.setCell (p:=⟨b,0,none⟩) (.inr hn) _).setCell (p:=⟨b,1,none⟩) (.inr hn) _).setCell (p:=⟨b,2,none⟩) (.inr hn) _).setCell (p:=⟨b,3,none⟩) (.inr hn) _).setCell (p:=⟨b,4,none⟩) (.inr hn) _⟩
def Rn (v:Value)(w:World):Nat:=8-(match (match v with | .pointer (some x)=>w.cell? x|_=>none)with|some v=>(intOf v).toNat|none=>0)
theorem XU {B q:Nat}(h:w.cell? ⟨B,0,none⟩=some (.int .i64 (q:Int))):Rn (.pointer (some ⟨B,0,none⟩)) w=8-q:=by
 unfold Rn;simp only[h,intOf,awH]
theorem Ro {r:fU}{v:Vs}{list:List Sn}{more:ay}(h:EA r v list more)(hv:mw v):r.set2.length<=600:=by
 obtain⟨S,hS⟩:=h.new4;obtain⟨s,e,hl,_⟩:=hS.reached r.set1;have:s=r.set2:=by have:=e.symm.trans h.e5;injection this
 subst this;have:=pK (k:=512) hl λn hn=>by
  have h1:=(h.pset.range n (by rw[iN,hn];rfl)).2;have:=hv.many.2;omega
 omega
theorem adi {t:TypeId}{z0 z1 z2 z3 y0 y1 y2 y3 y4 y5 y6 y7 y8 y9 Te OM:Value}(h:World.blk w p #[z0,z1,y0,y1,y2,y3,y4,y5,y6,y7,y8,y9,Te,OM,z2,z3] t)(x0 x1 x2 x3 x4 x5 x6 x7 x8 x9 x10 x11:Value):
  World.blk ((((((((((((w.setCell ⟨p,2,none⟩ x0).setCell ⟨p,3,none⟩ x1).setCell ⟨p,4,none⟩ x2).setCell ⟨p,5,none⟩ x3).setCell ⟨p,6,none⟩ x4).setCell ⟨p,7,none⟩ x5).setCell ⟨p,8,none⟩ x6).setCell ⟨p,9,none⟩ x7).setCell ⟨p,10,none⟩ x8).setCell ⟨p,11,none⟩ x9).setCell ⟨p,12,none⟩ x10).setCell ⟨p,13,none⟩ x11) p #[z0,z1,x0,x1,x2,x3,x4,x5,x6,x7,x8,x9,x10,x11,z2,z3] t/\ai (λg=>g=p) w ((((((((((((w.setCell ⟨p,2,none⟩ x0).setCell ⟨p,3,none⟩ x1).setCell ⟨p,4,none⟩ x2).setCell ⟨p,5,none⟩ x3).setCell ⟨p,6,none⟩ x4).setCell ⟨p,7,none⟩ x5).setCell ⟨p,8,none⟩ x6).setCell ⟨p,9,none⟩ x7).setCell ⟨p,10,none⟩ x8).setCell ⟨p,11,none⟩ x9).setCell ⟨p,12,none⟩ x10).setCell ⟨p,13,none⟩ x11):=by
 have h1:World.blk (w.setCell ⟨p,2,none⟩ x0) p #[z0,z1,x0,y1,y2,y3,y4,y5,y6,y7,y8,y9,Te,OM,z2,z3] t:=ah h 2 x0;have h2:World.blk ((w.setCell ⟨p,2,none⟩ x0).setCell ⟨p,3,none⟩ x1) p #[z0,z1,x0,x1,y2,y3,y4,y5,y6,y7,y8,y9,Te,OM,z2,z3] t:=ah h1 3 x1;have h3:World.blk (((w.setCell ⟨p,2,none⟩ x0).setCell ⟨p,3,none⟩ x1).setCell ⟨p,4,none⟩ x2) p #[z0,z1,x0,x1,x2,y3,y4,y5,y6,y7,y8,y9,Te,OM,z2,z3] t:=ah h2 4 x2;have h4:World.blk ((((w.setCell ⟨p,2,none⟩ x0).setCell ⟨p,3,none⟩ x1).setCell ⟨p,4,none⟩ x2).setCell ⟨p,5,none⟩ x3) p #[z0,z1,x0,x1,x2,x3,y4,y5,y6,y7,y8,y9,Te,OM,z2,z3] t:=ah h3 5 x3;have h5:World.blk (((((w.setCell ⟨p,2,none⟩ x0).setCell ⟨p,3,none⟩ x1).setCell ⟨p,4,none⟩ x2).setCell ⟨p,5,none⟩ x3).setCell ⟨p,6,none⟩ x4) p #[z0,z1,x0,x1,x2,x3,x4,y5,y6,y7,y8,y9,Te,OM,z2,z3] t:=ah h4 6 x4;have h6:World.blk ((((((w.setCell ⟨p,2,none⟩ x0).setCell ⟨p,3,none⟩ x1).setCell ⟨p,4,none⟩ x2).setCell ⟨p,5,none⟩ x3).setCell ⟨p,6,none⟩ x4).setCell ⟨p,7,none⟩ x5) p #[z0,z1,x0,x1,x2,x3,x4,x5,y6,y7,y8,y9,Te,OM,z2,z3] t:=ah h5 7 x5;have h7:World.blk (((((((w.setCell ⟨p,2,none⟩ x0).setCell ⟨p,3,none⟩ x1).setCell ⟨p,4,none⟩ x2).setCell ⟨p,5,none⟩ x3).setCell ⟨p,6,none⟩ x4).setCell ⟨p,7,none⟩ x5).setCell ⟨p,8,none⟩ x6) p #[z0,z1,x0,x1,x2,x3,x4,x5,x6,y7,y8,y9,Te,OM,z2,z3] t:=ah h6 8 x6;have h8:World.blk ((((((((w.setCell ⟨p,2,none⟩ x0).setCell ⟨p,3,none⟩ x1).setCell ⟨p,4,none⟩ x2).setCell ⟨p,5,none⟩ x3).setCell ⟨p,6,none⟩ x4).setCell ⟨p,7,none⟩ x5).setCell ⟨p,8,none⟩ x6).setCell ⟨p,9,none⟩ x7) p #[z0,z1,x0,x1,x2,x3,x4,x5,x6,x7,y8,y9,Te,OM,z2,z3] t:=ah h7 9 x7;have h9:World.blk (((((((((w.setCell ⟨p,2,none⟩ x0).setCell ⟨p,3,none⟩ x1).setCell ⟨p,4,none⟩ x2).setCell ⟨p,5,none⟩ x3).setCell ⟨p,6,none⟩ x4).setCell ⟨p,7,none⟩ x5).setCell ⟨p,8,none⟩ x6).setCell ⟨p,9,none⟩ x7).setCell ⟨p,10,none⟩ x8) p #[z0,z1,x0,x1,x2,x3,x4,x5,x6,x7,x8,y9,Te,OM,z2,z3] t:=ah h8 10 x8;have h10:World.blk ((((((((((w.setCell ⟨p,2,none⟩ x0).setCell ⟨p,3,none⟩ x1).setCell ⟨p,4,none⟩ x2).setCell ⟨p,5,none⟩ x3).setCell ⟨p,6,none⟩ x4).setCell ⟨p,7,none⟩ x5).setCell ⟨p,8,none⟩ x6).setCell ⟨p,9,none⟩ x7).setCell ⟨p,10,none⟩ x8).setCell ⟨p,11,none⟩ x9) p #[z0,z1,x0,x1,x2,x3,x4,x5,x6,x7,x8,x9,Te,OM,z2,z3] t:=ah h9 11 x9;have h11:World.blk (((((((((((w.setCell ⟨p,2,none⟩ x0).setCell ⟨p,3,none⟩ x1).setCell ⟨p,4,none⟩ x2).setCell ⟨p,5,none⟩ x3).setCell ⟨p,6,none⟩ x4).setCell ⟨p,7,none⟩ x5).setCell ⟨p,8,none⟩ x6).setCell ⟨p,9,none⟩ x7).setCell ⟨p,10,none⟩ x8).setCell ⟨p,11,none⟩ x9).setCell ⟨p,12,none⟩ x10) p #[z0,z1,x0,x1,x2,x3,x4,x5,x6,x7,x8,x9,x10,OM,z2,z3] t:=ah h10 12 x10;have h12:World.blk ((((((((((((w.setCell ⟨p,2,none⟩ x0).setCell ⟨p,3,none⟩ x1).setCell ⟨p,4,none⟩ x2).setCell ⟨p,5,none⟩ x3).setCell ⟨p,6,none⟩ x4).setCell ⟨p,7,none⟩ x5).setCell ⟨p,8,none⟩ x6).setCell ⟨p,9,none⟩ x7).setCell ⟨p,10,none⟩ x8).setCell ⟨p,11,none⟩ x9).setCell ⟨p,12,none⟩ x10).setCell ⟨p,13,none⟩ x11) p #[z0,z1,x0,x1,x2,x3,x4,x5,x6,x7,x8,x9,x10,x11,z2,z3] t:=ah h11 13 x11;exact⟨h12,(((((((((((((ai.refl (λg=>g=p) w).setCell (p:=⟨p,2,none⟩) (.inl rfl) x0).setCell (p:=⟨p,3,none⟩) (.inl rfl) x1).setCell (p:=⟨p,4,none⟩) (.inl rfl) x2).setCell (p:=⟨p,5,none⟩) (.inl rfl) x3).setCell (p:=⟨p,6,none⟩) (.inl rfl) x4).setCell (p:=⟨p,7,none⟩) (.inl rfl) x5).setCell (p:=⟨p,8,none⟩) (.inl rfl) x6).setCell (p:=⟨p,9,none⟩) (.inl rfl) x7).setCell (p:=⟨p,10,none⟩) (.inl rfl) x8).setCell (p:=⟨p,11,none⟩) (.inl rfl) x9).setCell (p:=⟨p,12,none⟩) (.inl rfl) x10).setCell (p:=⟨p,13,none⟩) (.inl rfl) x11)⟩
theorem Wa {pv pl pt:Nat}{b:iX}{iv sv:Value}{t:TypeId}(h:World.blk w p (tq pv pl b iv sv nv pm pt) t)(b':iX)(OY KH nv':Value)(pm':Nat):
  World.blk ((((((((((((w.setCell ⟨p,2,none⟩ (.int .i64 b'.table.root)).setCell ⟨p,3,none⟩ (.int .i64 b'.table.size)).setCell ⟨p,4,none⟩ (.int .i64 b'.snaps.root)).setCell ⟨p,5,none⟩ (.int .i64 b'.snaps.size)).setCell ⟨p,6,none⟩ (.int .i64 b'.mapped.root)).setCell ⟨p,7,none⟩ (.int .i64 b'.mapped.size)).setCell ⟨p,8,none⟩ (.int .i64 (b'.next:Int))).setCell ⟨p,9,none⟩ (.int .i64 (b'.id:Int))).setCell ⟨p,10,none⟩ OY).setCell ⟨p,11,none⟩ KH).setCell ⟨p,12,none⟩ (au pm')).setCell ⟨p,13,none⟩ nv') p (tq pv pl b' OY KH nv' pm' pt) t/\ai (λg=>g=p) w ((((((((((((w.setCell ⟨p,2,none⟩ (.int .i64 b'.table.root)).setCell ⟨p,3,none⟩ (.int .i64 b'.table.size)).setCell ⟨p,4,none⟩ (.int .i64 b'.snaps.root)).setCell ⟨p,5,none⟩ (.int .i64 b'.snaps.size)).setCell ⟨p,6,none⟩ (.int .i64 b'.mapped.root)).setCell ⟨p,7,none⟩ (.int .i64 b'.mapped.size)).setCell ⟨p,8,none⟩ (.int .i64 (b'.next:Int))).setCell ⟨p,9,none⟩ (.int .i64 (b'.id:Int))).setCell ⟨p,10,none⟩ OY).setCell ⟨p,11,none⟩ KH).setCell ⟨p,12,none⟩ (au pm')).setCell ⟨p,13,none⟩ nv'):=
 adi h (.int .i64 b'.table.root) (.int .i64 b'.table.size) (.int .i64 b'.snaps.root) (.int .i64 b'.snaps.size) (.int .i64 b'.mapped.root) (.int .i64 b'.mapped.size) (.int .i64 (b'.next:Int)) (.int .i64 (b'.id:Int)) OY KH (au pm') nv'
theorem IQ {v:Vs}{a:eX}{lv:Value}{list:List Sn}(h:Am w p v a lv list){more:ay}{r:fU}(hr:EA r v list more)(hv:mw v)(hm:fE v list more)(hid:v.b.id<=1099511627777)(iD:v.num<1099511627776):
  Calls prog 64 #[au p,lv,az more] w λe w'=>e=.returned (.int .i64 0)/\∃ a',lc w' p (r.o v list more) a'/\(a'.text=fT (r.o v list more).b/\a'.role=a.role)/\(∀ g,a'.foot p g->a.foot p g\/w.heap.size<=g)/\ai (λg=>g=p\/a.Fv g\/a.Fl g) w w':=by
 obtain⟨H0,HR,HV,Yg,HID,Cv⟩:=K6 h hr hv hm hid iD;clear hid iD;obtain⟨eb,heb⟩:∃ eb,w.heap.size=eb:=⟨_,rfl⟩
 have Xc:=Z heb;have hk1:af w (w.alloc (.cells #[.int .i64 0] 22)):=(ai.refl _ w).alloc _;have he1:World.blk (w.alloc (.cells #[.int .i64 0] 22)) eb #[.int .i64 0] 22:=by rw[<-heb];exact av _ _ _
 obtain⟨cC,Sy⟩:=K2 hk1 he1;clear h hr hv hm hk1 he1
 go_enter_defers func64,ntmps64
 refine BB ?_
 go_upto_region 2 with fail
 try rw[heb]
 obtain⟨W1,UK⟩:∃ W1,w.alloc (.cells #[.int .i64 0] 22)=W1:=⟨_,rfl⟩
 rw[UK]at cC Sy ⊢;have Cs:=H0.st.same (cC.on λ_ _=>id) cC.size;have pR:=Z Cs;have v9:W1.cell? ⟨p,9,none⟩=some (.int .i64 (v.b.id:Int)):=aa Cs.own 9;have v12:W1.cell? ⟨p,12,none⟩=some (au a.pm):=aa Cs.own 12;have v14:W1.cell? ⟨p,14,none⟩=some (au a.pt):=aa Cs.own 14;clear Cs UK heb;go_cut [7]from 16 to 159 (λv7 wx=>∃(nb pm:Nat) (nv:Value),v7=au nb/\Rl W1 eb v.blocks v.b.planes (aw v.T) v.b.id nb pm nv wx)
 case first=>
  have aby:eb<W1.heap.size:=ak Sy.o;have B0:Hid (IP W1 eb v.blocks v.b.planes (aw v.T) none none none W1):=Z ⟨ai.refl _ _,aby,λ_ e=>(by cases e),λ_ e=>(by cases e),λ_ e=>(by cases e)⟩;have CL:Hid (∀ W om on ob,IP W1 eb v.blocks v.b.planes (aw v.T) om on ob W->Calls prog 91 #[au a.pm] W λe w'=>∃ c,e=.returned (au c)/\IP W1 eb v.blocks v.b.planes (aw v.T) (some c) on ob w'):=Z (λW om on ob hB=>by
   refine(wS (pR.map.mod hB.keep id)).mono ?_;rintro e w' ⟨c,rfl,hc,WO,k⟩;have h1:=hB.step k;exact⟨c,rfl,h1.keep,h1.lt,λm e=>by injection e with e;subst e;exact⟨WO,awg (awg hB.lt hB.keep.size) hc⟩,h1.nodes,h1.box⟩)
  have NO:Hid (∀ W om on ob,IP W1 eb v.blocks v.b.planes (aw v.T) om on ob W->Calls prog 125 #[au a.pt] W λe w'=>∃(sa:Option Addr) (cap:Nat),e=.returned (.slice sa (aw v.T).length cap)/\IP W1 eb v.blocks v.b.planes (aw v.T) om (some (.slice sa (aw v.T).length cap)) ob w'):=Z (λW om on ob hB=>by
   obtain⟨tb,A,M,ht⟩:=pR.tree;obtain⟨d,hw⟩:=pR.wf;refine(ti (ht.keep hB.keep) hw).mono ?_;rintro e w' ⟨x,rfl,ho,k⟩;have h1:=hB.step k;obtain⟨sa,cap,rfl,_⟩:=cg fP ho;exact⟨sa,cap,rfl,h1.keep,h1.lt,h1.map,λy e=>by injection e with e;subst e;exact⟨pL ho,λg hg=>awg (awg hB.lt hB.keep.size) (ho.lt g hg).1⟩,h1.box⟩)
  have nR:=ak pR.own;have VC:Hid (∀ W,af W1 W->W.cell? ⟨p,9,none⟩=some (.int .i64 (v.b.id:Int))/\W.cell? ⟨p,12,none⟩=some (au a.pm)/\W.cell? ⟨p,14,none⟩=some (au a.pt)):=Z (λW k=>⟨(k.cell (p:=⟨p,9,none⟩) nR id).trans v9,(k.cell (p:=⟨p,12,none⟩) nR id).trans v12,(k.cell (p:=⟨p,14,none⟩) nR id).trans v14⟩);have HB:=Z ((B0.step ((ai.refl _ W1).drawn (W1.drawn+1))));clear aby B0 nR;refine gC 100 [0,1,2,3,4,5,6,7,8,9,11,12,13,14] 5 (λX=>X.cell? ⟨p,9,none⟩=some (.int .i64 (v.b.id:Int))/\X.cell? ⟨p,12,none⟩=some (au a.pm)/\X.cell? ⟨p,14,none⟩=some (au a.pt)) (λ_=>True) ak7 ak7 (λ_ o _ _ _ h=>by cases o<;>exact h) ?_
  iterate 14 (refine eJ rfl (λL hL=>?_);go_simp;(first|refine hL _ ?_|refine⟨_,λ_ _ _ _=>rfl,hL _ ?_⟩|refine⟨_,λX h1 h2 h3=>by simp only[h1,h2,h3];rfl,hL _ ?_⟩|(trace_state;fail));clear hL L)
  refine gT ?_;refine bo (i:=10) (j:=17) ak7 rfl rfl ?_ ?_ ?_
  ·exact⟨VC.o _ HB.keep,.inr trivial⟩
  ·go_wp2_with fail;refine awi (CL.o _ _ _ _ HB.o) ?_;rintro e wC ⟨pm,rfl,hB⟩;clear HB;have HB:=Z hB;clear hB;go_wp2_with fail;refine bo (i:=15) (j:=17) ak7 rfl rfl ?_ ?_ ?_
   ·exact⟨VC.o _ HB.keep,.inr trivial⟩
   ·go_wp2_with fail;refine awi (NO.o _ _ _ _ HB.o) ?_;rintro e wN ⟨sa,cap,rfl,hB⟩;clear HB;have HB:=Z hB;clear hB;go_wp2_with fail;refine bo (i:=16) (j:=17) ak7 rfl rfl ?_ ?_ ?_
    ·exact⟨VC.o _ HB.keep,.inr trivial⟩
    ·go_wp2_with fail;refine ag (i:=17) ak7 rfl ?_ ?_
     ·exact⟨VC.o _ HB.keep,.inr trivial⟩
     go_wp2_with fail;have nT:=HB;clear HB;have HB:=Z nT.alloc;refine ag (i:=18) ak7 rfl ?_ ?_
     ·exact⟨VC.o _ HB.keep,.inr trivial⟩
     obtain⟨q0,q1,q2,q3,q4,q5,q6,q7,q8,q9,q10,q11,f0,f1,f2,f3,f4,f5,f6,f7,f8,f9,f10,f11⟩:=lE (HB.box _ rfl).1;go_wp2_with fail;clear q0 q1 q2 q3 q4 q5 q6 q7 q8 q9 q10 q11 f0 f1 f2 f3 f4 f5 f6 f7 f8 f9 f10 f11;have HE:=Z (nT.end1 v.b.id);refine aT ⟨VC.o _ HE.2.2.2.2.2.2,.inr trivial⟩ ?_;go_wp2_with fail;go_meet
     case rel=>exact⟨_,_,_,rfl,HE.o⟩
    ·go_wp2_with fail;have nT:=HB;clear HB;have HB:=Z nT.alloc;refine ag (i:=16) ak7 rfl ?_ ?_
     ·exact⟨VC.o _ HB.keep,.inr trivial⟩
     go_wp2_with fail;refine ag (i:=18) ak7 rfl ?_ ?_
     ·exact⟨VC.o _ HB.keep,.inr trivial⟩
     obtain⟨q0,q1,q2,q3,q4,q5,q6,q7,q8,q9,q10,q11,f0,f1,f2,f3,f4,f5,f6,f7,f8,f9,f10,f11⟩:=lE (HB.box _ rfl).1;go_wp2_with fail;clear q0 q1 q2 q3 q4 q5 q6 q7 q8 q9 q10 q11 f0 f1 f2 f3 f4 f5 f6 f7 f8 f9 f10 f11;have HE:=Z (nT.end1 v.b.id);refine aT ⟨VC.o _ HE.2.2.2.2.2.2,.inr trivial⟩ ?_;go_wp2_with fail;go_meet
     case rel=>exact⟨_,_,_,rfl,HE.o⟩
   ·go_wp2_with fail;have nT:=HB;clear HB;have HB:=Z nT.alloc;refine ag (i:=15) ak7 rfl ?_ ?_
    ·exact⟨VC.o _ HB.keep,.inr trivial⟩
    go_wp2_with fail;refine awi (NO.o _ _ _ _ HB.o) ?_;rintro e wN ⟨sa,cap,rfl,hB⟩;clear HB;have HB:=Z hB;clear hB;go_wp2_with fail;refine ag (i:=16) ak7 rfl ?_ ?_
    ·exact⟨VC.o _ HB.keep,.inr trivial⟩
    go_wp2_with fail;refine ag (i:=18) ak7 rfl ?_ ?_
    ·exact⟨VC.o _ HB.keep,.inr trivial⟩
    obtain⟨q0,q1,q2,q3,q4,q5,q6,q7,q8,q9,q10,q11,f0,f1,f2,f3,f4,f5,f6,f7,f8,f9,f10,f11⟩:=lE (HB.box _ rfl).1;go_wp2_with fail;clear q0 q1 q2 q3 q4 q5 q6 q7 q8 q9 q10 q11 f0 f1 f2 f3 f4 f5 f6 f7 f8 f9 f10 f11;have pt:=XT (x0:=.int .i64 0) (x1:=.int .i64 0) (x2:=.int .i64 0) (x3:=.int .i64 0) (x4:=.int .i64 0) (x5:=.int .i64 0) (x6:=.int .i64 0) (x7:=.int .i64 (v.b.id:Int)) (x8:=.slice none 0 0) (x9:=.slice none 0 0) (x10:=au pm) (x11:=.slice sa (aw v.T).length cap) (HB.box _ rfl).1;have HE:=Z (HB.end2 v.b.id pt.1 pt.2);clear pt;refine aT ⟨VC.o _ HE.2.2.2.2.2.2,.inr trivial⟩ ?_;go_wp2_with fail;go_meet
    case rel=>exact⟨_,_,_,rfl,HE.o⟩
  ·go_wp2_with fail;have nT:=HB;clear HB;have HB:=Z nT.alloc;refine ag (i:=10) ak7 rfl ?_ ?_
   ·exact⟨VC.o _ HB.keep,.inr trivial⟩
   go_wp2_with fail;refine awi (CL.o _ _ _ _ HB.o) ?_;rintro e wC ⟨pm,rfl,hB⟩;clear HB;have HB:=Z hB;clear hB;go_wp2_with fail;refine ag (i:=15) ak7 rfl ?_ ?_
   ·exact⟨VC.o _ HB.keep,.inr trivial⟩
   go_wp2_with fail;refine awi (NO.o _ _ _ _ HB.o) ?_;rintro e wN ⟨sa,cap,rfl,hB⟩;clear HB;have HB:=Z hB;clear hB;go_wp2_with fail;refine ag (i:=16) ak7 rfl ?_ ?_
   ·exact⟨VC.o _ HB.keep,.inr trivial⟩
   go_wp2_with fail;refine ag (i:=18) ak7 rfl ?_ ?_
   ·exact⟨VC.o _ HB.keep,.inr trivial⟩
   obtain⟨q0,q1,q2,q3,q4,q5,q6,q7,q8,q9,q10,q11,f0,f1,f2,f3,f4,f5,f6,f7,f8,f9,f10,f11⟩:=lE (HB.box _ rfl).1;go_wp2_with fail;clear q0 q1 q2 q3 q4 q5 q6 q7 q8 q9 q10 q11 f0 f1 f2 f3 f4 f5 f6 f7 f8 f9 f10 f11;have pt:=XT (x0:=.int .i64 0) (x1:=.int .i64 0) (x2:=.int .i64 0) (x3:=.int .i64 0) (x4:=.int .i64 0) (x5:=.int .i64 0) (x6:=.int .i64 0) (x7:=.int .i64 (v.b.id:Int)) (x8:=.slice none 0 0) (x9:=.slice none 0 0) (x10:=au pm) (x11:=.slice sa (aw v.T).length cap) (HB.box _ rfl).1;have HE:=Z (HB.end2 v.b.id pt.1 pt.2);clear pt;refine aT ⟨VC.o _ HE.2.2.2.2.2.2,.inr trivial⟩ ?_;go_wp2_with fail;go_meet
   case rel=>exact⟨_,_,_,rfl,HE.o⟩
 case rest=>
  obtain⟨nb,pm,nv,rfl,rj,eA,zc,FS,Fy,Yd,hk⟩:=hcut;obtain⟨HBX,aep,aa2,HN⟩:=K4 rj eA zc (And.intro FS (And.intro Fy Yd));have HKW:Hid (af w wc):=Z (cC.keep hk);obtain⟨OO,lg⟩:=K2 (ab hk Sy.o id) (pR.same (hk.on λ_ _=>id) hk.size);clear rj eA zc FS Fy Yd hk cC Sy pR v9 v12 v14
  go_upto_region 3 with fail
  go_cut [8]from 16 to 159 (λv8 wx=>∃ pb,v8=au pb/\jK wx pb (gp (cT v.b.planes) v.blocks v.b.next)/\wc.heap.size<=pb/\World.blk wx eb #[.int .i64 0] 22/\ai (λg=>g=eb) wc wx)
  case first=>
   have nR:=ak lg.own;have yD:p≠eb:=λe=>by have:=ak H0.st.own;have:=Xc.o;omega
   have VD:Hid (∀ W,ai (λg=>g=eb) wc W->W.cell? ⟨p,12,none⟩=some (au a.pm)/\W.cell? ⟨p,8,none⟩=some (.int .i64 (v.b.next:Int))):=Z (λW k=>⟨(k.cell (p:=⟨p,12,none⟩) nR yD).trans (aa lg.own 12),(k.cell (p:=⟨p,8,none⟩) nR yD).trans (aa lg.own 8)⟩);have US:Hid (∀ W,af wc W->Calls prog 127 #[au a.pm] W λe w'=>e=.returned (az (cT v.b.planes))/\af W w'):=Z (λW k=>zO (lg.map.mod k id));have BL:Hid (∀ W,af wc W->Calls prog 128 #[au a.pm] W λe w'=>e=.returned (.int .i64 (v.blocks:Int))/\w'=W):=Z (λW k=>gX (lg.map.mod k id));have hub:=ES HV.o;have NE:Hid (∀ W,Calls prog 126 #[.string ⟨(cT v.b.planes).toArray⟩,.int .i64 (v.blocks:Int),.int .i64 (v.b.next:Int)] W λe w'=>∃ b,e=.returned (.tuple #[.pointer (some ⟨b,0,none⟩),.int .i64 0])/\jK w' b (gp (cT v.b.planes) v.blocks v.b.next)/\W.heap.size<=b/\af W w'):=Z (λW=>DS _ _ _ W hub ⟨by have:=HV.many;omega,HV.many.2⟩ HV.next);have Tj:Hid (∀ W,af wc W->W.cell? ⟨eb,0,none⟩=some (.int .i64 0)):=Z (λW k=>aa (ab k OO.o id) 0);have SK:Hid (∀ W,af wc W->W.frozen? ⟨eb,0,none⟩=false):=Z (λW k=>ae (ab k OO.o id) _ rfl);have HK:Hid (af wc { wc with drawn:=wc.drawn+1 }):=Z ((ai.refl _ wc).drawn _);clear nR hub yD;refine gC 100 [0,1,2,3,4,6,7,8,9,10,12,13,14,15,16] 8 (λX=>X.cell? ⟨p,12,none⟩=some (au a.pm)/\X.cell? ⟨p,8,none⟩=some (.int .i64 (v.b.next:Int))) (λ_=>True) ak7 ak7 (λ_ o _ _ _ h=>by cases o<;>exact h) ?_
   iterate 15 (refine eJ rfl (λL hL=>?_);go_simp;(first|refine hL _ ?_|refine⟨_,λ_ _ _=>rfl,hL _ ?_⟩|refine⟨_,λX h1 h2=>by simp only[h1,h2];rfl,hL _ ?_⟩|(trace_state;fail));clear hL L)
   refine gT ?_;refine ag (i:=5) ak7 rfl ?_ ?_
   ·exact⟨VD.o _ (HK.mono (T:=λg=>g=eb) (λ_ _ h=>h.elim)),.inr trivial⟩
   go_wp2_with fail;refine(US.o _ HK.o).mono ?_;rintro e wU ⟨rfl,hk⟩;have HKU:=Z (HK.keep hk);clear HK hk;have HK:=HKU;clear HKU;go_wp2_with fail;refine ag (i:=11) ak7 rfl ?_ ?_
   ·exact⟨VD.o _ (HK.mono (T:=λg=>g=eb) (λ_ _ h=>h.elim)),.inr trivial⟩
   go_wp2_with fail;refine(BL.o _ HK.o).mono ?_;rintro e wL ⟨rfl,rfl⟩;go_wp2_with fail;refine ag (i:=17) ak7 rfl ?_ ?_
   ·exact⟨VD.o _ (HK.mono (T:=λg=>g=eb) (λ_ _ h=>h.elim)),.inr trivial⟩
   go_wp2_with fail;refine(NE.o _).mono ?_;rintro e wN ⟨pb,rfl,N7,nX,hk⟩;obtain⟨HKN,HPA,Cj⟩:=K3 (HK.keep hk) N7 (av2 HK.size nX);clear HK hk N7 nX;have HK:=HKN;clear HKN;go_wp2_with fail;refine ag (i:=18) ak7 rfl ?_ ?_
   ·exact⟨VD.o _ (HK.mono (T:=λg=>g=eb) (λ_ _ h=>h.elim)),.inr trivial⟩
   go_wp2_with fail;refine bo (i:=19) (j:=20) ak7 rfl rfl ?_ ?_ ?_
   ·exact⟨VD.o _ (HK.mono (T:=λg=>g=eb) (λ_ _ h=>h.elim)),.inr trivial⟩
   ·go_wp2_with fail;refine bo (i:=20) (j:=21) ak7 rfl rfl ?_ ?_ ?_
    ·exact⟨VD.o _ (HK.mono (T:=λg=>g=eb) (λ_ _ h=>h.elim)),.inr trivial⟩
    ·go_wp2_with fail;refine ag (i:=21) ak7 rfl ?_ ?_
     ·exact⟨VD.o _ (HK.mono (T:=λg=>g=eb) (λ_ _ h=>h.elim)),.inr trivial⟩
     go_wp2_with fail;refine ag (i:=22) ak7 rfl ?_ ?_
     ·exact⟨VD.o _ (HK.mono (T:=λg=>g=eb) (λ_ _ h=>h.elim)),.inr trivial⟩
     have e0:=Tj.o _ HK.o;have ef:=SK.o _ HK.o;go_wp2_with fail;refine aT ⟨VD.o _ ((HK.mono (T:=λg=>g=eb) (λ_ _ h=>h.elim)).trans ((ai.refl (λg=>g=eb) _).setCell (p:=⟨eb,0,none⟩) (.inl rfl) _) (λ_ _ h=>h)),.inr trivial⟩ ?_;go_wp2_with fail;go_meet
     case rel=>
      have he:=ab HK.o OO.o id;exact⟨_,rfl,HPA.mod ((ai.refl (λg=>g=eb) _).setCell (p:=⟨eb,0,none⟩) (.inl rfl) _) (λe=>by have:=Cj.o;have:=ak OO.o;omega),Cj.o,ah he 0 _,(HK.mono (T:=λg=>g=eb) (λ_ _ h=>h.elim)).trans ((ai.refl (λg=>g=eb) _).setCell (p:=⟨eb,0,none⟩) (.inl rfl) _) (λ_ _ h=>h)⟩
    ·go_wp2_with fail;refine ag (i:=20) ak7 rfl ?_ ?_
     ·exact⟨VD.o _ (HK.mono (T:=λg=>g=eb) (λ_ _ h=>h.elim)),.inr trivial⟩
     go_wp2_with fail;refine ag (i:=22) ak7 rfl ?_ ?_
     ·exact⟨VD.o _ (HK.mono (T:=λg=>g=eb) (λ_ _ h=>h.elim)),.inr trivial⟩
     have e0:=Tj.o _ HK.o;have ef:=SK.o _ HK.o;go_wp2_with fail;refine aT ⟨VD.o _ ((HK.mono (T:=λg=>g=eb) (λ_ _ h=>h.elim)).trans ((ai.refl (λg=>g=eb) _).setCell (p:=⟨eb,0,none⟩) (.inl rfl) _) (λ_ _ h=>h)),.inr trivial⟩ ?_;go_wp2_with fail;go_meet
     case rel=>
      have he:=ab HK.o OO.o id;exact⟨_,rfl,HPA.mod ((ai.refl (λg=>g=eb) _).setCell (p:=⟨eb,0,none⟩) (.inl rfl) _) (λe=>by have:=Cj.o;have:=ak OO.o;omega),Cj.o,ah he 0 _,(HK.mono (T:=λg=>g=eb) (λ_ _ h=>h.elim)).trans ((ai.refl (λg=>g=eb) _).setCell (p:=⟨eb,0,none⟩) (.inl rfl) _) (λ_ _ h=>h)⟩
   ·go_wp2_with fail;refine ag (i:=19) ak7 rfl ?_ ?_
    ·exact⟨VD.o _ (HK.mono (T:=λg=>g=eb) (λ_ _ h=>h.elim)),.inr trivial⟩
    go_wp2_with fail;refine ag (i:=21) ak7 rfl ?_ ?_
    ·exact⟨VD.o _ (HK.mono (T:=λg=>g=eb) (λ_ _ h=>h.elim)),.inr trivial⟩
    go_wp2_with fail;refine ag (i:=22) ak7 rfl ?_ ?_
    ·exact⟨VD.o _ (HK.mono (T:=λg=>g=eb) (λ_ _ h=>h.elim)),.inr trivial⟩
    have e0:=Tj.o _ HK.o;have ef:=SK.o _ HK.o;go_wp2_with fail;refine aT ⟨VD.o _ ((HK.mono (T:=λg=>g=eb) (λ_ _ h=>h.elim)).trans ((ai.refl (λg=>g=eb) _).setCell (p:=⟨eb,0,none⟩) (.inl rfl) _) (λ_ _ h=>h)),.inr trivial⟩ ?_;go_wp2_with fail;go_meet
    case rel=>
     have he:=ab HK.o OO.o id;exact⟨_,rfl,HPA.mod ((ai.refl (λg=>g=eb) _).setCell (p:=⟨eb,0,none⟩) (.inl rfl) _) (λe=>by have:=Cj.o;have:=ak OO.o;omega),Cj.o,ah he 0 _,(HK.mono (T:=λg=>g=eb) (λ_ _ h=>h.elim)).trans ((ai.refl (λg=>g=eb) _).setCell (p:=⟨eb,0,none⟩) (.inl rfl) _) (λ_ _ h=>h)⟩
  case rest=>
   obtain⟨pb,rfl,N7,nX,he,uZ⟩:=hcut;have cJ:=uZ.size;have HKX:Hid (af w wc):=Z (HKW.new uZ (by rw[Xc.o];exact av9 _));have nbe:nb≠eb:=λe=>by have:=HN.1;omega
   have pme:pm≠eb:=λe=>by have:=HN.2.1;omega
   have rj:=ab uZ HBX.o nbe;have eA:=aep.mod uZ pme;have zc:dX gt 4 221 wc 0 nv (aw v.T):=aA aa2.o λg hg=>uZ.block g (aX aa2.o hg) (λe=>by have:=HN.2.2 g hg;omega);have hx:=H0.st.same (HKX.on λ_ _=>id) HKX.size;obtain⟨c,hc⟩:∃ c:qj,(⟨a.pv,a.d.size,a.text,v.num,p,nb,pb,pm,v.blocks,tq a.pv a.pl v.b a.iv a.sv a.nv a.pm a.pt⟩:qj)=c:=⟨_,rfl⟩
   have afm:c.Ok:=by
    rw[<-hc];exact⟨rfl,gJ hx.own rj dc7,gJ hx.own N7.own dc7,gJ hx.own eA.own dc7,gJ rj N7.own dc7,gJ rj eA.own dc7,gJ N7.own eA.own dc7,H0.st.size,HV.many⟩
   have TA:∀ g,a.Fv g->g<eb:=λg hg=>by rw[<-Xc.o];exact H0.st.vol.lt g hg
   have dh:eO c v.rd (gp (cT v.b.planes) v.blocks v.b.next) (iI v.b.id) (.slice none 0 0) (.slice none 0 0) nv v.b.planes a.Fv wc:=by
    rw[<-hc];exact⟨⟨a.d,hx.vol,hx.rd,rfl⟩,N7,rj,eA,hx.own,hx.nv,λ(h:a.Fv nb)=>by have:=TA nb h;have:=HN.1;omega,λ(h:a.Fv pb)=>by have:=TA pb h;have:=HKX.size;have:=HKW.size;have:=Xc.o;omega,λ(h:a.Fv pm)=>by have:=TA pm h;have:=HN.2.1;omega⟩
   have jm:ga c a.Fv a.Fv w wc:=⟨λ_ h=>.inl h,HKX.mono λ_ _ h=>h.elim⟩
   have hse:nZ c a.Fv wc eb:=by
    rw[<-hc];exact⟨ak he,λh=>by have:=TA _ h;omega,gJ he rj dc7,gJ he N7.own dc7,gJ he eA.own dc7⟩
   have Jo:du gt 4 221 c a.Fv wc nv (aw v.T):=by
    rw[<-hc];exact⟨zc,λg hg=>⟨aX zc hg,λh=>by have:=TA _ h;have:=HN.2.2 g hg;omega,jb zc hg rj dc7,jb zc hg N7.own dc7,jb zc hg eA.own dc7⟩⟩
   have ym:c.v=p:=by rw[<-hc]
   have Uv:c.nb=nb:=by rw[<-hc]
   have hcp:c.pb=pb:=by rw[<-hc]
   have CA:c.pm=pm:=by rw[<-hc]
   have WQ:c.n=v.blocks:=by rw[<-hc]
   have hold:∀ g,g<w.heap.size->g≠nb/\g≠pb/\g≠pm:=λg hg=>by
    have h1:=HN.1;have h2:=HN.2.1;have h3:=Xc.o;have h4:=HKW.size;exact⟨by omega,J,J⟩
   have hly:XS c v.b.inodes v.b.table (aw v.T) a.iv nv a.Fv wc:=by
    refine⟨by rw[<-hc];rfl,by rw[<-hc];rfl,by rw[<-hc];rfl,hx.inos,zc,λg hg=>?_,λg hg=>⟨(Jo.side g hg).nf,(Jo.side g hg).nn,(Jo.side g hg).np,(Jo.side g hg).nm⟩⟩;have h1:=dY H0.st.inos hg;have h2:=hold g h1;exact⟨(H0.st.stays g (.inr (.inr (.inl hg)))).1,by rw[Uv];exact h2.1,by rw[hcp];exact h2.2.1,by rw[CA];exact h2.2.2⟩
   obtain⟨Hc,Gi,uM,yW,JL,HSN,HLY,HE3,N8⟩:=K9 hc afm dh jm hse Jo hly he hold;have XC:=Z (And.intro ym (And.intro Uv (And.intro hcp (And.intro CA WQ))));rw[<-ym,<-Uv,<-hcp];clear rj eA zc hx afm TA dh jm hse Jo hly he hold N7 nX uZ cJ nbe pme hc ym Uv hcp CA WQ HBX aep aa2 HKW OO lg;have e0:wc.cell? ⟨eb,0,none⟩=some (.int .i64 0):=aa HE3.o 0;have MU:=Z mF;obtain⟨A,B,Ss,own,yn,j3,Ub,_⟩:=HV.here;have XD:=Ub.len;have iD:=Ub.nums;have abj:=HV.nodes;have aaJ:=HV.told.toNodesOk;have LY:=Z (Ri Gi.o uM.o HLY.o (show(gp (cT v.b.planes) v.blocks v.b.next).blocks=c.n from XC.2.2.2.2.symm) (by have:=abj.many;omega) aaJ.many (λy hy=>by
    have h1:y.num∈v.b.inodes.map (·.num):=List.mem_map_of_mem hy;rw[iD]at h1;obtain⟨x,hx,e⟩:=awB.1 h1;have:=ja abj.nums x hx;rw[<-e];omega) (λx hx=>by have:=ja aaJ.nums x hx;omega) HR.lay HR.e1 HR.inok HR.inlen HR.old2 HR.e2 HR.new2 HR.e3)
   clear Ub XD iD abj aaJ;go_wp2_with fail;refine(MU.o _).mono ?_;rintro e w5 ⟨rfl,rfl⟩;go_wp2_with fail;refine LY.mono ?_;rintro e w6 ⟨rfl,F1,iv,dh,jm,Ku,agO⟩;have hpn:∀ g,iv.ownBlock=some g->nZ c F1 w6 g:=λg hg=>by
    have h1:=(Ku.lt g hg).1;have h2:=ak uM.box;have h3:=ak uM.pool.own;have h4:=ak uM.map.own;exact⟨aX Ku hg,agO g hg,J,J,J⟩
   have ajV:Hid (∀ g,iv.ownBlock=some g->w.heap.size<=g):=Z (λg hg=>av2 HKX.size (Ku.lt g hg).1);obtain⟨abA,Oe,afz⟩:=K3 dh (yW.trans jm) (JL.step jm);have HE4:Hid (World.blk w6 eb #[.int .i64 0] 22):=Z ((JL.same jm).trans HE3.o);have afI:=Z (HSN.step jm);have aeq:Hid (du jA 5 128 c F1 w6 iv r.inos):=Z ⟨pL Ku,hpn⟩;have iA:dX uj 5 85 w6 0 lv list:=aA H0.row λg hg=>by
    have h1:=aX H0.row hg;have h2:=N8.o g h1;have h3:=XC.o;exact Oe.mod.block g h1 (λhh=>hh.elim (H0.frow g hg).1 (λhh=>hh.elim (λe=>h2.1 (by rw[e,h3.2.1])) (λhh=>hh.elim (λe=>h2.2.1 (by rw[e,h3.2.2.1])) (λe=>h2.2.2 (by rw[e,h3.2.2.2.1])))))
   obtain⟨CS,afN⟩:=K2 (oW lv list w6 iA (by have:=Yg.sub.length_le;have:=HV.list.many;omega)) iA;clear dh jm Ku agO hpn iA uM yW JL HSN HLY HE3 LY e0;go_wp2_with fail;refine CS.mono ?_;rintro e w7 ⟨sv,rfl,hsv,k7⟩;obtain⟨sa,pW,rfl,_⟩:=cg jk hsv;have Sh:∀ g,lv.ownBlock=some g->nZ c F1 w6 g:=λg hg=>by
    have h1:=aX H0.row hg;have h2:=N8.o g h1;have h3:=XC.o;exact⟨awg h1 Oe.mod.size,λhf=>(Oe.foot g hf).elim (H0.frow g hg).1 (λh4=>J),by rw[h3.2.1];exact h2.1,by rw[h3.2.2.1];exact h2.2.1,by rw[h3.2.2.2.1];exact h2.2.2⟩
   have Tl:du uj 5 85 c F1 w7 (.slice sa list.length pW) list:=⟨pL hsv,λg hg=>nZ.fresh abA.o (hsv.lt g hg).1 (aX hsv hg)⟩
   have TR:=abA.keep k7;have aeu:Hid (dH a w c eb lv list (aw v.T) r.t2.rd r.t2.pool { iI v.b.id with table:=r.table } iv (.slice none 0 0) nv r.inos [] v.b.planes F1 w7):=Z ⟨TR,Oe.keep k7,afz.keep k7,ab k7 HE4.o id,afI.keep k7,aeq.keep k7,⟨World.ownsRow_nil _ _ _ _,(λg hg=>by cases hg)⟩,⟨gY afN.o k7,λg hg=>(Sh g hg).keep k7⟩,(λg hg=>by cases hg),λg hg=>aX H0.row hg⟩;have n9:w7.cell? ⟨c.nb,9,none⟩=some (.slice none 0 0):=aa TR.box 9;have f9:=ae TR.box ⟨c.nb,9,none⟩ rfl;have WI:=Z (aeu.snapped Gi.o Tl (λg hg=>av2 Oe.mod.size (hsv.lt g hg).1) (b':={ iI v.b.id with table:=r.table }) (ah TR.box 9 (.slice sa list.length pW)) ((ai.refl (λg=>g=c.nb) w7).setCell (p:=⟨c.nb,9,none⟩) (.inl rfl) (.slice sa list.length pW)));have Xd:(w7.setCell ⟨c.nb,9,none⟩ (.slice sa list.length pW)).heap.size=w7.heap.size:=by simp
   clear hsv k7 Sh Tl TR aeu CS abA Oe afz HE4 afI aeq afN;have hmf:∀(fn:Fn) (first cap:Array Value) (w:World),(Instr.makeFunc fn first cap).run prog w=.ok (.func fn first cap) w:=λ_ _ _ _=>rfl;go_wp2_with fail;generalize w7.setCell ⟨c.nb,9,none⟩ (.slice sa list.length pW)=w8 at*;rw[<-Xd];clear n9 f9 Xd;have HL8:Hid (v.b.planes.length=8):=Z HV.eight;have HLL:Hid (list.length<=1000):=Z (by have:=Yg.sub.length_le;have:=HV.list.many;omega)
   go_loopw [10] (λv10 wr=>∃(B q:Nat),v10=.pointer (some ⟨B,0,none⟩)/\1<=q/\q<=8/\Hid (Rj w F1 B 3 #[.int .i64 (q:Int)] wr)/\Hid (dH a w c eb lv list (aw v.T) r.t2.rd r.t2.pool { iI v.b.id with table:=r.table } iv (.slice sa list.length pW) nv r.inos list (fQ v.b.planes list q) F1 wr)) Rn
   case atStart=>
    have hk:=(ai.refl (λ_=>False) w8).alloc (.cells #[.int .i64 1] 3);exact⟨w8.heap.size,1,rfl,av9 _,J,Z ⟨av _ _ _,λhf=>by have:=WI.st.lt hf;omega,WI.tw.mod.size⟩,Z (by rw[EP HL8.o];exact WI.keep hk)⟩
   case round=>
    obtain⟨B,q,rfl,h1,h8,HB,HP⟩:=hrel;have cB:wr.cell? ⟨B,0,none⟩=some (.int .i64 (q:Int)):=aa HB.blk 0;have fB:=ae HB.blk ⟨B,0,none⟩ rfl;by_cases hq:q=8
    ·subst hq;rw[ER]at HP;clear WI h1 h8
     go_upto_if 78 with fail
     obtain⟨fe,hfe⟩:∃ fe,(!List.isEmpty more)=fe:=⟨_,rfl⟩
     rw[hfe];have Hfe:=Z hfe;clear hfe;go_cut []from 10 to 159 (λwx=>∃(sb:Option Addr) (sn pW:Nat),dH a w c eb lv list (aw v.T) r.t2.rd r.t2.pool { iI (if more=[]then v.b.id else v.b.id+1)with table:=r.table } iv (.slice sb sn pW) nv r.inos (r.l2 v list more) (r.pl2 v list more) F1 wx)
     case first=>
      cases fe with
      |false=>
       have uZ:more=[]:=by have:=Hfe.o;cases more with|nil=>rfl|cons _ _=>cases this
       have Hmo:=Z uZ;clear uZ;go_wp2_with fail;go_meet
       case rel=>exact⟨sa,list.length,pW,by unfold fU.l2 fU.pl2;rw[awd Hmo.o,awd Hmo.o,awd Hmo.o];exact HP.o⟩
      |true=>
       have uZ:more≠[]:=by have:=Hfe.o;rintro rfl;cases this
       obtain⟨Hmo,HM⟩:=K2 uZ (Yg.more.resolve_left uZ);have n0:wr.cell? ⟨c.nb,0,none⟩=some (.int .i64 r.table.root):=aa HP.st.box 0;have n1:wr.cell? ⟨c.nb,1,none⟩=some (.int .i64 r.table.size):=aa HP.st.box 1;have n7:wr.cell? ⟨c.nb,7,none⟩=some (.int .i64 (v.b.id:Int)):=aa HP.st.box 7;clear uZ cB fB HB
       go_upto_region 15 with fail
       go_cut [11]from 10 to 159 (λv11 wx=>∃ B,v11=.pointer (some ⟨B,0,none⟩)/\World.blk wx B #[az more,.int .i64 (v.b.id:Int),.int .i64 (bf list:Int),.int .i64 r.table.root,.int .i64 r.table.size] 85/\wr.heap.size<=B/\af wr wx)
       case first=>
        have PL:Hid (∀ W,af wr W->Calls prog 134 #[lv] W λe w'=>e=.returned (.int .i64 (bf list:Int))/\af W w'):=Z (λW k=>ME list lv W (fO (cg jk HP.sl.own) k) HM.2.2.2.1);have VC:Hid (∀ W,af wr W->W.cell? ⟨c.nb,7,none⟩=some (.int .i64 (v.b.id:Int))/\W.cell? ⟨c.nb,0,none⟩=some (.int .i64 r.table.root)/\W.cell? ⟨c.nb,1,none⟩=some (.int .i64 r.table.size)):=Z (λW k=>⟨aa (HP.keep k).st.box 7,aa (HP.keep k).st.box 0,aa (HP.keep k).st.box 1⟩);have HB:Hid (Rm wr none { wr with drawn:=wr.drawn+1 }):=Z ⟨(ai.refl _ wr).drawn _,λ_ e=>(by cases e)⟩;refine gC 100 [0,1,2,3,5,6] 4 (λX=>X.cell? ⟨c.nb,7,none⟩=some (.int .i64 (v.b.id:Int))/\X.cell? ⟨c.nb,0,none⟩=some (.int .i64 r.table.root)/\X.cell? ⟨c.nb,1,none⟩=some (.int .i64 r.table.size)) (λ_=>True) ak7 ak7 (λ_ o _ _ _ h=>by cases o<;>exact h) ?_
        iterate 6 (refine eJ rfl (λL hL=>?_);go_simp;(first|refine hL _ ?_|refine⟨_,λ_ _ _ _=>rfl,hL _ ?_⟩|refine⟨_,λX h1 h2 h3=>by simp only[h1,h2];rfl,hL _ ?_⟩|refine⟨.agg #[.int .i64 r.table.root,.int .i64 r.table.size],λX h1 h2 h3=>by(rw[h2];dsimp only[Result.andThen];rw[h3]),hL _ ?_⟩|refine⟨.agg #[.int .i64 r.table.root,.int .i64 r.table.size],λX h1 h2 h3=>by(simp only[h2,h3,Result.andThen]),hL _ ?_⟩|(trace_state;fail));clear hL L)
        refine gT ?_;refine bo (i:=4) (j:=8) ak7 rfl rfl ?_ ?_ ?_
        ·exact⟨VC.o _ HB.keep,.inr trivial⟩
        ·go_wp2_with fail;refine awi (PL.o _ HB.keep) ?_;rintro e wC ⟨rfl,kC⟩;have Tv:=Z (HB.step kC);clear HB kC;have HB:=Tv;clear Tv;go_wp2_with fail;refine bo (i:=7) (j:=8) ak7 rfl rfl ?_ ?_ ?_
         ·exact⟨VC.o _ HB.keep,.inr trivial⟩
         ·go_wp2_with fail;refine ag (i:=8) ak7 rfl ?_ ?_
          ·exact⟨VC.o _ HB.keep,.inr trivial⟩
          go_wp2_with fail;have nT:=HB;clear HB;have HB:=Z nT.alloc;refine ag (i:=9) ak7 rfl ?_ ?_
          ·exact⟨VC.o _ HB.keep,.inr trivial⟩
          obtain⟨q0,q1,q2,q3,q4,f0,f1,f2,f3,f4⟩:=jc (HB.box _ rfl).1;go_wp2_with fail;clear q0 q1 q2 q3 q4 f0 f1 f2 f3 f4;have HE:=Z (nT.end1 (az more) (.int .i64 (v.b.id:Int)) (.int .i64 (bf list:Int)) (.int .i64 r.table.root) (.int .i64 r.table.size));refine aT ⟨VC.o _ HE.2.2,.inr trivial⟩ ?_;go_wp2_with fail;go_meet
          case rel=>exact⟨_,rfl,HE.o⟩
         ·go_wp2_with fail;have nT:=HB;clear HB;have HB:=Z nT.alloc;refine ag (i:=7) ak7 rfl ?_ ?_
          ·exact⟨VC.o _ HB.keep,.inr trivial⟩
          go_wp2_with fail;refine ag (i:=9) ak7 rfl ?_ ?_
          ·exact⟨VC.o _ HB.keep,.inr trivial⟩
          obtain⟨q0,q1,q2,q3,q4,f0,f1,f2,f3,f4⟩:=jc (HB.box _ rfl).1;go_wp2_with fail;clear q0 q1 q2 q3 q4 f0 f1 f2 f3 f4;have HE:=Z (nT.end1 (az more) (.int .i64 (v.b.id:Int)) (.int .i64 (bf list:Int)) (.int .i64 r.table.root) (.int .i64 r.table.size));refine aT ⟨VC.o _ HE.2.2,.inr trivial⟩ ?_;go_wp2_with fail;go_meet
          case rel=>exact⟨_,rfl,HE.o⟩
        ·go_wp2_with fail;have nT:=HB;clear HB;have HB:=Z nT.alloc;refine ag (i:=4) ak7 rfl ?_ ?_
         ·exact⟨VC.o _ HB.keep,.inr trivial⟩
         go_wp2_with fail;refine awi (PL.o _ HB.keep) ?_;rintro e wC ⟨rfl,kC⟩;have Tv:=Z (HB.step kC);clear HB kC;have HB:=Tv;clear Tv;go_wp2_with fail;refine ag (i:=7) ak7 rfl ?_ ?_
         ·exact⟨VC.o _ HB.keep,.inr trivial⟩
         go_wp2_with fail;refine ag (i:=9) ak7 rfl ?_ ?_
         ·exact⟨VC.o _ HB.keep,.inr trivial⟩
         obtain⟨q0,q1,q2,q3,q4,f0,f1,f2,f3,f4⟩:=jc (HB.box _ rfl).1;go_wp2_with fail;clear q0 q1 q2 q3 q4 f0 f1 f2 f3 f4;have HE:=Z (HB.end2 (az more) (.int .i64 (v.b.id:Int)) (.int .i64 (bf list:Int)) (.int .i64 r.table.root) (.int .i64 r.table.size));refine aT ⟨VC.o _ HE.2.2,.inr trivial⟩ ?_;go_wp2_with fail;go_meet
         case rel=>exact⟨_,rfl,HE.o⟩
       case rest=>
        obtain⟨B,rfl,akz,j4,hk⟩:=hcut;have yy:World.blk wc B (uj (r.x v list more)).toArray 85:=akz;have hp:=HP.keep hk;obtain⟨Cd,HBn,HXB⟩:=K3 hp j4 yy;have n6:wc.cell? ⟨c.nb,9,none⟩=some (.slice sa list.length pW):=aa hp.st.box 9;have x0:wc.cell? ⟨B,0,none⟩=some (az more):=aa yy 0;have x1:wc.cell? ⟨B,1,none⟩=some (.int .i64 (v.b.id:Int)):=aa yy 1;have x2:wc.cell? ⟨B,2,none⟩=some (.int .i64 (bf list:Int)):=aa yy 2;have x3:wc.cell? ⟨B,3,none⟩=some (.int .i64 r.table.root):=aa yy 3;have x4:wc.cell? ⟨B,4,none⟩=some (.int .i64 r.table.size):=aa yy 4;have nI:=gQ (P:=prog) (ts:=92) (te:=85) underlying92 Ag rfl dc7 0 (.slice sa list.length pW) _ _ wc hp.ss.own (uj (r.x v list more)) rfl (Kj _) (by have:=HM.2.2.2.1;unfold maxLen;omega) (by have:=HM.2.2.2.1;omega) (awP _);obtain⟨v6,w6,r6,Ft,m6,at6,g6,rh,rfl⟩:=nI;have r7:(Builtin.append_ #[92,92] 92 #[.slice sa list.length pW,.slice (some ⟨wc.heap.size,0,none⟩) 1 1]).run prog (wc.alloc (.cells #[az more,.int .i64 (v.b.id:Int),.int .i64 (bf list:Int),.int .i64 r.table.root,.int .i64 r.table.size] 85))=.ok (.slice (some ⟨g6,0,none⟩) (list.length+1) rh) w6:=r6;have HR7:=Z r7;clear r6 r7;have Gm:World.blk w6 c.nb (lU { iI v.b.id with table:=r.table } iv (.slice sa list.length pW) c.pm nv) 99:=ab m6 hp.st.box (λe=>(hp.ss.side _ e).nn rfl);have y6:w6.cell? ⟨c.nb,9,none⟩=some (.slice sa list.length pW):=aa Gm 9;have f6:=ae Gm ⟨c.nb,9,none⟩ rfl;have m7:ai (λg=>g=c.nb) w6 (w6.setCell ⟨c.nb,9,none⟩ (.slice (some ⟨g6,0,none⟩) (list.length+1) rh)):=(ai.refl (λg=>g=c.nb) w6).setCell (p:=⟨c.nb,9,none⟩) (.inl rfl) _;have qs:=hp.pushed Gi.o Ft at6 m6 (b':={ iI v.b.id with table:=r.table }) (ah Gm 9 (.slice (some ⟨g6,0,none⟩) (list.length+1) rh)) m7;have CI:=Z qs;have aaI:B≠c.nb:=gJ yy hp.st.box dc7;have hx7:=aZ (ab m6 yy (λe=>by have:=aX HP.ss.own e;omega)) ⟨c.nb,9,none⟩ aaI (.slice (some ⟨g6,0,none⟩) (list.length+1) rh);obtain⟨HX7,Hbn⟩:=K2 hx7 aaI;clear hx7 aaI;clear hp Gm Ft m6 at6 m7 yy j4 hk qs
        go_upto_region 17 with((at_builtin;refine aB HR7.o rfl rfl rfl rfl ?_))
        generalize w6.setCell ⟨c.nb,9,none⟩ (.slice (some ⟨g6,0,none⟩) (list.length+1) rh)=w7 at*;have n7:w7.cell? ⟨c.nb,7,none⟩=some (.int .i64 (v.b.id:Int)):=aa CI.st.box 7;have f7:=ae CI.st.box ⟨c.nb,7,none⟩ rfl;have hid:(v.b.id:Int)<=1099511627776:=by have:=HM.2.2.2.2;omega
        have aiM:(0:Int)<=(v.b.id:Int):=J
        have hp8:=CI.snapped Gi.o CI.ss CI.sf (b':={ iI (v.b.id+1)with table:=r.table }) (ah CI.st.box 7 (.int .i64 ((v.b.id:Int)+1))) ((ai.refl (λg=>g=c.nb) w7).setCell (p:=⟨c.nb,7,none⟩) (.inl rfl) (.int .i64 ((v.b.id:Int)+1)));have hx8:=aZ HX7.o ⟨c.nb,7,none⟩ Hbn.o (.int .i64 ((v.b.id:Int)+1));obtain⟨sA,HX8⟩:=K2 hp8 hx8;clear hp8 hx8 y6 f6 x0 x1 x2 x3 x4 n6 n0 n1
        go_upto_region 18 with fail
        generalize w7.setCell ⟨c.nb,7,none⟩ (.int .i64 ((v.b.id:Int)+1))=w8' at*;clear n7 f7 hid aiM;have p10:w8'.cell? ⟨c.nb,10,none⟩=some (au c.pm):=aa sA.st.box 10;have q2:w8'.cell? ⟨B,2,none⟩=some (.int .i64 (bf list:Int)):=aa HX8.o 2;have WQ:=XC.2.2.2.2;have Xu:=HV.many;have PP:=Z (wT sA.st.map (bf list) (by have:=(dS HM.2.2.2.1).2.1;omega) r.set1 (by have:=HR.set1.len Xu.2;omega) HR.set1.zero (by rw[WQ];exact uq HR.set1));clear WQ Xu;go_wp2_with fail;refine PP.mono ?_;rintro e w9 ⟨rfl,tI,m9⟩;have pk:=Z (sA.cleared Gi.o tI m9);clear tI m9 PP p10 q2;go_wp2_with fail;refine(MU.o _).mono ?_;rintro e sH ⟨rfl,rfl⟩;go_wp2_with fail;go_meet
        case rel=>exact⟨_,_,_,by unfold fU.l2 fU.pl2;rw[awf Hmo.o,awf Hmo.o,awf Hmo.o];exact pk.o⟩
     case rest=>
      obtain⟨sb,sn,Xx,hp⟩:=hcut;have HP0:=Z hp;have n9:wc.cell? ⟨c.nb,9,none⟩=some (.slice sb sn Xx):=aa hp.st.box 9;have e0:wc.cell? ⟨eb,0,none⟩=some (.int .i64 0):=aa hp.eb 0;have TS:=Z (IL (r.l2 v list more) (.slice sb sn Xx) wc (cg jk hp.ss.own) HR.snok);clear hp HP;have ET:Hid (∀ W',dH a w c eb lv list (aw v.T) r.t2.rd r.t2.pool { iI (if more=[]then v.b.id else v.b.id+1)with table:=r.table } iv (.slice sb sn Xx) nv r.inos (r.l2 v list more) (r.pl2 v list more) F1 W'->dH a w c eb lv list (aw v.T) r.t2.rd r.t2.pool { iI (if more=[]then v.b.id else v.b.id+1)with table:=r.table } iv (.slice sb sn Xx) nv r.inos (r.l2 v list more) (r.pl2 v list more) F1 (W'.setCell ⟨eb,0,none⟩ (.int .i64 0))):=Z (λW' h=>h.erred (by rw[Xc.o];exact av9 _) (ah h.eb 0 _) ((ai.refl (λg=>g=eb) W').setCell (p:=⟨eb,0,none⟩) (.inl rfl) _));go_wp2_with fail;refine TS.mono ?_;rintro e w1 ⟨rfl,k1⟩;have CE:=HP0.keep k1;have Cd:=Z (ET.o _ CE);have e1:w1.cell? ⟨eb,0,none⟩=some (.int .i64 0):=aa CE.eb 0;have f1:=ae CE.eb ⟨eb,0,none⟩ rfl;clear CE k1 n9 e0 HP0 ET TS
      go_upto_region 20 with fail
      generalize w1.setCell ⟨eb,0,none⟩ (.int .i64 0)=w2 at*;clear e1 f1;have e2:w2.cell? ⟨eb,0,none⟩=some (.int .i64 0):=aa Cd.eb 0;go_wp2_with fail;refine(MU.o _).mono ?_;rintro e w3 ⟨rfl,rfl⟩;have s4:w3.cell? ⟨c.v,4,none⟩=some (.int .i64 v.b.snaps.root):=(aa Cd.st.own 4).trans (by rw[<-Hc.o];rfl);have s5:w3.cell? ⟨c.v,5,none⟩=some (.int .i64 v.b.snaps.size):=(aa Cd.st.own 5).trans (by rw[<-Hc.o];rfl);have s0:w3.cell? ⟨c.v,0,none⟩=some (au c.pv):=(aa Cd.st.own 0).trans Gi.cv0;obtain⟨as7,S4,Ym⟩:=HR.old4;have h85:=Gi.many;have h86:=Gi.size;have h87:=XC.2.2.2.2;have SO:=Z (nt Cd.st.vol Cd.st.pool Cd.st.fp (by rw[HR.blocks.2.1,h86,h87]) J c.v s0 Ym (jW (r.l2 v list more)) (by have:=HR.snlen.2;omega) r.snaps r.t3 HR.e4);clear e2 s0 Ym h85 h86 h87;go_wp2_with fail;refine SO.mono ?_;rintro e w4 ⟨he4,F2,hs⟩;obtain rfl:e=.returned (.agg #[.int .i64 r.snaps.root,.int .i64 r.snaps.size]):=he4;have hk:=Cd.st.stored Gi.o hs;have OI:=Cd.step hk.1 hk.2;have n2:w4.cell? ⟨c.nb,2,none⟩=some (.int .i64 0):=aa OI.st.box 2;have n3:w4.cell? ⟨c.nb,3,none⟩=some (.int .i64 0):=aa OI.st.box 3;have f2:=ae OI.st.box ⟨c.nb,2,none⟩ rfl;have f3:=ae OI.st.box ⟨c.nb,3,none⟩ rfl;have hp5:=OI.snapped Gi.o OI.ss OI.sf (b':={ iI (if more=[]then v.b.id else v.b.id+1)with table:=r.table,snaps:=r.snaps }) (ah (ah OI.st.box 2 (.int .i64 r.snaps.root)) 3 (.int .i64 r.snaps.size)) (((ai.refl (λg=>g=c.nb) w4).setCell (p:=⟨c.nb,2,none⟩) (.inl rfl) (.int .i64 r.snaps.root)).setCell (p:=⟨c.nb,3,none⟩) (.inl rfl) (.int .i64 r.snaps.size));have HP5:=Z hp5;clear OI hp5 hk hs SO s4 s5 Cd
      go_upto_region 22 with fail
      generalize (w4.setCell ⟨c.nb,2,none⟩ (.int .i64 r.snaps.root)).setCell ⟨c.nb,3,none⟩ (.int .i64 r.snaps.size)=w5' at*;clear n2 n3 f2 f3;have b2:w5'.cell? ⟨c.nb,2,none⟩=some (.int .i64 r.snaps.root):=aa HP5.st.box 2;have b3:w5'.cell? ⟨c.nb,3,none⟩=some (.int .i64 r.snaps.size):=aa HP5.st.box 3;have s0:w5'.cell? ⟨c.v,0,none⟩=some (au c.pv):=(aa HP5.st.own 0).trans Gi.cv0;obtain⟨S4,Zj⟩:=HR.new4;have oc:r.set1.length<=600:=by have:=HR.set1.len HV.many.2;omega
      obtain⟨AL,H2⟩:=K2 (xA HP5.st.vol c.v s0 r.set1 oc Zj r.set2 HR.e5) (Ro HR.o HV.o);clear s0 Zj oc;go_wp2_with fail;refine AL.mono ?_;rintro e w6' ⟨rfl,F3,hI,hk⟩;have hr:=HP5.st.read hI hk;have HP6:=Z (HP5.step hr.1 hr.2);have WQ:=XC.2.2.2.2;have VM:=Z (MG Gi.o HP6.st (set:=r.set2) (p4:=r.p4) (mapped:=r.mapped) (t5:=r.t5) (by rw[WQ];exact⟨H2.o,HR.house,HR.e6,HR.pset,HR.planes,HR.e7⟩) (by rw[WQ];exact HR.blocks.2.2.1));clear hr hI hk WQ AL b2 b3;go_wp2_with fail;refine VM.mono ?_;rintro e Yh ⟨rfl,F4,dh,jm⟩;have CI:=Z (HP6.step dh jm);clear dh jm VM
      go_upto_region 23 with fail
      have Kx:Hid (∃ B:iX,B={ iI (if more=[]then v.b.id else v.b.id+1)with table:=r.table,snaps:=r.snaps,mapped:=r.mapped,next:=r.p4.next }):=Z ⟨_,rfl⟩;obtain⟨B7,YZ⟩:=Kx.o;have sA:Hid (dH a w c eb lv list (aw v.T) r.t5.rd r.p4 B7 iv (.slice sb sn Xx) nv r.inos (r.l2 v list more) (r.pl3 v list more) F4 Yh):=Z (by rw[YZ];exact CI.o);have RB:Hid ((∀ W,af Yh W->Calls prog 141 #[au c.nb] W λe w'=>e=.returned (az (fT B7))/\af W w')/\(fT B7).length<=40):=Z (by
       have h1:0<=B7.table.root/\B7.table.root<4096/\0<=B7.table.size/\B7.table.size<=16384:=by rw[YZ];obtain⟨S,h⟩:=HR.new2;exact h.small
       have h2:0<=B7.snaps.root/\B7.snaps.root<4096/\0<=B7.snaps.size/\B7.snaps.size<=16384:=by rw[YZ];obtain⟨S,h⟩:=HR.new4;exact h.small
       have h3:0<=B7.mapped.root/\B7.mapped.root<4096/\0<=B7.mapped.size/\B7.mapped.size<=16384:=by rw[YZ];obtain⟨S,h⟩:=HR.new7;exact h.small
       have h4:B7.next<=4096:=by rw[YZ];have:=HR.pools.2.2.2.hi;have:=HR.pools.2.2.2.most;exact av2 ‹r.p4.next<=_› ‹_›
       have h5:B7.id<=1099511627777:=by
        rw[YZ];show(if more=[]then v.b.id else v.b.id+1)<=1099511627777;split
        ·exact HID.o
        ·rename_i eG
         have:=(Yg.more.resolve_left eG).2.2.2.2;omega
       exact⟨λW k=>MJ B7 h1 h2 h3 h4 h5 iv (.slice sb sn Xx) nv c.pm c.nb W (ab k sA.st.box id),MK B7 h1 h2 h3 h4 h5⟩)
      have ajq:=Z YZ;clear YZ CI Kx H2;have iD:c.num<1099511627776:=by rw[<-Hc.o];exact Cv.o
      have s0:Yh.cell? ⟨c.v,0,none⟩=some (au c.pv):=(aa sA.st.own 0).trans Gi.cv0;have CO:Hid (∀ W,af Yh W->Calls prog 140 #[au c.pv,az (fT B7)] W λe w'=>e=.returned (.int .i64 0)/\∃ F',ld c.pv c.size (fT B7) (c.num+1) r.t5.rd w' F'/\dO F4 F' Yh w'):=Z (λW k=>by
       refine(Rk (sA.st.keep k).vol (fT B7) RB.2 iD).mono ?_;rintro e w' ⟨rfl,F',h1,h2⟩;exact⟨rfl,F',h1,(k.mono (T:=F4) (λ_ _ h=>h.elim)).trans h2.mod (λ_ _ h=>h),λg hg=>(h2.foot g hg).imp id (λh=>av2 k.size h)⟩)
      clear iD;go_cut []from 10 to 159 (λwx=>∃ F',ld c.pv c.size (fT B7) (c.num+1) r.t5.rd wx F'/\dO F4 F' Yh wx)
      case first=>
       go_region_with (first
        |(go_at_call 141;refine awi (RB.1 _ ((ai.refl _ Yh).drew)) ?_;rintro e wR ⟨rfl,kR⟩;have HKR:=Z (((ai.refl (λ_=>False) Yh).drew).keep kR);have s1:wR.cell? ⟨c.v,0,none⟩=some (au c.pv):=(aa (sA.st.keep HKR.o).own 0).trans Gi.cv0;clear kR)
        |(go_at_call 140;refine awi (CO.o _ HKR.o) ?_;rintro e wC ⟨rfl,F5,hI,hk⟩;obtain⟨HI5,nD⟩:=K2 hI hk;clear hI hk)
        |(go_at_call 129;refine awi (MU.o _) ?_;rintro e wM ⟨rfl,rfl⟩))
       all_goals (go_wp2_with fail;go_meet)
       all_goals (case rel=>exact⟨_,HI5.o,nD.o⟩)
      case rest=>
       obtain⟨F5,hI5,hK5⟩:=hcut;have pk:=Z (sA.commit hI5 hK5);clear hI5 hK5 s0 CO RB;obtain⟨ia,abm,hie,_⟩:=cg xo pk.si.own;obtain⟨na,Fw,eG,_⟩:=cg fP pk.sn.own;subst hie eG;have sI:Hid (World.blk wc c.v (tq a.pv a.pl v.b a.iv a.sv a.nv a.pm a.pt) 102):=Z (by have:=pk.st.own;rw[<-Hc.o]at this ⊢;exact this);have n0:wc.cell? ⟨c.nb,0,none⟩=some (.int .i64 B7.table.root):=aa pk.st.box 0;have n1:wc.cell? ⟨c.nb,1,none⟩=some (.int .i64 B7.table.size):=aa pk.st.box 1;have n2:wc.cell? ⟨c.nb,2,none⟩=some (.int .i64 B7.snaps.root):=aa pk.st.box 2;have n3:wc.cell? ⟨c.nb,3,none⟩=some (.int .i64 B7.snaps.size):=aa pk.st.box 3;have n4:wc.cell? ⟨c.nb,4,none⟩=some (.int .i64 B7.mapped.root):=aa pk.st.box 4;have n5:wc.cell? ⟨c.nb,5,none⟩=some (.int .i64 B7.mapped.size):=aa pk.st.box 5;have n6:wc.cell? ⟨c.nb,6,none⟩=some (.int .i64 (B7.next:Int)):=aa pk.st.box 6;have n7:wc.cell? ⟨c.nb,7,none⟩=some (.int .i64 (B7.id:Int)):=aa pk.st.box 7;have n8:wc.cell? ⟨c.nb,8,none⟩=some (.slice ia r.inos.length abm):=aa pk.st.box 8;have n9:wc.cell? ⟨c.nb,9,none⟩=some (.slice sb sn Xx):=aa pk.st.box 9;have n10:wc.cell? ⟨c.nb,10,none⟩=some (au c.pm):=aa pk.st.box 10;have n11:wc.cell? ⟨c.nb,11,none⟩=some (.slice na (aw v.T).length Fw):=aa pk.st.box 11;have p2:wc.cell? ⟨c.v,2,none⟩=some (.int .i64 v.b.table.root):=aa sI.o 2;have p3:wc.cell? ⟨c.v,3,none⟩=some (.int .i64 v.b.table.size):=aa sI.o 3;have p4:wc.cell? ⟨c.v,4,none⟩=some (.int .i64 v.b.snaps.root):=aa sI.o 4;have p5:wc.cell? ⟨c.v,5,none⟩=some (.int .i64 v.b.snaps.size):=aa sI.o 5;have p6:wc.cell? ⟨c.v,6,none⟩=some (.int .i64 v.b.mapped.root):=aa sI.o 6;have p7:wc.cell? ⟨c.v,7,none⟩=some (.int .i64 v.b.mapped.size):=aa sI.o 7;have p8:wc.cell? ⟨c.v,8,none⟩=some (.int .i64 (v.b.next:Int)):=aa sI.o 8;have p9:wc.cell? ⟨c.v,9,none⟩=some (.int .i64 (v.b.id:Int)):=aa sI.o 9;have p10:wc.cell? ⟨c.v,10,none⟩=some (a.iv):=aa sI.o 10;have p11:wc.cell? ⟨c.v,11,none⟩=some (a.sv):=aa sI.o 11;have p12:wc.cell? ⟨c.v,12,none⟩=some (au a.pm):=aa sI.o 12;have p13:wc.cell? ⟨c.v,13,none⟩=some (a.nv):=aa sI.o 13;have f2:=ae sI.o ⟨c.v,2,none⟩ rfl;have f3:=ae sI.o ⟨c.v,3,none⟩ rfl;have f4:=ae sI.o ⟨c.v,4,none⟩ rfl;have f5:=ae sI.o ⟨c.v,5,none⟩ rfl;have f6:=ae sI.o ⟨c.v,6,none⟩ rfl;have f7:=ae sI.o ⟨c.v,7,none⟩ rfl;have f8:=ae sI.o ⟨c.v,8,none⟩ rfl;have f9:=ae sI.o ⟨c.v,9,none⟩ rfl;have f10:=ae sI.o ⟨c.v,10,none⟩ rfl;have f11:=ae sI.o ⟨c.v,11,none⟩ rfl;have f12:=ae sI.o ⟨c.v,12,none⟩ rfl;have f13:=ae sI.o ⟨c.v,13,none⟩ rfl;have Cj:=Z (Wa sI.o B7 (.slice ia r.inos.length abm) (.slice sb sn Xx) (.slice na (aw v.T).length Fw) c.pm)
       go_upto_region 25 with fail
       clear n0 n1 n2 n3 n4 n5 n6 n7 n8 n9 n10 n11 p2 f2 p3 f3 p4 f4 p5 f5 p6 f6 p7 f7 p8 f8 p9 f9 p10 f10 p11 f11 p12 f12 p13 f13;generalize ((((((((((((wc.setCell ⟨c.v,2,none⟩ (.int .i64 B7.table.root)).setCell ⟨c.v,3,none⟩ (.int .i64 B7.table.size)).setCell ⟨c.v,4,none⟩ (.int .i64 B7.snaps.root)).setCell ⟨c.v,5,none⟩ (.int .i64 B7.snaps.size)).setCell ⟨c.v,6,none⟩ (.int .i64 B7.mapped.root)).setCell ⟨c.v,7,none⟩ (.int .i64 B7.mapped.size)).setCell ⟨c.v,8,none⟩ (.int .i64 (B7.next:Int))).setCell ⟨c.v,9,none⟩ (.int .i64 (B7.id:Int))).setCell ⟨c.v,10,none⟩ (.slice ia r.inos.length abm)).setCell ⟨c.v,11,none⟩ (.slice sb sn Xx)).setCell ⟨c.v,12,none⟩ (au c.pm)).setCell ⟨c.v,13,none⟩ (.slice na (aw v.T).length Fw))=wD at*;have HVI:Hid (ld c.pv c.size (fT B7) (c.num+1) r.t5.rd wD F5):=Z (pk.st.vol.same (Cj.2.on λg hg e=>pk.st.fv (by rw[<-e];exact hg)) Cj.2.size);have HLO:Hid (kK wD a.pl a.dl v.num v.recs a.Fl):=Z (by
        have h1:=H0.st.log.same (pk.tw.mod.on λg hg hh=>by
         have h2:=H0.st.log.lt g hg;have h3:=N8.o g h2;have h4:=XC.o;rcases hh with hh|hh|hh|hh
         ·exact H0.st.apart g hh hg
         ·exact h3.1 (by rw[hh];exact h4.2.1)
         ·exact h3.2.1 (by rw[hh];exact h4.2.2.1)
         ·exact h3.2.2 (by rw[hh];exact h4.2.2.2.1)) pk.tw.mod.size
        refine h1.same (Cj.2.on λg hg e=>?_) Cj.2.size;have e2:g=p:=by rw[e];exact XC.1
        exact H0.st.nl (e2▸hg))
       have d0:wD.cell? ⟨c.v,0,none⟩=some (au a.pv):=aa Cj.1 0;have d1:wD.cell? ⟨c.v,1,none⟩=some (au a.pl):=aa Cj.1 1;have YK:c.pv=a.pv:=by rw[<-Hc.o]
       have rp:c.num=v.num:=by rw[<-Hc.o]
       rw[YK,rp]at HVI;have HEB:Hid (World.blk wD eb #[.int .i64 0] 22):=Z (ab Cj.2 pk.eb (λe=>gJ pk.eb pk.st.own dc7 e));obtain⟨d2,OJ,Sg,le⟩:=HVI.o;obtain⟨VR,HVA⟩:=K2 (Ls OJ) (And.intro OJ (And.intro Sg le));clear OJ Sg le YK rp HVI;go_wp2_with fail;refine VR.mono ?_;rintro e wE ⟨rfl,m,rfl⟩;have LS:=Z (Il (HLO.same (((ai.refl (λ_=>False) wD).drewN m).on λ_ _=>id) (av9 _)) (v.num+1) J (by have:=Cv.o;omega));go_wp2_with fail;refine LS.mono ?_;rintro e wF ⟨rfl,Fl2,kX,dK⟩;obtain⟨HL2,Ys⟩:=K2 kX dK;have Xj:World.blk wF eb #[.int .i64 0] 22:=ab dK.mod HEB.o (λ(h:a.Fl eb)=>by have:=H0.st.log.lt eb h;have:=Xc.o;omega);have e0:wF.cell? ⟨eb,0,none⟩=some (.int .i64 0):=aa Xj 0;have ef:=ae Xj ⟨eb,0,none⟩ rfl;have HEF:=Z Xj;clear Xj kX dK d0 d1 LS VR;go_wp2_with fail;have aef:=ah HEF.o 0 (.int .i64 0);have HKG:Hid (ai (λg=>g=eb) wF (wF.setCell ⟨eb,0,none⟩ (.int .i64 0))):=Z ((ai.refl (λg=>g=eb) wF).setCell (p:=⟨eb,0,none⟩) (.inl rfl) _);generalize wF.setCell ⟨eb,0,none⟩ (.int .i64 0)=wG at*;clear e0 ef;refine leaves_cons (f:=124) (args:=#[au c.v,au eb]) sp7 (by simp[go_sem]) ?_;refine(MH c.v eb _).mono ?_;rintro e u' wZ ⟨rfl,rfl,kz⟩;have z0:wZ.cell? ⟨eb,0,none⟩=some (.int .i64 0):=aa (ab kz aef id) 0;have HKZ:=Z kz;clear kz aef;simp only[Leaves,settle];refine⟨.int .i64 0,by simp[results,go_sem,z0],rfl,?_⟩;have ym:=XC.o;have hge:∀ x,(∀ g,g<w.heap.size->g≠x)->w.heap.size<=x:=λx hx=>Nat.le_of_not_lt λh=>hx x h rfl;have nX:=Cj.o;have hhf:=H0.st.half;refine ZY (dl2:=eh a.dl (v.num+1) 0) (B7:=B7) (Fl2:=Fl2) H0.st pk.o ym.1 ym.2.2.2.2 (hge _ λg hg=>by show g≠c.nb;rw[ym.2.1];exact(N8.o g hg).1) (hge _ λg hg=>by show g≠c.pb;rw[ym.2.2.1];exact(N8.o g hg).2.1) (hge _ λg hg=>by show g≠c.pm;rw[ym.2.2.2.1];exact(N8.o g hg).2.2) Xc.o ajV.o (λg hg=>by have:=HN.2.2 g hg;have:=Xc.o;omega) (by rw[<-ym.1];exact nX.1) (by rw[<-ym.1];exact nX.2) HVA.1 HVA.2.1 (by rw[HVA.2.2,<-ym.2.2.2.2];exact Gi.size) HL2.o (by rw[<-hhf];unfold bH eh;rw[dx,ft]) Ys.foot (((ai.refl a.Fl wD).drewN m).trans Ys.mod (λ_ _ h=>h)) (HKG.keep HKZ.o) (by rw[ajq.o];rfl)
    ·have hq7:(q:Int)<=7:=J
     have Hq:Hid (q<8):=Z J;have CF:=Z (Ai list lv wr (cg jk HP.sl.own) HLL.o (EL (.inr rfl) wr B q list cB));have EN:Hid (∀ w2,dH a w c eb lv list (aw v.T) r.t2.rd r.t2.pool { iI v.b.id with table:=r.table } iv (.slice sa list.length pW) nv r.inos list (fQ v.b.planes list (q+1)) F1 w2->(∃(B2 q2:Nat),Value.pointer (some ⟨w2.heap.size,0,none⟩)=.pointer (some ⟨B2,0,none⟩)/\1<=q2/\q2<=8/\Hid (Rj w F1 B2 3 #[.int .i64 (q2:Int)] (w2.alloc (.cells #[.int .i64 ((q:Int)+1)] 3)))/\Hid (dH a w c eb lv list (aw v.T) r.t2.rd r.t2.pool { iI v.b.id with table:=r.table } iv (.slice sa list.length pW) nv r.inos list (fQ v.b.planes list q2) F1 (w2.alloc (.cells #[.int .i64 ((q:Int)+1)] 3))))/\Rn (.pointer (some ⟨w2.heap.size,0,none⟩)) (w2.alloc (.cells #[.int .i64 ((q:Int)+1)] 3))<Rn (.pointer (some ⟨B,0,none⟩)) wr):=Z (λw2 h2=>by
      have hk:=(ai.refl (λ_=>False) w2).alloc (.cells #[.int .i64 ((q:Int)+1)] 3);have hn:=av w2 #[.int .i64 ((q:Int)+1)] 3;rw[show((q:Int)+1)=((q+1:Nat):Int) by omega]at hk hn ⊢;refine⟨⟨w2.heap.size,q+1,rfl,J,J,Z ⟨hn,λhf=>by have:=h2.st.lt hf;omega,h2.tw.mod.size⟩,Z (h2.keep hk)⟩,?_⟩;rw[XU cB,XU (aa hn 0)];omega)
     cases ha:list.any (λx=>x.plane==(q:Int))with
     |true=>
      rw[ha]at CF;have hk:=Bz v.b.planes ha;have HA:=Z hk;clear ha hq hk;go_wp2_with fail;refine CF.mono ?_;rintro e w2 ⟨rfl,k2⟩;have fh:=ab k2 HB.blk id;have cB2:w2.cell? ⟨B,0,none⟩=some (.int .i64 (q:Int)):=aa fh 0;have Zc:=Z (HP.keep k2);clear fh k2;go_wp2_with fail;exact EN.o w2 (by rw[HA.o];exact Zc.o)
     |false=>
      rw[ha]at CF;have hk:=BA v.b.planes h1 Hq.o ha;have HA:=Z hk;clear ha hq hk;go_wp2_with fail;refine CF.mono ?_;rintro e w2 ⟨rfl,k2⟩;have fh:=ab k2 HB.blk id;have cB2:w2.cell? ⟨B,0,none⟩=some (.int .i64 (q:Int)):=aa fh 0;have KU:=HP.keep k2;obtain⟨Zc,lJ⟩:=K2 KU (show Rj w F1 B 3 #[.int .i64 (q:Int)] w2 from⟨fh,HB.nf,HB.new⟩);have c10:w2.cell? ⟨c.nb,10,none⟩=some (au c.pm):=aa KU.st.box 10;have PC:=Z (If KU.st.map q Hq.o);clear fh k2 KU;go_wp2_with fail;refine PC.mono ?_;rintro e w3 ⟨rfl,nS,m3⟩;have sK:=ab m3 lJ.blk (gJ lJ.blk Zc.st.map.own dc7);have cB3:w3.cell? ⟨B,0,none⟩=some (.int .i64 (q:Int)):=aa sK 0;have HP3:=Z (Zc.cleared Gi.o nS m3);clear sK m3 nS PC c10;go_wp2_with fail;refine(MU.o _).mono ?_;rintro e w4 ⟨rfl,rfl⟩;go_wp2_with fail;exact EN.o w4 (by rw[HA.o];exact HP3.o)
end
end Go.Proofs.YtkghpdcloaiflaaGreatDoor
