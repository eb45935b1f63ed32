import Derived.Test.YtkghpdcloaiflaaGreatDoorD41
set_option maxHeartbeats 8000000
set_option maxRecDepth 100000
namespace Go.Proofs.YtkghpdcloaiflaaGreatDoor
open _root_.Go.Proofs.Tryz
section
open Go.RowKit
attribute [local go_sem] auG
abbrev hdF (h:Hd):Value:=.agg #[.int .i64 h.id,.int .i64 h.base,.string ⟨h.name.toArray⟩,.int .i64 h.table.root,.int .i64 h.table.size,.int .i64 h.count,.string ⟨h.drop.toArray⟩]
theorem ahL {w:World}{b:Nat}{t:TypeId}{c0 c1 c2 c3 c4 c5 c6:Value}(h:World.blk w b #[c0,c1,c2,c3,c4,c5,c6] t)(x0 x1 x2 x3 x4 x5 x6:Value):
  World.blk (((((((w.setCell ⟨b,0,none⟩ x0).setCell ⟨b,1,none⟩ x1).setCell ⟨b,2,none⟩ x2).setCell ⟨b,3,none⟩ x3).setCell ⟨b,4,none⟩ x4).setCell ⟨b,5,none⟩ x5).setCell ⟨b,6,none⟩ x6) b #[x0,x1,x2,x3,x4,x5,x6] t/\ah (fun g=>g=b) w (((((((w.setCell ⟨b,0,none⟩ x0).setCell ⟨b,1,none⟩ x1).setCell ⟨b,2,none⟩ x2).setCell ⟨b,3,none⟩ x3).setCell ⟨b,4,none⟩ x4).setCell ⟨b,5,none⟩ x5).setCell ⟨b,6,none⟩ x6):=by
 have h1:World.blk (w.setCell ⟨b,0,none⟩ x0) b #[x0,c1,c2,c3,c4,c5,c6] t:=ag h 0 x0;have h2:World.blk ((w.setCell ⟨b,0,none⟩ x0).setCell ⟨b,1,none⟩ x1) b #[x0,x1,c2,c3,c4,c5,c6] t:=ag h1 1 x1;have h3:World.blk (((w.setCell ⟨b,0,none⟩ x0).setCell ⟨b,1,none⟩ x1).setCell ⟨b,2,none⟩ x2) b #[x0,x1,x2,c3,c4,c5,c6] t:=ag h2 2 x2;have h4:World.blk ((((w.setCell ⟨b,0,none⟩ x0).setCell ⟨b,1,none⟩ x1).setCell ⟨b,2,none⟩ x2).setCell ⟨b,3,none⟩ x3) b #[x0,x1,x2,x3,c4,c5,c6] t:=ag h3 3 x3;have h5:World.blk (((((w.setCell ⟨b,0,none⟩ x0).setCell ⟨b,1,none⟩ x1).setCell ⟨b,2,none⟩ x2).setCell ⟨b,3,none⟩ x3).setCell ⟨b,4,none⟩ x4) b #[x0,x1,x2,x3,x4,c5,c6] t:=ag h4 4 x4;have h6:World.blk ((((((w.setCell ⟨b,0,none⟩ x0).setCell ⟨b,1,none⟩ x1).setCell ⟨b,2,none⟩ x2).setCell ⟨b,3,none⟩ x3).setCell ⟨b,4,none⟩ x4).setCell ⟨b,5,none⟩ x5) b #[x0,x1,x2,x3,x4,x5,c6] t:=ag h5 5 x5;have h7:World.blk (((((((w.setCell ⟨b,0,none⟩ x0).setCell ⟨b,1,none⟩ x1).setCell ⟨b,2,none⟩ x2).setCell ⟨b,3,none⟩ x3).setCell ⟨b,4,none⟩ x4).setCell ⟨b,5,none⟩ x5).setCell ⟨b,6,none⟩ x6) b #[x0,x1,x2,x3,x4,x5,x6] t:=ag h6 6 x6;exact⟨h7,((((((((ah.refl (fun g=>g=b) w).setCell (p:=⟨b,0,none⟩) (.inl rfl) x0).setCell (p:=⟨b,1,none⟩) (.inl rfl) x1).setCell (p:=⟨b,2,none⟩) (.inl rfl) x2).setCell (p:=⟨b,3,none⟩) (.inl rfl) x3).setCell (p:=⟨b,4,none⟩) (.inl rfl) x4).setCell (p:=⟨b,5,none⟩) (.inl rfl) x5).setCell (p:=⟨b,6,none⟩) (.inl rfl) x6)⟩
theorem Av {w:World}{base q p:Nat}{h:Hd}{l:List Nat}{lv:Value}(a:rg w base q p h l lv):
  Calls prog 18 #[aq q] w fun e w'=>e=.returned (hdF h)/\af w w':=by
 obtain⟨W,hW⟩:∃ W,w.alloc (.cells #[.int .i64 0,.int .i64 0,.string ⟨#[]⟩,.int .i64 0,.int .i64 0,.int .i64 0,.string ⟨#[]⟩] 44)=W:=⟨_,rfl⟩
 obtain⟨b,hb⟩:∃ b,w.heap.size=b:=⟨_,rfl⟩
 have hk:af w W:=by rw[<-hW];exact(ah.refl _ w).alloc _
 have hz:World.blk W b #[.int .i64 0,.int .i64 0,.string ⟨#[]⟩,.int .i64 0,.int .i64 0,.int .i64 0,.string ⟨#[]⟩] 44:=by rw[<-hW,<-hb];exact aw _ _ _
 have ho:=ab hk a.own id;have c1:W.cell? ⟨q,1,none⟩=some (.int .i64 h.id):=aa ho 1;have c2:W.cell? ⟨q,2,none⟩=some (.int .i64 h.base):=aa ho 2;have c3:W.cell? ⟨q,3,none⟩=some (.string ⟨h.name.toArray⟩):=aa ho 3;have c4:W.cell? ⟨q,4,none⟩=some (.int .i64 h.table.root):=aa ho 4;have c5:W.cell? ⟨q,5,none⟩=some (.int .i64 h.table.size):=aa ho 5;have c6:W.cell? ⟨q,6,none⟩=some (.int .i64 h.count):=aa ho 6;have c7:W.cell? ⟨q,7,none⟩=some (.string ⟨h.drop.toArray⟩):=aa ho 7;have z0:W.cell? ⟨b,0,none⟩=some (.int .i64 0):=aa hz 0;have z1:W.cell? ⟨b,1,none⟩=some (.int .i64 0):=aa hz 1;have z2:W.cell? ⟨b,2,none⟩=some (.string ⟨#[]⟩):=aa hz 2;have z3:W.cell? ⟨b,3,none⟩=some (.int .i64 0):=aa hz 3;have z4:W.cell? ⟨b,4,none⟩=some (.int .i64 0):=aa hz 4;have z5:W.cell? ⟨b,5,none⟩=some (.int .i64 0):=aa hz 5;have z6:W.cell? ⟨b,6,none⟩=some (.string ⟨#[]⟩):=aa hz 6;have f0:=ae hz ⟨b,0,none⟩ rfl;have f1:=ae hz ⟨b,1,none⟩ rfl;have f2:=ae hz ⟨b,2,none⟩ rfl;have f3:=ae hz ⟨b,3,none⟩ rfl;have f4:=ae hz ⟨b,4,none⟩ rfl;have f5:=ae hz ⟨b,5,none⟩ rfl;have f6:=ae hz ⟨b,6,none⟩ rfl;have sE:=ahL hz (.int .i64 h.id) (.int .i64 h.base) (.string ⟨h.name.toArray⟩) (.int .i64 h.table.root) (.int .i64 h.table.size) (.int .i64 h.count) (.string ⟨h.drop.toArray⟩);have HK:=hd0 hk;have HF:=hd0 sE;have Hb:=hd0 hb;clear ho hk hz sE a;go_enter func18,ntmps18;go_wp2_with fail
 try rw[hW]
 try rw[hb]
 go_wp2_with fail;have q0:World.cell? _ ⟨b,0,none⟩=some (.int .i64 h.id):=aa HF.out.1 0;have q1:World.cell? _ ⟨b,1,none⟩=some (.int .i64 h.base):=aa HF.out.1 1;have q2:World.cell? _ ⟨b,2,none⟩=some (.string ⟨h.name.toArray⟩):=aa HF.out.1 2;have q3:World.cell? _ ⟨b,3,none⟩=some (.int .i64 h.table.root):=aa HF.out.1 3;have q4:World.cell? _ ⟨b,4,none⟩=some (.int .i64 h.table.size):=aa HF.out.1 4;have q5:World.cell? _ ⟨b,5,none⟩=some (.int .i64 h.count):=aa HF.out.1 5;have q6:World.cell? _ ⟨b,6,none⟩=some (.string ⟨h.drop.toArray⟩):=aa HF.out.1 6;have Cw:=HK.out.new HF.out.2 (Nat.le_of_eq Hb.out);exact avi (v:=hdF h) (by simp[results,Tryz.results18,go_sem,q0,q1,q2,q3,q4,q5,q6]) rfl ⟨rfl,Cw⟩
structure fN (w:World)(p:Nat)(a:eV)(q:Nat)(h:Hd)(l:List Nat)(lv:Value):Prop where
 at_:∃ base,rg w base q p h l lv
 qf:¬ a.foot p q
 lf:∀ g,lv.ownBlock=some g->¬ a.foot p g
theorem fN.keep {w w':World}{p:Nat}{a:eV}{q:Nat}{h:Hd}{l:List Nat}{lv:Value}(x:fN w p a q h l lv)(k:af w w'):fN w' p a q h l lv:=by
 obtain⟨base,ha⟩:=x.at_;exact⟨⟨base,ha.keep k⟩,x.qf,x.lf⟩
theorem fN.to {w w':World}{p:Nat}{_v _u:Vs}{a a':eV}{q:Nat}{h:Hd}{l:List Nat}{lv:Value}(x:fN w p a q h l lv)(m:ah (a.foot p) w w')(hf:∀ g,a'.foot p g->a.foot p g\/w.heap.size<=g):fN w' p a' q h l lv:=by
 obtain⟨base,ha⟩:=x.at_;refine⟨⟨base,ab m ha.own x.qf,aA ha.row (fun g hg=>m.block g (aU ha.row hg) (x.lf g hg)),ha.new⟩,fun h1=>(hf q h1).elim x.qf (fun h2=>?_),fun g hg h1=>(hf g h1).elim (x.lf g hg) (fun h2=>?_)⟩
 ·have:=ak ha.own;omega
 ·have:=aU ha.row hg;omega
theorem nP {w:World}{p:Nat}{a:eV}{q:Nat}{h:Hd}{l:List Nat}{lv:Value}(x:fN w p a q h l lv)(i:Int)(hi:i<0\/(l.length:Int)<=i):
  Calls prog 21 #[aq q,.int .i64 i] w fun e w'=>e=.returned (.tuple #[.string ⟨#[]⟩,.int .i64 191])/\af w w':=by
 obtain⟨base,ha⟩:=x.at_;obtain⟨la,cap,rfl,_⟩:=aY ha.row;have uE:(ba (eU l)).length=l.length:=by simp[ba,eU]
 rw[uE]at ha;have c8:w.cell? ⟨q,8,none⟩=some (.slice la l.length cap):=aa ha.own 8;clear ha x uE;by_cases h0:i<0
 ·go_enter func21,ntmps21;go_wp2;go_ret2;exact⟨rfl,ah.refl _ _⟩
 ·have h1:(l.length:Int)<=i:=hi.resolve_left h0;clear hi;go_enter func21,ntmps21;go_wp2;go_ret2;exact⟨rfl,ah.refl _ _⟩
end
section
open Go.RowKit
attribute [local go_sem] auG
theorem Nf (n:Nat)(s:ay)(cg:uz (n:Int) s)(w:World):
  Calls prog 11 #[aB (cX (n:Int) s)] w fun e w'=>e=.returned (.tuple #[.int .i64 (n:Int),aB s,.int .i64 0])/\af w w':=by
 have RN:=hd0 (Nc (cX (n:Int) s) w);have FT:=hd0 cg;have he:cX (n:Int) s=aM n++(aM s.length++(s++[])):=by unfold cX;simp
 have HE:=hd0 he;obtain⟨h1,h2,h3⟩:=cg;have HB:=hd0 (And.intro h1 (And.intro h2 h3));clear h1 h2 h3 he;go_enter func11,ntmps11;go_wp2_with fail;refine RN.out.mono ?_;rintro e w1 ⟨rfl,hr,k1⟩;have bS:=hd0 k1;rw[HE.out]at hr;obtain⟨r,hrr⟩:∃ r,w.heap.size=r:=⟨_,rfl⟩
 have Hrr:=hd0 hrr;rw[hrr]at hr ⊢;have NU:=hd0 (Kb n (aM s.length++(s++[])) 4095 r w1 hr (by have:=HB.out;omega) HB.out.2.1 (by
  have h3:=HB.out.2.2;have h4:=bf (n:=s.length) (by omega);simp only[au3,avV];omega))
 clear k1 RN hr hrr;go_wp2_with fail;refine NU.out.mono ?_;rintro e w2 ⟨rfl,tT,m2⟩;have oD:Hid (af w w2):=hd0 (bS.out.new m2 (by rw[Hrr.out];exact auP _));have TX:=hd0 (Rt s [] 240 r w2 tT (by have:=HB.out.2.2;omega) (by have:=HB.out.2.2;omega) (by omega) (by simp));clear m2 tT NU;go_wp2_with fail;refine TX.out.mono ?_;rintro e w3 ⟨rfl,Ki,m3⟩;have nT:Hid (af w w3):=hd0 (oD.out.new m3 (by rw[Hrr.out];exact auP _));have IZ:=hd0 Ki;have DR:=xY (n:Int) s w3 (by have:=HB.out.2.2;omega);rw[show xX (n:Int) s=.tuple #[aB (cX (n:Int) s),.int .i64 0]from auT FT.out]at DR;have DR:=hd0 DR;clear m3 Ki TX;go_wp2_with fail;refine DR.out.mono ?_;rintro e w4 ⟨rfl,k4⟩;have ry:=hd0 (nT.out.keep k4);have EN:=hd0 (Vx r w4 (ab k4 IZ.out id));clear k4 DR;go_wp2_with fail;refine EN.out.mono ?_;rintro e w5 ⟨rfl,k5⟩;have Cs:=hd0 (ry.out.keep k5);clear k5 EN;go_wp2;go_ret3;exact⟨rfl,Cs.out⟩
end
section
section
open Go.RowKit
theorem BH (m:Nat):∀(n:Int) (w:World),0<=n->n<9223372036854775808->n<m->Calls prog 165 #[.int .i64 n] w fun e w'=>e=.returned (.string ⟨(aM n.toNat).toArray⟩)/\af w w':=by
 induction m with
 |zero=>intro n w h0 h1 h2;omega
 |succ m ih=>
  intro n w h0 hn hm;have Ih:=hd0 ih;clear ih;have dj:=fun x hx W b h=>Db (P:=prog) underlying131 underlying5 underlying9 x hx W b h;by_cases h:n<128
  ·have He:=hd0 (gR (n:=n.toNat) (by omega));have hw:IntKind.u8.wrap n=n:=zB _ (by omega);have jv:=dj n (by omega);clear dj hm hn;go_enter func165,ntmps165;go_wp2;go_ret;exact⟨by rw[He.out];rfl,(ah.refl _ w).alloc _⟩
  ·have He:=hd0 (mK (n:=n.toNat) (by omega));have hb1:n%128<128:=by omega
   have iJ:0<=n%128:=by omega
   have hw:IntKind.u8.wrap (128+n%128)=128+n%128:=zB _ (by omega);have jv:=dj (128+n%128) (by omega);have e1:n.tdiv 128=n/128:=by rw[avW (by omega)]
   have e2:n.tmod 128=n%128:=Int.tmod_eq_emod_of_nonneg (by omega);have e3:IntKind.i64.wrap (n/128)=n/128:=awf _ (by omega);have e4:IntKind.i64.wrap (128+n%128)=128+n%128:=awf _ (by omega);have abh:(aM (n/128).toNat).length<=9:=bf (by omega);have Hb:=hd0 (show 0<=n/128/\n/128<9223372036854775808/\n/128<m by omega);have Hx:Hid ((128+n%128).toNat=n.toNat%128+128/\(n/128).toNat=n.toNat/128):=hd0 (by omega);clear dj hm hn;go_enter func165,ntmps165;go_wp2_with fail
   go_region_with (go_at_call 165;refine(Ih.out _ _ Hb.out.1 Hb.out.2.1 Hb.out.2.2).mono ?_;rintro e w1 ⟨rfl,hk⟩;have hcc:=fun b i (h:b<_)=>hk.cell (p:=⟨b,i,none⟩) h id)
   all_goals
    go_wp2;go_ret
    first
     |exact⟨by rw[He.out,<-Hx.out.1,<-Hx.out.2];rfl,((ah.refl _ w).drew.keep hk).alloc _⟩
     |exact⟨by rw[He.out,<-Hx.out.1,<-Hx.out.2];rfl,((ah.refl _ w).drew.alloc _).keep hk⟩
     |exact⟨by rw[He.out,<-Hx.out.1,<-Hx.out.2];rfl,((ah.refl _ w).alloc _).drew.keep hk⟩
theorem uA (n:Nat)(w:World)(hn:n<9223372036854775808):Calls prog 165 #[.int .i64 (n:Int)] w fun e w'=>e=.returned (.string ⟨(aM n).toArray⟩)/\af w w':=
 BH (n+1) n w (by omega) (by omega) (by omega)
theorem Ng (n:Int)(w:World)(hn:-9223372036854775808<=n/\n<=9223372036854775807):
  Calls prog 86 #[.int .i64 n] w fun e w'=>e=.returned (if 0<=n/\n<=4611686018427387903 then .tuple #[.string ⟨(aM n.toNat).toArray⟩,.int .i64 0]else .tuple #[.string ⟨#[]⟩,.int .i64 31])/\af w w':=by
 by_cases h:0<=n/\n<=4611686018427387903
 ·rw[auT h];obtain⟨h1,h2⟩:=h;have h3:¬ n<0:=by omega
  have h4:¬ 4611686018427387903<n:=by omega
  obtain⟨m,rfl⟩:∃ m:Nat,n=m:=⟨n.toNat,by omega⟩
  have hm:m<9223372036854775808:=by omega
  clear h2 hn;go_enter func86,ntmps86;go_wp2_with fail;refine(uA m _ hm).mono ?_;rintro e w1 ⟨rfl,hk⟩;have Hk:=hd0 hk;clear hk;go_wp2;go_ret2;exact⟨rfl,Hk.out⟩
 ·rw[auV h];have h5:n<0\/4611686018427387903<n:=by omega
  clear h;by_cases h1:n<0
  ·go_enter func86,ntmps86;go_wp2;go_ret2;exact⟨rfl,ah.refl _ _⟩
  ·have h2:4611686018427387903<n:=by omega
   clear h5;go_enter func86,ntmps86;go_wp2;go_ret2;exact⟨rfl,ah.refl _ _⟩
theorem Ru (n:Nat)(w:World)(hn:n<=4611686018427387903):
  Calls prog 86 #[.int .i64 (n:Int)] w fun e w'=>e=.returned (.tuple #[.string ⟨(aM n).toArray⟩,.int .i64 0])/\af w w':=by
 refine(Ng n w (by omega)).mono fun e w' ⟨h1,h2⟩=>⟨?_,h2⟩
 rw[auT (by omega)]at h1;rw[h1,avn]
theorem IN (s:List UInt8)(w:World)(hs:s.length<=65536):
  Calls prog 87 #[.string ⟨s.toArray⟩] w fun e w'=>e=.returned (.tuple #[.string ⟨(aM s.length++s).toArray⟩,.int .i64 0])/\af w w':=by
 have h1:¬(65536:Int)<s.length:=by omega
 have Hm:Hid (s.length<9223372036854775808):=hd0 (by omega);have h2:(s.length:Int)<=9223372036854775807:=by omega
 clear hs;go_enter func87,ntmps87;go_wp2_with fail;refine(uA s.length _ Hm.out).mono ?_;rintro e w1 ⟨rfl,hk⟩;have Hk:=hd0 hk;clear hk;have hb:¬ 9223372036854775807<(aM s.length).length+s.length:=by have:=bf Hm.out;omega
 go_wp2;go_ret2;exact⟨rfl,Hk.out⟩
theorem Nh (L:List Nat)(w:World)(b:Nat)(hn:∀ n∈L,n<=4611686018427387903)(hl:L.length<=100)(hb:∀(j:Nat) (n:Nat),L[j]?=some n->w.cell? ⟨b,j,none⟩=some (.int .i64 (n:Int))):
  Calls prog 36 #[.slice (some ⟨b,0,none⟩) L.length L.length] w fun e w'=>e=.returned (.string ⟨(L.flatMap aM).toArray⟩)/\af w w':=by
 have HB:=hd0 hb;have HN:=hd0 hn;have Cx:(L.length:Int)<=100:=by omega
 clear hb hn;go_enter func36,ntmps36;go_wp2_with fail
 go_loopw [3,4] (fun v i wr=>∃(k:Nat) (pre:List UInt8),k<=L.length/\i=.int .i64 (k:Int)/\v=.string ⟨pre.toArray⟩/\pre.length<=9*k/\Hid (pre=(L.take k).flatMap aM)/\af w wr) (fun _ i _=>L.length-(intOf i).toNat)
 case atStart=>exact⟨0,[],by omega,rfl,rfl,by simp,hd0 rfl,ah.refl _ _⟩
 case round=>
  obtain⟨k,pre,hk,rfl,rfl,tQ,Hp,hK⟩:=hrel;have HK:=hd0 hK;clear hK;by_cases aK:k<L.length
  ·obtain⟨n,hx⟩:∃ n,L[k]?=some n:=⟨_,auM aK⟩
   have c0:wr.cell? ⟨b,k,none⟩=some (.int .i64 (n:Int)):=by
    have h:=HB.out k n hx;rw[HK.out.cell (p:=⟨b,k,none⟩) (am h) id];exact h
   have Hnn:=hd0 (HN.out n (auN hx));have Hx:=hd0 hx;have yX:(k:Int)<L.length:=by omega
   clear hx;go_wp2_with fail;refine(Ru n wr Hnn.out).mono ?_;rintro e w1 ⟨rfl,hk1⟩;have bS:=hd0 (HK.out.keep hk1);have abh:(aM n).length<=9:=bf (by have:=Hnn.out;omega);clear hk1 c0;go_wp2_with fail;exact⟨⟨k+1,pre++aM n,by omega,by go_num,rfl,by rw[au3];omega,hd0 (by rw[ji Hx.out,Hp.out];simp),bS.out⟩,by simp[intOf];omega⟩
  ·obtain rfl:k=L.length:=by omega
   clear aK;go_wp2;go_ret;exact⟨by rw[Hp.out,auQ];rfl,HK.out⟩
end
section
open Go.RowKit
end
section
open Go.RowKit
end
section
open Go.RowKit
end
end
section
open Go.RowKit
attribute [local go_sem] auG
theorem EX (s:ay)(w:World)(hs:s.length<=65536):
  Calls prog 37 #[aB s] w fun e w'=>e=.returned (aB (aM s.length++s))/\af w w':=by
 have TX:=hd0 (IN s w hs);go_enter func37,ntmps37;go_wp2_with fail;refine TX.out.mono ?_;rintro e w1 ⟨rfl,k1⟩;have HK:=hd0 k1;clear k1 TX;go_wp2;go_ret;exact⟨rfl,HK.out⟩
theorem Rv (n:Int)(s:ay)(w:World)(hs:s.length<=140737488351232):
  Calls prog 10 #[.int .i64 n,aB s] w fun e w'=>e=.returned (xX n s)/\af w w':=by
 by_cases cg:uz n s
 ·have hv:xX n s=.tuple #[aB (cX n s),.int .i64 0]:=auT cg;obtain⟨h1,h2,h3⟩:=cg;have q1:¬ n<1:=by omega
  have q2:¬(4095:Int)<n:=by omega
  have q3:¬(240:Int)<(s.length:Int):=by omega
  obtain⟨m,rfl⟩:∃ m:Nat,n=(m:Int):=⟨n.toNat,by omega⟩
  have qh:af w (w.alloc (.cells #[.int .i64 (m:Int)] 3)):=(ah.refl _ w).alloc _;have NU:=hd0 (Nh [m] (w.alloc (.cells #[.int .i64 (m:Int)] 3)) w.heap.size (by simp;omega) (by simp) (fun j x hx=>by
   have hb:=aw w #[.int .i64 (m:Int)] 3;rw[aa hb j];rcases j with _|j
   ·simp at hx;subst hx;rfl
   ·simp at hx))
  have HV:=hd0 hv;have HK:=hd0 qh;have TX:=hd0 (fun W=>EX s W (by omega));have e9:=bf (n:=m) (by omega);have e9':=bf (n:=s.length) (by omega);have sN:¬ 9223372036854775807<(aM m).length+((aM s.length).length+s.length):=by omega
  clear hv h1 h2 h3 qh e9 e9';go_enter func10,ntmps10;go_wp2_with fail;refine NU.out.mono ?_;rintro e w2 ⟨rfl,k2⟩;have bw:=hd0 (HK.out.keep k2);clear k2 NU;simp only[avs,List.flatMap_nil,List.append_nil];go_wp2_with fail;refine(TX.out _).mono ?_;rintro e w3 ⟨rfl,k3⟩;have dJ:=hd0 (bw.out.keep k3);clear k3 TX;go_wp2;go_ret2;exact⟨by rw[HV.out];simp[cX],dJ.out⟩
 ·have hv:xX n s=.tuple #[.string ⟨#[]⟩,.int .i64 190]:=auV cg;have HV:=hd0 hv;have Wb:(s.length:Int)<=140737488351232:=by omega
  unfold uz at cg;by_cases q1:n<1
  ·clear cg hv;go_enter func10,ntmps10;go_wp2;go_ret2;exact⟨by rw[HV.out];rfl,ah.refl _ _⟩
  ·by_cases q2:(4095:Int)<n
   ·clear cg hv;go_enter func10,ntmps10;go_wp2;go_ret2;exact⟨by rw[HV.out];rfl,ah.refl _ _⟩
   ·have q3:(240:Int)<(s.length:Int):=by omega
    clear cg hv;go_enter func10,ntmps10;go_wp2;go_ret2;exact⟨by rw[HV.out];rfl,ah.refl _ _⟩
end
section
open Go.RowKit
attribute [local go_sem] auG
theorem fN.cells {w:World}{p:Nat}{a:eV}{q:Nat}{h:Hd}{l:List Nat}{lv:Value}(x:fN w p a q h l lv):
  ∃ la cap,lv=.slice la l.length cap/\w.cell? ⟨q,0,none⟩=some (aq p)/\w.cell? ⟨q,1,none⟩=some (.int .i64 h.id)/\w.cell? ⟨q,3,none⟩=some (aB h.name)/\w.cell? ⟨q,8,none⟩=some (.slice la l.length cap)/\
   ∀ i n,l[i]?=some n->∃ b o,la=some ⟨b,o,none⟩/\w.cell? ⟨b,o+i,none⟩=some (.int .i64 ((n:Nat):Int)):=by
 obtain⟨base,ha⟩:=x.at_;obtain⟨la,cap,rfl,hx⟩:=aY ha.row;have uE:(ba (eU l)).length=l.length:=by simp[ba,eU]
 rw[uE]at ha;exact⟨la,cap,by rw[uE],aa ha.own 0,aa ha.own 1,aa ha.own 3,aa ha.own 8,fun i n hn=>hx i _ (by simp[ba,eU,hn])⟩
theorem xZ {w:World}{p:Nat}{v:Vs}{a:eV}{q:Nat}{h:Hd}{l:List Nat}{lv:Value}(hv:lp w p v a)(hl:v.b.list.length<=1000)(x:fN w p a q h l lv)(hid:((aP v.b.list h.name).getD eS).id=h.id)
  (i n:Nat) (hi:l[i]?=some n) (uE:l.length<=5000) (h1:1<=n) (h2:n<v.blocks) (hb:v.blocks<=4096) (s:ay) (hs:v.rd n=.ok s) (rC:s.length<=240):
  Calls prog 21 #[aq q,.int .i64 (i:Int)] w fun e w'=>e=.returned (.tuple #[aB (cX (n:Int) s),.int .i64 0])/\∃ a',ei w p v a v a' w'/\a'.text=a.text/\fN w' p a' q h l lv:=by
 have Je:=(au0.1 hi).1;have hfd:∀(x0 x1 x2 x3 x4:Value) (W:World),(Instr.field 85 (.agg #[x0,x1,x2,x3,x4]) 1).run prog W=.ok x1 W:=fun _ _ _ _ _ _=>by kernel_rfl
 obtain⟨la,cap,elv,c0,c1,c3,c8,co⟩:=x.cells;obtain⟨lb,lo,rfl,ci⟩:=co i n hi;have HV:=hd0 hv;have HX:=hd0 x;have HL:=hd0 hl;have HI:=hd0 hi;have HN:=hd0 (And.intro h1 (And.intro h2 (And.intro hb (And.intro hs rC))));have HID:=hd0 hid;have ap2:(i:Int)<(l.length:Int):=by omega
 have ae8:(l.length:Int)<=5000:=by omega
 clear hv hl x hi h1 h2 hb hs rC co Je uE;go_enter func21,ntmps21
 go_upto_region 3 with fail
 go_cut [20]from 8 to 66 (fun y wx=>y=.bool false/\af w wx)
 case first=>
  have e0:∀ X,(w.ext X).cell? ⟨q,0,none⟩=some (aq p):=fun X=>((aD w X).cell (p:=⟨q,0,none⟩) (am c0) id).trans c0;have e1:∀ X,(w.ext X).cell? ⟨q,1,none⟩=some (.int .i64 h.id):=fun X=>((aD w X).cell (p:=⟨q,1,none⟩) (am c1) id).trans c1;have e3:∀ X,(w.ext X).cell? ⟨q,3,none⟩=some (aB h.name):=fun X=>((aD w X).cell (p:=⟨q,3,none⟩) (am c3) id).trans c3;refine cO (by kernel_rfl) (by kernel_rfl) ?_
  repeat (quiet_step (with_reducible exact bA (re (HV.out.keep (aD _ _)) HL.out h.name)))
  refine avE ?_;intro _ cL;obtain⟨xq,rfl⟩:=cL;go_wp2_with fail;go_meet
  case rel=>exact⟨rfl,aD _ _⟩
 case rest=>
  obtain⟨rfl,hk⟩:=hcut;have Jp:=hd0 hk;have c0':wc.cell? ⟨q,0,none⟩=some (aq p):=(hk.cell (p:=⟨q,0,none⟩) (am c0) id).trans c0;have c8':wc.cell? ⟨q,8,none⟩=some (.slice (some ⟨lb,lo,none⟩) l.length cap):=(hk.cell (p:=⟨q,8,none⟩) (am c8) id).trans c8;have ci':wc.cell? ⟨lb,lo+i,none⟩=some (.int .i64 (n:Int)):=(hk.cell (p:=⟨lb,lo+i,none⟩) (am ci) id).trans ci;clear hk c0 c1 c3 c8 ci
  go_upto_region 5 with fail
  go_cut [6,7]from 8 to 66 (fun y z wx=>y=aB s/\z=.int .i64 0/\∃ a',ei w p v a v a' wx/\a'.text=a.text)
  case first=>
   have RD:Hid (∀ W,af w W->Calls prog 22 #[aq p,.int .i64 (n:Int)] W fun e w'=>e=.returned (.tuple #[aB s,.int .i64 0])/\∃ a',ei W p v a v a' w'/\a'.text=a.text):=hd0 (fun W k=>xV (HV.out.keep k) n HN.out.1 HN.out.2.1 s HN.out.2.2.2.1)
   go_region_with (go_at_call 22;refine auY (RD.out _ (Jp.out.drew)) ?_;rintro e w2 ⟨rfl,a2,gW,AD⟩;have ze:=hd0 (And.intro (ei.ahead (Jp.out.drew) gW) AD);clear gW AD)
   all_goals (go_wp2_with fail;go_meet)
   all_goals (case rel=>exact⟨rfl,rfl,a2,ze.out⟩)
  case rest=>
   obtain⟨rfl,rfl,a2,gW,AD⟩:=hcut;have ze:=hd0 (And.intro gW AD);have vr:=HX.out.to (_v:=v) (_u:=v) gW.mod gW.foot;have lH:=hd0 vr;obtain⟨la2,WC,adH,d0,d1,d3,d8,Xi⟩:=vr.cells;rw[elv]at adH;injection adH with e1 _ e3;subst e1 e3;obtain⟨b2,o2,e4,di⟩:=Xi i n HI.out;injection e4 with e4;injection e4 with e5 e6;subst e5 e6;have DR:=xY (n:Int) s wc (by have:=HN.out.2.2.2.2;omega);rw[show xX (n:Int) s=.tuple #[aB (cX (n:Int) s),.int .i64 0]from auT ⟨by have:=HN.out.1;omega,by have:=HN.out.2.1;have:=HN.out.2.2.1;omega,HN.out.2.2.2.2⟩]at DR;have DR:=hd0 DR;clear gW AD vr Xi c0' c8' ci' d0 d1 d3;go_wp2_with fail;refine DR.out.mono ?_;rintro e w4 ⟨rfl,k4⟩;have lZ:=hd0 k4;clear k4 DR;go_wp2;go_ret2;exact⟨rfl,a2,ze.out.1.keep lZ.out,ze.out.2,lH.out.keep lZ.out⟩
end
section
open Go.RowKit
theorem Vy (key:List UInt8)(w:World)(hk:key.length=16):
  Calls prog 58 #[.string ⟨key.toArray⟩] w fun e w'=>e=.returned (.tuple #[.pointer (some ⟨w.heap.size,0,none⟩),.int .i64 0])/\World.blk w' w.heap.size (eM (nZ key) [] 0) 186/\af w w':=
 (JA key w hk).mono fun _ _ ⟨he,n,hw⟩=>by
  subst hw;exact⟨he,fR (aw _ _ _) _,((ah.refl _ _).alloc _).drewN _⟩
theorem Ni (b:Nat)(v:St)(rest s:List UInt8)(size:Nat)(w:World)(hB:World.blk w b (eM v rest size) 186)(hr:rest.length<8)(hs:size+s.length+8<=9223372036854775807):
  Calls prog 59 #[.pointer (some ⟨b,0,none⟩),.string ⟨s.toArray⟩] w fun e w'=>e=.returned (.tuple #[])/\
   World.blk w' b (eM (dW v (rest++s)).1 (dW v (rest++s)).2 (size+s.length)) 186/\ah (·=b) w w':=by
 have h:=zq b v rest s size w 0 (ak hB) hr hs;rw[KT hB,World.drewN_zero]at h;refine h.mono fun _ _ ⟨he,n,hw⟩=>?_;subst hw;exact⟨he,fR (vz (ak hB)) _,((ah.refl (·=b) w).putB (Or.inl rfl) _ _).drewN _⟩
def rh (key l:List UInt8):Array Value:=eM (dW (nZ key) l).1 (dW (nZ key) l).2 l.length
theorem EY (s:List UInt8):∀(v:St) (t:List UInt8),dW v (s++t)=dW (dW v s).1 ((dW v s).2++t):=by
 generalize hn:s.length=n
 induction n using Nat.strongRecOn generalizing s with
 |_ n ih=>
  intro v t;by_cases h:8<=s.length
  ·have h2:8<=(s++t).length:=by simp;omega
   rw[lL v (s++t) h2,lL v s h,List.take_append_of_le_length h,List.drop_append_of_le_length h];exact ih (s.drop 8).length (by simp;omega) _ rfl _ _
  ·rw[qC v s h]
theorem Rw (key:List UInt8)(w:World)(hk:key.length=16):
  Calls prog 58 #[.string ⟨key.toArray⟩] w fun e w'=>e=.returned (.tuple #[.pointer (some ⟨w.heap.size,0,none⟩),.int .i64 0])/\World.blk w' w.heap.size (rh key []) 186/\af w w':=
 Vy key w hk
theorem IO (b:Nat)(key l s:List UInt8)(w:World)(hB:World.blk w b (rh key l) 186)(hs:l.length+s.length+8<=9223372036854775807):
  Calls prog 59 #[.pointer (some ⟨b,0,none⟩),.string ⟨s.toArray⟩] w fun e w'=>e=.returned (.tuple #[])/\World.blk w' b (rh key (l++s)) 186/\ah (·=b) w w':=by
 refine(Ni b _ _ s l.length w hB (oF _ _) hs).mono fun _ _ ⟨he,h,hm⟩=>⟨he,?_,hm⟩
 rw[rh,EY,au3];exact h
theorem Rx (b:Nat)(key l:List UInt8)(w:World)(hB:World.blk w b (rh key l) 186)(hs:l.length<=9223372036854775807):
  Calls prog 60 #[.pointer (some ⟨b,0,none⟩)] w fun e w'=>e=.returned (.string ⟨(KV key l).toArray⟩)/\af w w':=
 Jz b _ _ _ w hB (oF _ _) hs
end
section
open Go.RowKit
attribute [local go_sem] auG
def fY:ay:=[115,116,105,108,108,97,103,101,32,115,116,114,101,97,109,33]
def cZ (f:Nat->ay)(l:List Nat):ay:=l.flatMap fun(n:Nat)=>cX (n:Int) (f n)
theorem nQ (f:Nat->ay)(l:List Nat)(h:∀ n∈l,n<=4096/\(f n).length<=240):(cZ f l).length<=300*l.length:=by
 unfold cZ
 induction l with
 |nil=>simp
 |cons y r ih=>
  have h1:=h y (by simp);have h2:=ih fun z hz=>h z (by simp[hz]);have h3:(cX (y:Int) (f y)).length<=300:=by
   unfold cX;have e1:=bf (n:=(y:Int).toNat) (by omega);have e2:=bf (n:=(f y).length) (by omega);simp only[au3];omega
  simp only[avs,au3,auL];omega
structure pz (w w1:World)(p:Nat)(v:Vs)(a a':eV)(q:Nat)(h:Hd)(l:List Nat)(lv:Value)(hb:Nat)(done:ay)(wr:World):Prop where
 at_:lp wr p v a'
 role:a'.role=a.role
 text:a'.text=a.text
 foot:∀ g,a'.foot p g->a.foot p g\/w1.heap.size<=g
 mod:ah (a.foot p) w wr
 still:fG (fun b=>a.role b≠.none) w wr
 plan:fN wr p a' q h l lv
 hash:World.blk wr hb (rh fY done) 186
section
variable {w w1 wr w2:World}{p:Nat}{v:Vs}{a a' a2:eV}{q:Nat}{h:Hd}{l:List Nat}{lv:Value}{hb:Nat}{done:ay}
theorem pz.read (s:pz w w1 p v a a' q h l lv hb done wr)(h1:hb<w1.heap.size)(h2:w1.heap.size<=wr.heap.size)(h3:¬ a.foot p hb)(hw:w.heap.size<=w1.heap.size)(k:ei wr p v a' v a2 w2)(ht:a2.text=a'.text)(pl:fN w2 p a2 q h l lv):pz w w1 p v a a2 q h l lv hb done w2:=
 ⟨k.at_,k.role.trans s.role,ht.trans s.text,fun g hg=>(k.foot g hg).elim (s.foot g) (fun h=>.inr (auI h2 h)),s.mod.trans k.mod (fun g hl hs=>(s.foot g hs).elim id (fun h=>by omega)),
  fun b TW hl=>(k.still b (by rw[s.role];exact TW) (auW hl s.mod.size)).trans (s.still b TW hl),pl,ab k.mod s.hash (fun hf=>(s.foot hb hf).elim h3 (fun h=>by omega))⟩
theorem pz.wrote (s:pz w w1 p v a a' q h l lv hb done wr)(h1:hb<w1.heap.size)(h3:¬ a.foot p hb)(h4:w.heap.size<=hb)(hq:q<w.heap.size)(hl:∀ g,lv.ownBlock=some g->g<w.heap.size)(m:ah (·=hb) wr w2){YA:ay}(hh:World.blk w2 hb (rh fY YA) 186):pz w w1 p v a a' q h l lv hb YA w2:=by
 have hn:¬ a'.foot p hb:=fun hf=>(s.foot hb hf).elim h3 (fun h=>by omega);refine⟨s.at_.same (m.on fun g hg e=>hn (by rw[<-e];exact hg)) m.size,s.role,s.text,s.foot,s.mod.trans m (fun g hl e=>by omega),fun b TW Ua=>(m.block b (auW Ua s.mod.size) (by omega)).trans (s.still b TW Ua),?_,hh⟩;obtain⟨base,ha⟩:=s.plan.at_;exact⟨⟨base,ab m ha.own (by omega),aA ha.row (fun g hg=>m.block g (aU ha.row hg) (by have:=hl g hg;omega)),ha.new⟩,s.plan.qf,s.plan.lf⟩
theorem pz.keep (s:pz w w1 p v a a' q h l lv hb done wr)(k:af wr w2):pz w w1 p v a a' q h l lv hb done w2:=
 ⟨s.at_.keep k,s.role,s.text,s.foot,s.mod.trans (k.mono (T:=a.foot p) (fun _ _ h=>h.elim)) (fun _ _ h=>h),fun b TW Ua=>(k.block b (auW Ua s.mod.size) id).trans (s.still b TW Ua),s.plan.keep k,ab k s.hash id⟩
end
theorem EZ {w:World}{p:Nat}{v:Vs}{a:eV}{q:Nat}{h:Hd}{l:List Nat}{lv:Value}(hv:lp w p v a)(hl:v.b.list.length<=1000)(x:fN w p a q h l lv)(hid:((aP v.b.list h.name).getD eS).id=h.id)
  (uE:l.length<=5000) (hb:v.blocks<=4096) (f:Nat->ay) (hf:∀ n∈l,1<=n/\n<v.blocks/\v.rd n=.ok (f n)/\(f n).length<=240):
  Calls prog 23 #[aq q] w fun e w'=>e=.returned (.tuple #[aB (KV fY (cZ f l)),.int .i64 0])/\∃ a',ei w p v a v a' w'/\a'.text=a.text/\fN w' p a' q h l lv:=by
 have NH:=hd0 (Rw fY w rfl);obtain⟨base,ha⟩:=x.at_;have hqw:=ak ha.own;have hlw:∀ g,lv.ownBlock=some g->g<w.heap.size:=fun g hg=>aU ha.row hg;obtain⟨iJ,hhb⟩:∃ iJ,w.heap.size=iJ:=⟨_,rfl⟩
 have Hhb:=hd0 hhb;have Fr:¬ a.foot p iJ:=fun hf=>by have:=hv.lt hf;omega
 have HQ:=hd0 (And.intro hqw (And.intro hlw Fr));have HV:=hd0 hv;have HX:=hd0 x;have HL:=hd0 (And.intro hl (And.intro uE hb));have HID:=hd0 hid;have HF:=hd0 hf;have ae8:(l.length:Int)<=5000:=by omega
 clear hv hl x hid hb hf ha hqw hlw Fr;go_enter func23,ntmps23;go_wp2_with fail;refine NH.out.mono ?_;rintro e w1 ⟨rfl,hh,k1⟩;rw[hhb]at hh ⊢;have HS:Hid (pz w w1 p v a a q h l lv iJ (cZ f (l.take 0)) w1):=hd0 ⟨HV.out.keep k1,rfl,rfl,fun g hg=>.inl hg,k1.mono (fun _ _ h=>h.elim),fun b TW Ua=>k1.block b Ua id,HX.out.keep k1,(by rw[show cZ f (l.take 0)=[]from rfl];exact hh)⟩;have H1:Hid (iJ<w1.heap.size/\w.heap.size<=w1.heap.size):=hd0 ⟨ak hh,k1.size⟩;obtain⟨la,cap,elv,_,_,_,c8,_⟩:=(HX.out.keep k1).cells;clear k1 hh NH hhb;go_wp2_with fail
 go_loopw [18] (fun y wr=>∃ k:Nat,k<=l.length/\y=.int .i64 (k:Int)/\Hid (∃ a',pz w w1 p v a a' q h l lv iJ (cZ f (l.take k)) wr/\w1.heap.size<=wr.heap.size)) (fun y _=>l.length-(intOf y).toNat)
 case atStart=>exact⟨0,by omega,rfl,hd0 ⟨a,HS.out,auP _⟩⟩
 case round=>
  clear HS c8;obtain⟨k,hk,rfl,HR⟩:=hrel;obtain⟨a1,hs,cJ⟩:=HR.out;have HS:=hd0 (And.intro hs cJ);clear hs cJ HR;by_cases aK:k<l.length
  ·have dR:(k:Int)<(l.length:Int):=by omega
   obtain⟨n,hn⟩:∃ n,l[k]?=some n:=⟨_,auM aK⟩
   obtain⟨g1,g2,g3,g4⟩:=HF.out n (auN hn);have PR:=hd0 (xZ HS.out.1.at_ HL.out.1 HS.out.1.plan HID.out k n hn HL.out.2.1 g1 g2 HL.out.2.2 (f n) g3 g4);have Tw:cZ f (l.take (k+1))=cZ f (l.take k)++cX (n:Int) (f n):=by unfold cZ;rw[auO,hn];simp
   have aW:(cX (n:Int) (f n)).length<=300:=by
    unfold cX;have h1:=bf (n:=(n:Int).toNat) (by have:=HL.out.2.2;omega);have h2:=bf (n:=(f n).length) (by omega);simp only[au3];omega
   have HT:=hd0 (And.intro Tw aW);clear hn g1 g2 g3 g4 Tw aW;go_wp2_with fail;refine PR.out.mono ?_;rintro e w2 ⟨rfl,a2,gW,AD,j8⟩;have jv:=HS.out.1.read H1.out.1 HS.out.2 HQ.out.2.2 H1.out.2 gW AD j8;have yC:=hd0 (And.intro jv (auI HS.out.2 gW.mod.size));have WH:=hd0 (IO iJ fY (cZ f (l.take k)) (cX (n:Int) (f n)) w2 jv.hash (by
    have h1:=nQ f (l.take k) (fun y hy=>by
     obtain⟨g1,g2,g3,g4⟩:=HF.out y (auR hy);exact⟨by have:=HL.out.2.2;omega,g4⟩)
    rw[auS]at h1;have h4:min k l.length<=l.length:=Nat.min_le_right _ _;have h2:=HT.out.2;have h3:=HL.out.2.1;omega))
   clear jv gW AD j8 PR;go_wp2_with fail;refine WH.out.mono ?_;rintro e w3 ⟨rfl,hh3,m3⟩;rw[<-HT.out.1]at hh3;have AG:=hd0 (And.intro (yC.out.1.wrote H1.out.1 HQ.out.2.2 (Nat.le_of_eq Hhb.out) HQ.out.1 HQ.out.2.1 m3 hh3) (auI yC.out.2 m3.size));clear hh3 m3 WH;go_wp2_with fail;exact⟨⟨k+1,by omega,by go_num,hd0 ⟨a2,AG.out⟩⟩,by simp[intOf];omega⟩
  ·obtain nX:k=l.length:=by omega
   have hs:=HS.out.1;rw[nX,auQ]at hs;have SH:=hd0 (Rx iJ fY (cZ f l) wr hs.hash (by
    have h1:=nQ f l (fun y hy=>by
     obtain⟨g1,g2,g3,g4⟩:=HF.out y hy;exact⟨by have:=HL.out.2.2;omega,g4⟩)
    have h3:=HL.out.2.1;omega))
   have Jv:=hd0 hs;clear hs hk;go_wp2_with fail;refine SH.out.mono ?_;rintro e w4 ⟨rfl,k4⟩;have HE:=hd0 (Jv.out.keep k4);clear k4 SH;go_wp2;go_ret2;exact⟨rfl,a1,⟨HE.out.at_,HE.out.role,fun g hg=>(HE.out.foot g hg).imp id (fun h=>auI H1.out.2 h),HE.out.mod,HE.out.still,fun e=>HE.out.text.trans e⟩,HE.out.text,HE.out.plan⟩
end
end Go.Proofs.YtkghpdcloaiflaaGreatDoor
