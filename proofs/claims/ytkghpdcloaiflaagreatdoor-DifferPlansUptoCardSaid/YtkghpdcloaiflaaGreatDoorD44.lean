import Derived.Test.YtkghpdcloaiflaaGreatDoorD43
import Derived.Deep.RegionLaw
set_option maxHeartbeats 4000000
set_option maxRecDepth 1000000
namespace Go.Proofs.YtkghpdcloaiflaaGreatDoor
open _root_.Go.Proofs.Tryz
section
open Go.RowKit
theorem RG {s:List UInt8}{k:Nat}{x:UInt8}(h:s[k]?=some x)(h1:(s.take k).all bV=true)(h2:bV x=true):(s.take (k+1)).all bV=true:=by
 rw[auO,h,Option.toList_some,List.all_append,h1];simp[h2]
theorem Zs {s:List UInt8}{k:Nat}{x:UInt8}(h:s[k]?=some x)(h2:bV x=false):s.all bV=false:=by
 rw[Bool.eq_false_iff];intro h3;have:=au5.1 h3 x (auN h);rw[h2]at this;cases this
theorem Np (s:List UInt8)(w:World)(hs:s.length<=140737488355328):
  Calls prog 20 #[.string ⟨s.toArray⟩] w fun e w'=>e=.returned (.bool (aG s))/\w=w':=by
 go_enter func20,ntmps20;go_wp2_with fail
 go_loop [3] (fun i=>∃(k:Nat),k<=s.length/\i=.int .i64 (k:Int)/\Hid ((s.take k).all bV=true)) (fun i=>s.length-(intOf i).toNat)
 case atStart=>exact⟨0,by omega,rfl,hd0 (by simp)⟩
 case round=>
  obtain⟨k,hk,rfl,Hd⟩:=hrel;by_cases aK:k<s.length
  ·obtain⟨x,hx⟩:∃ x,s[k]?=some x:=⟨_,auM aK⟩
   have Hx:=hd0 hx;have TO:∀ W,(Instr.index 9 (.string ⟨s.toArray⟩) (.int .i64 (k:Int))).run prog W=.ok (.int .u8 (x.toNat:Int)) W:=fun W=>aS underlying9 s .i64 (k:Int) x (by omega) (by rw[avn];exact hx) W;clear hx;by_cases hb:bV x=true
   ·have R3:=hd0 (RG Hx.out Hd.out hb);have hc:(97<=x.toNat/\x.toNat<=122)\/(48<=x.toNat/\x.toNat<=57)\/x.toNat=46\/x.toNat=45\/x.toNat=95:=by
     apply Decidable.byContradiction;intro h;rw[Bn h]at hb;cases hb
    clear hb Hd Hx;generalize hn:x.toNat=n at*;clear hn;rcases hc with⟨h1,h2⟩|⟨h1,h2⟩|rfl|rfl|rfl
    ·have a1:(97:Int)<=n:=by omega
     have a2:(n:Int)<=122:=by omega
     go_wp2_with fail
     go_round
     case rel=>exact⟨k+1,by omega,by go_num,R3⟩
     case measure=>simp[intOf];omega
    ·have a0:¬(97:Int)<=n:=by omega
     have a1:(48:Int)<=n:=by omega
     have a2:(n:Int)<=57:=by omega
     go_wp2_with fail
     go_round
     case rel=>exact⟨k+1,by omega,by go_num,R3⟩
     case measure=>simp[intOf];omega
    all_goals
     go_wp2_with fail
     go_round
     case rel=>exact⟨k+1,by omega,by go_num,R3⟩
     case measure=>simp[intOf];omega
   ·have eL:bV x=false:=by simpa using hb
    have Hv:Hid (aG s=false):=hd0 (by simp[aG,Zs Hx.out eL]);have hc:¬((97<=x.toNat/\x.toNat<=122)\/(48<=x.toNat/\x.toNat<=57)\/x.toNat=46\/x.toNat=45\/x.toNat=95):=by
     intro h;rw[Bm h]at eL;cases eL
    clear hb eL Hx Hd;generalize hn:x.toNat=n at*;clear hn;have e1:((n:Int)==46)=false:=av3 (by omega);have e2:((n:Int)==45)=false:=av3 (by omega);have e3:((n:Int)==95)=false:=av3 (by omega);have hn:(¬(97:Int)<=n/\¬(48:Int)<=n)\/(¬(97:Int)<=n/\(48:Int)<=n/\¬(n:Int)<=57)\/((97:Int)<=n/\¬(n:Int)<=122/\(48:Int)<=n/\¬(n:Int)<=57):=by omega
    clear hc;rcases hn with⟨h1,h2⟩|⟨h1,h2,h3⟩|⟨h1,h2,h3,h4⟩
    all_goals
     go_wp2;go_ret;exact⟨by rw[Hv.out];rfl,rfl⟩
  ·have yX:k=s.length:=by omega
   subst yX;have Oq:Hid (s.all bV=true):=hd0 (by have h:=Hd.out;rwa [auQ]at h);clear Hd;by_cases h1:1<=s.length
   ·by_cases h2:s.length<=16
    ·have h1':(1:Int)<=s.length:=by omega
     have h2':(s.length:Int)<=16:=by omega
     by_cases e1:s=[46]
     ·subst e1;clear Oq;go_wp2;go_ret;exact⟨rfl,rfl⟩
     ·by_cases e2:s=[46,46]
      ·subst e2;clear Oq;go_wp2;go_ret;exact⟨rfl,rfl⟩
      ·have b1:(s==[46])=false:=av3 e1;have b2:(s==[46,46])=false:=av3 e2;have Hv:Hid (aG s=true):=hd0 (by simp[aG,Oq.out,h1,h2,b1,b2]);clear e1 e2 Oq;go_wp2;go_ret;exact⟨by rw[Hv.out];rfl,rfl⟩
    ·have Hv:Hid (aG s=false):=hd0 (by simp[aG,h2]);have h1':(1:Int)<=s.length:=by omega
     have h2':¬(s.length:Int)<=16:=by omega
     clear Oq;go_wp2;go_ret;exact⟨by rw[Hv.out];rfl,rfl⟩
   ·have Hv:Hid (aG s=false):=hd0 (by simp[aG,h1]);have h1':¬(1:Int)<=s.length:=by omega
    clear Oq;go_wp2;go_ret;exact⟨by rw[Hv.out];rfl,rfl⟩
end
section
open Go.RowKit
section
variable {α β:Type}{f:α->List β}{sz:Nat}
def rj (l:List β)(o:Nat)(vs:List β):List β:=l.take o++(vs++l.drop (o+vs.length))
theorem RH (l:List β)(o:Nat):rj l o []=l:=by simp[rj]
theorem Nq (l:List β)(o:Nat)(v:β)(r:List β)(h:o<l.length):rj (l.set o v) (o+1) r=rj l o (v::r):=by
 unfold rj;apply List.ext_getElem?;intro k;simp only[List.getElem?_append,List.getElem?_take,avU,auS,List.length_set,List.getElem?_set,auL,List.getElem?_cons,Nat.min_eq_left (Nat.le_of_lt h),Nat.min_eq_left (show o+1<=l.length from h)];by_cases h1:k<o
 ·simp[h1,show k<o+1 by omega,show ¬ o=k by omega]
 ·by_cases h2:k=o
  ·subst h2;simp[h]
  ·obtain⟨j,rfl⟩:∃ j,k=o+1+j:=⟨k-o-1,by omega⟩
   rw[auV (show ¬ o+1+j<o+1 by omega),auV h1,show o+1+j-(o+1)=j by omega,show o+1+j-o=j+1 by omega];by_cases h3:j<r.length
   ·simp[h3]
   ·rw[auV h3,auV (show ¬ j+1<r.length+1 by omega),auV (by omega)]
    congr 1;omega
theorem E6 (l:List β)(o:Nat)(vs:List β)(h:o+vs.length<=l.length):(rj l o vs).length=l.length:=by
 simp[rj];omega
theorem Nr (l:List β)(o:Nat)(vs:List β)(h:o<=l.length):(rj l o vs).take o=l.take o:=by
 unfold rj;rw[List.take_append,List.take_take,auS,Nat.min_self,Nat.min_eq_left h,Nat.sub_self,avA,List.append_nil]
theorem IP (l:List β)(o:Nat)(vs:List β)(h:o<=l.length):(rj l o vs).take (o+vs.length)=l.take o++vs:=by
 unfold rj;rw[<-avu,List.take_append,avx (by simp;omega),au3,auS,Nat.min_eq_left h,Nat.sub_self,avA,List.append_nil]
theorem Ns (hf:∀ a,(f a).length=sz)(l:List α)(i:Nat):(l.take i).flatMap f=(l.flatMap f).take (i*sz):=by
 induction l generalizing i with
 |nil=>simp
 |cons x r ih=>
  cases i with
  |zero=>simp
  |succ i=>
   rw[avz,avs,avs,ih,List.take_append,hf,avx (l:=f x) (by rw[hf,Nat.succ_mul];omega),show(i+1)*sz-sz=i*sz by rw[Nat.succ_mul];omega]
end
theorem nR {g:Nat}{t:TypeId}:∀(vs:List Value) (o:Nat) (w:World) (dz:Array Value),World.blk w g dz t->o+vs.length<=dz.size->World.blk (w.setCells g o vs) g (rj dz.toList o vs).toArray t/\ah (·=g) w (w.setCells g o vs)
 |[],o,w,dz,h,_=>by
  rw[World.setCells,RH];exact⟨h,ah.refl _ _⟩
 |v::r,o,w,dz,h,hl=>by
  rw[World.setCells];have h1:=ag h o v;rw[auL]at hl;obtain⟨h2,m2⟩:=nR r (o+1) _ _ h1 (by simp;omega);refine⟨?_,((ah.refl (·=g) w).setCell (p:=⟨g,o,none⟩) (.inl rfl) v).trans m2 (fun _ _ h=>h)⟩;rw[Array.toList_setIfInBounds,Nq _ _ _ _ (by simp;omega)]at h2;exact h2
theorem yR {P:Program}(w:World)(t e ty:TypeId)(z:Value)(ht:P.underlying t=some (.slice e))(hv:∀ w,(zeroValue e).run P w=.ok z w)(h1:∀ u∈z.cells.toList,u.oneCell'=true)(b o c:Nat)
  (hc:∀ j,j<z.cells.size->(w.cell? ⟨b,o+j,none⟩).isSome=true) (hf:∀ j,j<z.cells.size->w.frozen? ⟨b,o+j,none⟩=false):
  (Builtin.clear_ #[t] ty #[.slice (some ⟨b,o,none⟩) 1 c]).run P w=.ok (.tuple #[]) (w.setCells b o z.cells.toList):=by
 have hzc:(Builtin.zeroCells z.cells 1).toList=z.cells.toList:=by
  unfold Builtin.zeroCells;apply List.ext_getElem
  ·simp
  ·intro i h1 h2;have hi:i<z.cells.size:=by simpa using h2
   simp[awb hi,getElem!_pos z.cells i hi]
 have dj:=run_storeCells_cells (P:=P) b o z.cells.toList 0 w (by simpa using hc) (by simpa using hf) h1;simp only[Nat.add_zero]at dj;simp[Builtin.clear_,run_underlying ht,hv,hzc,dj]
theorem Nu (l:List Sn)(i:Nat)(_hi:i<l.length):(l.eraseIdx i).flatMap oB=(l.flatMap oB).take (i*5)++(l.drop (i+1)).flatMap oB:=by
 rw[List.eraseIdx_eq_take_drop_succ,au2,Ns eQ]
def Xh:Value:=.agg #[.string .empty,.int .i64 0,.int .i64 0,.int .i64 0,.int .i64 0]
theorem VI (l:List Sn)(i:Nat)(v:Value)(w:World)(base:Nat)(h:dX oB 5 85 w base v l)(hi:i<l.length)(hl:l.length<=1000):
  Calls prog 67 #[v,.int .i64 (i:Int),.int .i64 ((i:Int)+1)] w fun e w'=>∃ v',e=.returned v'/\dX oB 5 85 w' base v' (l.eraseIdx i)/\ah (fun g=>v.ownBlock=some g) w w':=by
 rcases h.2 with⟨rfl,h3⟩|⟨g,cap,dz,rfl,hb,hg,Ko,hm,cJ,vk⟩
 ·omega
 ·obtain⟨i0,hi0,nY,mU,oE⟩:=auZ tC;have zm:cap<=9223372036854775807:=hm;have hH:World.blk w g dz 85:=hg;have hHd:World.blk w.drew g dz 85:=hg;obtain⟨news,yu⟩:∃ news,(l.drop (i+1)).flatMap oB=news:=⟨_,rfl⟩
  have aW:news.length=(l.length-(i+1))*5:=by rw[<-yu,rV eQ,List.length_drop]
  have hcu:dz.toList.length=cap*5:=by simpa using cJ
  have rl:∀ t,t<news.length->news[t]?=dz[(i+1)*5+t]?:=by
   intro t ht;have e:l.flatMap oB=(l.take (i+1)).flatMap oB++news:=by rw[<-yu,<-au2,List.take_append_drop]
   have vq:((l.take (i+1)).flatMap oB).length=(i+1)*5:=by rw[rV eQ,auS,Nat.min_eq_left (by omega)]
   rw[e]at vk;have h1:(dz.toList.take (l.length*5))[(i+1)*5+t]?=((l.take (i+1)).flatMap oB++news)[(i+1)*5+t]?:=by rw[vk]
   rw[List.getElem?_append_right (by omega),vq,Nat.add_sub_cancel_left,List.getElem?_take,auT (by omega)]at h1;rw[<-h1,Array.getElem?_toList]
  obtain⟨A,hA,aih⟩:∃ A:Addr,(if cap=i+1 then some (⟨g,0,none⟩:Addr)else some ⟨g,(i+1)*5,none⟩)=some A/\Hid (∀ t u,news[t]?=some u->w.drew.cell? (A.add t)=some u):=by
   by_cases h:cap=i+1
   ·refine⟨⟨g,0,none⟩,by simp[h],hd0 fun t u hu=>?_⟩;have h0:news.length=0:=by rw[aW];omega
    rw[avj.1 h0]at hu;simp at hu
   ·refine⟨⟨g,(i+1)*5,none⟩,by simp[h],hd0 fun t u hu=>?_⟩;have ht:=(au0.1 hu).1;rw[rl t ht]at hu;rw[Addr.add_lit,aa hHd];exact hu
  have s1:Hid (news.length=(l.length-(i+1))*5):=hd0 aW;have s2:Hid (∀ u∈news,u.oneCell'=true):=hd0 (by
   intro u hu;rw[<-yu,List.mem_flatMap]at hu;obtain⟨x,_,hx⟩:=hu;exact Bu x u hx)
  have s3:Hid (∀ t,t<news.length->(w.drew.cell? ⟨g,0+i*5+t,none⟩).isSome=true/\w.drew.frozen? ⟨g,0+i*5+t,none⟩=false):=hd0 (by
   intro t ht;rw[aW]at ht;refine⟨?_,ae hHd _ rfl⟩;rw[aa hHd,Array.getElem?_eq_getElem (by rw[cJ];omega)];rfl)
  obtain⟨W1,Kr⟩:∃ W1,W1=w.drew.setCells g (0+i*5) news:=⟨_,rfl⟩
  obtain⟨KL,hM1⟩:=nR news (0+i*5) w.drew dz hHd (by rw[aW,cJ];omega);rw[<-Kr]at KL hM1;have Cg:i+(l.length-(i+1))=l.length-1:=by omega
  have NP:(rj dz.toList (0+i*5) news).length=cap*5:=by rw[E6 _ _ _ (by rw[hcu,aW];omega),hcu]
  have rp:∀ ty,(Builtin.clear_ #[92] ty #[.slice (some ⟨g,(i+(l.length-(i+1)))*5,none⟩) 1 (cap-(i+(l.length-(i+1))))]).run prog W1=.ok (.tuple #[]) (W1.setCells g ((i+(l.length-(i+1)))*5) Xh.cells.toList):=
   fun ty=>yR W1 _ _ ty Xh underlying92 zeroValue85 (by
    intro u hu;simp[Xh,Value.cells]at hu;rcases hu with rfl|rfl<;>rfl) g _ _ (fun t ht=>by
     rw[aa KL];have:t<5:=ht;rw[Array.getElem?_eq_getElem (by rw[av6,NP];omega)];rfl) (fun t ht=>ae KL _ rfl)
  obtain⟨hB2,OP⟩:=nR Xh.cells.toList ((i+(l.length-(i+1)))*5) W1 _ KL (by
   show _+5<=_;simp only[av6,NP];omega)
  have adr:(rj (rj dz.toList (0+i*5) news) ((i+(l.length-(i+1)))*5) Xh.cells.toList).length=cap*5:=by
   rw[E6 _ _ _ (by rw[NP];show _+5<=_;omega),NP]
  have sE:dX oB 5 85 (W1.setCells g ((i+(l.length-(i+1)))*5) Xh.cells.toList) base (.slice (some ⟨g,0,none⟩) (l.length-1) cap) (l.eraseIdx i):=by
   have hel:(l.eraseIdx i).length=l.length-1:=by rw[List.length_eraseIdx,auT hi]
   refine⟨by rw[rV eQ],.inr ⟨g,cap,_,by rw[hel],hb,hB2,by omega,hm,by simpa using adr,?_⟩⟩;rw[hel,<-Cg,Nr _ _ _ (by rw[NP];omega),show(i+(l.length-(i+1)))*5=0+i*5+news.length by rw[aW];omega,IP _ _ _ (by rw[hcu];omega),Nu l i hi,yu,<-vk,List.take_take,Nat.min_eq_left (by omega),avy]
  have dp:ah (fun g'=>(Value.slice (some ⟨g,0,none⟩) l.length cap).ownBlock=some g') w (W1.setCells g ((i+(l.length-(i+1)))*5) Xh.cells.toList):=((((ah.refl (·=g) w).drew).trans hM1 (fun _ _ h=>h)).trans OP (fun _ _ h=>h)).mono (fun k _ h=>by subst h;rfl);obtain⟨zs,hzs⟩:∃ zs,Xh.cells.toList=zs:=⟨_,rfl⟩
  rw[hzs]at sE dp;simp only[hzs]at rp;have HF:=hd0 (And.intro sE dp);have HW:=hd0 Kr;have HC:=hd0 rp;have hic:i<=cap:=by omega
  have hjc:i+1<=cap:=by omega
  have hij:¬ i=i+1:=by omega
  have dZ:((i:Int)==(i:Int)+1)=false:=by rw[avv];omega
  have Cx:(l.length:Int)<=1000:=by omega
  have Jh:(0:Int)<=(i:Int)+1:=by omega
  have BR:(i:Int)+1<=(l.length:Int):=by omega
  have Cj:((i:Int)+1).toNat=i+1:=by omega
  clear sE dp rp KL hB2 hM1 OP NP adr rl yu hH hHd vk cJ hg h aW hcu Cg Kr hzs;go_enter func67,ntmps67;go_wp2_with fail
  go_region_law (refine step_append_room rfl (.tmp 22) (.tmp 25) 92 rfl 85 i0 5 underlying92 hi0 mU g 0 i cap (by simp[Act.eval,Act.put]) A (l.length-(i+1)) (cap-(i+1)) news (by simp[Act.eval,Act.put]) s1.out aih.out s2.out (by omega) s3.out ?_;rw[<-HW.out])
  have hq1:¬ cap=i+(l.length-(i+1)):=by omega
  have KM:(i+(l.length-(i+1)))<=l.length:=by omega
  have hq3:¬ l.length<i+(l.length-(i+1)):=by omega
  have hq4:l.length<=cap:=by omega
  have hcz:∀ ty,(Builtin.clear_ #[92] ty #[.slice (some ⟨g,(i+(l.length-(i+1)))*5,none⟩) (l.length-(i+(l.length-(i+1)))) (cap-(i+(l.length-(i+1))))]).run prog W1=.ok (.tuple #[]) (W1.setCells g ((i+(l.length-(i+1)))*5) zs):=fun ty=>by
   rw[show l.length-(i+(l.length-(i+1)))=1 by omega];exact HC.out ty
  go_wp2;go_ret;refine⟨.slice (some ⟨g,0,none⟩) (l.length-1) cap,?_,HF.out.1,HF.out.2⟩;rw[show l.length-1=i+(l.length-(i+1)) by omega];rfl
end
theorem E7 {rd:Rd}{data:ay}{nums:List (List Int)}(h:eC rd data nums){n:Int}(hn:n∈nums.flatten):∃ s,rd n=.ok s/\s.length<=240:=by
 obtain⟨row,hr,hm⟩:=List.mem_flatten.1 hn;obtain⟨l,hl,e⟩:=List.mem_iff_getElem.1 hr;obtain⟨i,hi,e2⟩:=List.mem_iff_getElem.1 hm;have hg:(nums.getD l [])[i]?=some n:=by
  rw[List.getD,auM hl,avm,e,auM hi,e2]
 cases l with
 |zero=>exact⟨_,h.chunk i n hg,by rw[jc];omega⟩
 |succ l=>exact⟨_,h.ptr l i n hg,by rw[rR,jd];omega⟩
theorem aR.read {rd:Rd}{data:ay}{b:fQ}{S:Nat->Prop}(h:aR rd data b S){n:Nat}(hn:S n):∃ s,rd n=.ok s/\s.length<=240:=by
 obtain⟨_,nums,_,ht,hS⟩:=h;exact E7 ht ((hS n).1 hn)
theorem lC.read {rd:Rd}:∀ {ys:List fC} {xs:List Nt} {S:Nat->Prop},lC rd ys xs S->∀ n:Nat,S n->∃ s,rd n=.ok s/\s.length<=240
 |[],[],_,h,n,hn=>absurd hn (h n)
 |y::ys,x::xs,S,⟨_,A,B,h2,h3,h4⟩,n,hn=>by
  rcases(h4 n).1 hn with h|h
  ·exact h2.read h
  ·exact h3.read n h
 |[],_::_,_,h,_,_=>h.elim
 |_::_,[],_,h,_,_=>h.elim
theorem j5.read {rd:Rd}{inos:List fC}{nodes:List Nt}{t:fQ}{S:Nat->Prop}(h:j5 rd inos nodes t S)(n:Nat)(hn:S n):∃ s,rd n=.ok s/\s.length<=240:=by
 obtain⟨A,B,hA,hB,hS⟩:=h;rcases(hS n).1 hn with h|h
 ·exact hA.read n h
 ·exact hB.read h
theorem Nv {v:Vs}(h:jY v){x:Sn}(hx:x∈v.b.list)(n:Nat)(hn:ai (v.b.planes.getD x.plane.toNat []) n=true):1<=n/\n<v.blocks/\∃ s,v.rd n=.ok s/\s.length<=240:=by
 obtain⟨inos,nodes,_,hT⟩:=h.snaps x hx;obtain⟨h1,h2⟩:=h.list.plane x hx;have:=(h.planes x.plane.toNat (by omega)).2 n hn;exact⟨this.1,this.2,hT.read n hn⟩
section
open Go.RowKit
attribute [local go_sem] auG
def bM (l:List Sn)(s:ay):Int:=l.foldl (fun a x=>if x.name=s then x.id else a) 0
theorem E8 (l:List Sn)(x:Sn)(s:ay):bM (l++[x]) s=if x.name=s then x.id else bM l s:=by simp[bM,List.foldl_append]
theorem uB {l:List Sn}{k:Nat}{x:Sn}(h:l[k]?=some x)(s:ay):bM (l.take (k+1)) s=if x.name=s then x.id else bM (l.take k) s:=by
 rw[auO,h,Option.toList_some,E8]
theorem E9 {l:List Sn}{s:ay}(h:∀ x∈l,x.name≠s)(a:Int):l.foldl (fun a x=>if x.name=s then x.id else a) a=a:=by
 induction l generalizing a with
 |nil=>rfl
 |cons x r ih=>
  rw[List.foldl_cons,auV (h x (by simp)),ih (fun y hy=>h y (by simp[hy]))]
theorem fZ {l:List Sn}(h:(l.map (·.name)).Nodup)(s:ay):bM l s=((aP l s).getD eS).id:=by
 unfold bM
 induction l with
 |nil=>rfl
 |cons x r ih=>
  rw[auJ,List.nodup_cons]at h;rw[List.foldl_cons];by_cases hx:x.name=s
  ·rw[auT hx,E9 (fun y hy e=>h.1 (avh.2 ⟨y,hy,e.trans hx.symm⟩))];have:aP (x::r) s=some x:=by unfold aP;rw[List.find?_cons_of_pos (by simpa using hx)]
   rw[this];rfl
  ·rw[auV hx,ih h.2];have:aP (x::r) s=aP r s:=by unfold aP;rw[List.find?_cons_of_neg (by simpa using hx)]
   rw[this]
theorem RI {w:World}{p:Nat}{v:Vs}{a:eV}(h:lp w p v a)(hl:v.b.list.length<=1000)(A B:ay):
  Calls prog 17 #[aq p,aB A,aB B] w fun e w'=>e=.returned (.tuple #[.int .i64 (bM v.b.list A),.int .i64 (bM v.b.list B)])/\af w w':=by
 have SN:=hd0 (rc h hl);have Cx:(v.b.list.length:Int)<=1000:=by omega
 clear h;go_enter func17,ntmps17;go_wp2_with fail;refine SN.out.mono ?_;rintro e w1 ⟨x,rfl,ho,k1⟩;obtain⟨la,cap,rfl,hx⟩:=bY eQ ho;have HX:=hd0 hx;have bS:=hd0 k1;clear ho hx k1 SN;generalize hL:v.b.list=L at*;have HLL:=hd0 hL;clear hL;go_wp2_with fail
 go_loopw [8,9,11] (fun xa xb i wr=>∃ k:Nat,k<=L.length/\i=.int .i64 (k:Int)/\xa=.int .i64 (bM (L.take k) A)/\xb=.int .i64 (bM (L.take k) B)/\wr=w1) (fun _ _ i _=>L.length-(intOf i).toNat)
 case atStart=>exact⟨0,by omega,rfl,rfl,rfl,rfl⟩
 case round=>
  obtain⟨k,hk,rfl,rfl,rfl,rfl⟩:=hrel;by_cases aK:k<L.length
  ·have dR:(k:Int)<(L.length:Int):=by omega
   obtain⟨y,hy⟩:∃ y,L[k]?=some y:=⟨_,auM aK⟩
   obtain⟨rb,o,rfl,hc⟩:=HX.out k y hy;have c0:wr.cell? ⟨rb,o+k*5,none⟩=some (.string ⟨y.name.toArray⟩):=hc 0 _ rfl;have c1:wr.cell? ⟨rb,o+k*5+1,none⟩=some (.int .i64 y.id):=hc 1 _ rfl;have HA:=hd0 (uB hy A);have HB:=hd0 (uB hy B);clear hc hy;by_cases h1:y.name=A
   ·have b1:(y.name==A)=true:=by simpa using h1
    have Wh:Hid (bM (L.take (k+1)) A=y.id):=hd0 (by rw[HA.out,auT h1]);clear h1;by_cases h2:y.name=B
    ·have b2:(y.name==B)=true:=by simpa using h2
     have jL:Hid (bM (L.take (k+1)) B=y.id):=hd0 (by rw[HB.out,auT h2]);clear h2;go_wp2_with fail;exact⟨⟨k+1,by omega,by go_num,by rw[Wh.out],by rw[jL.out],trivial⟩,by simp[intOf];omega⟩
    ·have b2:(y.name==B)=false:=by simpa using h2
     have jL:Hid (bM (L.take (k+1)) B=bM (L.take k) B):=hd0 (by rw[HB.out,auV h2]);clear h2;go_wp2_with fail;exact⟨⟨k+1,by omega,by go_num,by rw[Wh.out],by rw[jL.out],trivial⟩,by simp[intOf];omega⟩
   ·have b1:(y.name==A)=false:=by simpa using h1
    have Wh:Hid (bM (L.take (k+1)) A=bM (L.take k) A):=hd0 (by rw[HA.out,auV h1]);clear h1;by_cases h2:y.name=B
    ·have b2:(y.name==B)=true:=by simpa using h2
     have jL:Hid (bM (L.take (k+1)) B=y.id):=hd0 (by rw[HB.out,auT h2]);clear h2;go_wp2_with fail;exact⟨⟨k+1,by omega,by go_num,by rw[Wh.out],by rw[jL.out],trivial⟩,by simp[intOf];omega⟩
    ·have b2:(y.name==B)=false:=by simpa using h2
     have jL:Hid (bM (L.take (k+1)) B=bM (L.take k) B):=hd0 (by rw[HB.out,auV h2]);clear h2;go_wp2_with fail;exact⟨⟨k+1,by omega,by go_num,by rw[Wh.out],by rw[jL.out],trivial⟩,by simp[intOf];omega⟩
  ·obtain rfl:k=L.length:=by omega
   rw[auQ];go_wp2;go_ret2;exact⟨by rw[HLL.out];rfl,bS.out⟩
end
section
open Go.RowKit
attribute [local go_sem] auG
theorem Nw:Rn:=fun l i v w base h hi hl=>VI l i v w base h hi hl
def dfA:Except Int (ay×ay)->ay
 | .error _=>[]
 | .ok x=>x.1
def dfB:Except Int (ay×ay)->ay
 | .error _=>[]
 | .ok x=>x.2
def Zt:Except Int (ay×ay)->Int
 | .error e=>e
 | .ok _=>0
theorem Fa (x:Except Int (ay×ay)):Ka x=.tuple #[aB (dfA x),aB (dfB x),.int .i64 (Zt x)]:=by cases x<;>rfl
theorem Nx {v:Vs}{b t:ay}{e:Int}(h:bR v b t=.error e):e=160\/e=162:=by
 unfold bR at h;split at h
 ·injection h with h;exact .inl h.symm
 ·split at h
  ·injection h with h;exact .inr h.symm
  ·split at h
   ·cases h
   ·split at h
    ·injection h with h;exact .inr h.symm
    ·cases h
theorem Kd {v:Vs}(hg:jY v)(b t:ay):(dfA (bR v b t)).length<=600/\(dfB (bR v b t)).length<=600:=by
 cases hx:bR v b t with
 |error e=>exact⟨avw _,avw _⟩
 |ok x=>
  obtain⟨s,d⟩:=x;show s.length<=600/\d.length<=600;unfold bR at hx;split at hx
  ·cases hx
  ·split at hx
   ·cases hx
   ·rename_i x hfx
    have h1:=fO hg (dQ hfx);split at hx
    ·injection hx with hx;injection hx with e1 e2;subst e1 e2;exact⟨h1,by simp⟩
    ·split at hx
     ·cases hx
     ·rename_i y hfy
      have h2:=fO hg (dQ hfy);injection hx with hx;injection hx with e1 e2;subst e1 e2;have h3:=jh (dh v x) (dh v y);have h4:=jh (dh v y) (dh v x);omega
abbrev acI (blocks:Int)(av bv:Value)(base target:ay):Value:=.agg #[.int .i64 blocks,av,bv,.string ⟨base.toArray⟩,.string ⟨target.toArray⟩]
theorem mS {w:World}{b:Nat}{t:TypeId}{c0 c1 c2 c3 c4:Value}(h:World.blk w b #[c0,c1,c2,c3,c4] t):
  w.cell? ⟨b,0,none⟩=some c0/\w.cell? ⟨b,1,none⟩=some c1/\w.cell? ⟨b,2,none⟩=some c2/\w.cell? ⟨b,3,none⟩=some c3/\w.cell? ⟨b,4,none⟩=some c4:=
 ⟨aa h 0,aa h 1,aa h 2,aa h 3,aa h 4⟩
end
section
open Go.ChangeShapes Go.WideShapes Go.ChangeAt Go.Deep Go.RowKit
theorem Az {H:Type}{d:DataW H}{l:List (DataW H)}(h:d∈l):Rows.uptoBulk d<=Rows.uptoBulkAll l:=by
 induction l with
 |nil=>cases h
 |cons x r ih=>
  simp only[Rows.uptoBulkAll]
  cases au8.1 h with
  |inl e=>subst e;omega
  |inr e=>have:=ih e;omega
section
variable {H:Type}{enc:TypeId×Value->H}{P:Program}{w:World}{base:Nat}{spare:Nat->Bool}{held:Bool}
theorem sy {t e:TypeId}{fs:Array Field}{fuel:Nat}{cs:List Value}{x:DataW H×List MemPlace}(ht:P.underlying t=some (.slice e))(he:P.underlying e=some (.struct fs))
  (Ce:oneCellFields P fs=true) (hC:P.cellsOf e=fs.size) (h:DataW.trod enc P w base spare held fuel t cs=some x):
  (cs=[.slice none 0 0]/\x=(.nil,[]))\/
  ∃(a:Addr) (len cap m:Nat) (D:Nat->DataW H) (Pl:Nat->List MemPlace),cs=[.slice (some a) len cap]/\base<=a.block/\len<=cap/\cap<=maxLen/\m=(if spare a.block then cap else len)/\
   x=(.slice ((List.range len).map D) ((List.range (m-len)).map fun j=>D (len+j)),MemPlace.row a (m*fs.size)++(List.range m).flatMap Pl)/\
   ∀ i,i<m->∃(ys:List (DataW H×List MemPlace)) (n:Nat),D i=.agg (ys.map (·.1))/\Pl i=ys.flatMap (·.2)/\ys.length=fs.size/\
    ∀(j:Nat) (f:Field),fs[j]?=some f->∃(v:Value) (y:DataW H×List MemPlace),w.cell? (a.add (i*fs.size+j))=some v/\ys[j]?=some y/\DataW.trod enc P w base spare held n f.type [v]=some y:=by
 rcases open_slice ht h with h0|⟨a,len,cap,m,n,D,Pl,Kv,hb,hl,hm,I7,hx,hi⟩
 ·exact .inl h0
 ·refine .inr ⟨a,len,cap,m,D,Pl,Kv,hb,hl,hm,I7,by rw[hC]at hx;exact hx,fun i him=>?_⟩;obtain⟨cs',hc,Jc⟩:=hi i him;rw[hC]at hc;obtain⟨ys,n',Wm,hy,aW,hyl,hf⟩:=DataW.trod_struct he Jc;obtain⟨_,rp,ni⟩:=World.cells?_some hc;simp only[Prod.mk.injEq]at hy;refine⟨ys,n',hy.1,hy.2,hyl,fun j f hj=>?_⟩;obtain⟨ho,hk⟩:=hone_of Ce j f hj;have CD:j<fs.size:=(au7.1 hj).1;have gi:=ni j CD;have hv:cs'[j]?=some (cs'[j]'(by omega)):=auM (by omega);have h1:=hf j f hj;rw[ho,hk]at h1;have ael:(cs'.drop j).take 1=[cs'[j]'(by omega)]:=by
   rw[List.drop_eq_getElem_cons (by omega)];rfl
  rw[ael]at h1;have hys:ys[j]?=some (ys[j]'(by omega)):=auM (by omega);refine⟨_,_,?_,hys,h1.trans hys⟩;rw[<-Go.Deep.add_add,gi,hv]
end
theorem Ny {W:World}{b o:Nat}{sp:Option Nat}{u:Value}(h:W.cell? ((⟨b,o,sp⟩:Addr).add 0)=some u):sp=none:=by
 rcases sp with _|q
 ·rfl
 ·exfalso;simp[Addr.add,World.cell?]at h
  cases hb:W.heap[b]? with
  |none=>simp[hb]at h
  |some ob=>cases ob<;>simp[hb]at h
section
variable {H:Type}{enc:TypeId×Value->H}
def VJ (c:bU):DataW H:=.agg [.lit (.int .i64 c.kind),.lit (.string c.path),.lit (.string c.dest),.lit (.int .i64 c.pos),.lit (.string c.data)]
theorem yc {W:World}{fuel:Nat}{v:Value}{d:DataW H}{p:List MemPlace}(hf:DataW.trod enc prog W 0 (fun _=>true) true fuel 29 [v]=some (d,p))(KI:Rows.uptoBulk d<=1048576):
  ∃ l:List bU,ko qk 5 W v l/\l.length<=1048576/\∀ c∈l,c.Small/\-9223372036854775808<=c.kind/\c.kind<=9223372036854775807:=by
 rcases sy underlying29 underlying55 (by kernel_rfl) (by kernel_rfl) hf with⟨Kv,_⟩|⟨a,len,cap,m,D,Pl,Kv,_,hl,hm,I7,hx,hi⟩
 ·obtain rfl:v=_:=by simpa using Kv
  exact⟨[],⟨none,0,rfl,fun j x h=>by simp at h⟩,by simp,fun c hc=>by cases hc⟩
 ·obtain rfl:v=_:=by simpa using Kv
  have B3:=avZ Prod.fst hx;simp only at B3;subst B3;simp only[if_true]at I7;have each:∀ i,i<len->∃ c:bU,(∀ k u,(qk c)[k]?=some u->W.cell? (a.add (i*5+k))=some u)/\D i=VJ c/\(-9223372036854775808<=c.pos/\c.pos<=9223372036854775807)/\(-9223372036854775808<=c.kind/\c.kind<=9223372036854775807):=by
   intro i Je;obtain⟨ys,n,hD,_,hyl,gi⟩:=hi i (by omega);obtain⟨z0,z1,z2,z3,z4,rfl⟩:∃ z0 z1 z2 z3 z4,ys=[z0,z1,z2,z3,z4]:=by
    have hs:ys.length=5:=hyl
    match ys,hs with
    |[a,b,c,d,e],_=>exact⟨a,b,c,d,e,rfl⟩
   obtain⟨v0,y0,c0,e0,t0⟩:=gi 0 _ rfl;obtain⟨v1,y1,c1,e1,t1⟩:=gi 1 _ rfl;obtain⟨v2,y2,c2,e2,t2⟩:=gi 2 _ rfl;obtain⟨v3,y3,c3,e3,t3⟩:=gi 3 _ rfl;obtain⟨v4,y4,c4,e4,t4⟩:=gi 4 _ rfl;obtain⟨n0,f0,rfl,w0⟩:=DataW.trod_int underlying3 t0;obtain⟨s1,f1,rfl,_⟩:=DataW.trod_string underlying9 t1;obtain⟨s2,f2,rfl,_⟩:=DataW.trod_string underlying9 t2;obtain⟨n3,f3,rfl,w3⟩:=DataW.trod_int underlying3 t3;obtain⟨s4,f4,rfl,_⟩:=DataW.trod_string underlying9 t4;injection f0 with f0;injection f1 with f1;injection f2 with f2;injection f3 with f3;injection f4 with f4;subst f0 f1 f2 f3 f4;refine⟨⟨n0,s1.data.toList,s2.data.toList,n3,s4.data.toList⟩,fun k u hku=>?_,?_,tK w3,tK w0⟩
   ·match k,hku with
    |0,h=>cases h;exact c0
    |1,h=>cases h;exact c1
    |2,h=>cases h;exact c2
    |3,h=>cases h;exact c3
    |4,h=>cases h;exact c4
    |k+5,h=>simp[qk]at h
   ·have q0:=avR e0;have q1:=avR e1;have q2:=avR e2;have q3:=avR e3;have q4:=avR e4;rw[hD];simp only[auJ,List.map_nil,q0,q1,q2,q3,q4];rfl
  obtain⟨g,hg⟩:∃ g:Nat->bU,∀ i,i<len->(∀ k u,(qk (g i))[k]?=some u->W.cell? (a.add (i*5+k))=some u)/\D i=VJ (g i)/\(-9223372036854775808<=(g i).pos/\(g i).pos<=9223372036854775807)/\(-9223372036854775808<=(g i).kind/\(g i).kind<=9223372036854775807):=
   ⟨fun i=>if hl:i<len then(each i hl).choose else bU.zero,fun i hl=>by simp only[dif_pos hl];exact(each i hl).choose_spec⟩
  have ae7:∀ i,i<len->Rows.uptoBulk (D i)<=1048576:=fun i Je=>by
   have h1:Rows.uptoBulk (D i)<=Rows.uptoBulkAll ((List.range len).map D):=Az (avh.2 ⟨i,avH.2 Je,rfl⟩);simp only[Rows.uptoBulk]at KI;omega
  have aW:∀(L:List (DataW H)),L.length<=Rows.uptoBulkAll L:=by
   intro L
   induction L with
   |nil=>simp
   |cons x r ih=>
    simp only[Rows.uptoBulkAll,auL];have:1<=Rows.uptoBulk x:=by
     cases x with
     |lit l=>cases l<;>simp[Rows.uptoBulk]
     |_=>simp[Rows.uptoBulk]
    omega
  refine⟨(List.range len).map g,⟨some a,cap,by simp,fun j x hx=>?_⟩,?_,fun c hc=>?_⟩
  ·have CD:j<len:=by have:=(au0.1 hx).1;simpa using this
   have TM:g j=x:=by
    rw[avM,avN CD]at hx;exact avR hx
   have h1:=(hg j CD).1;rw[TM]at h1;obtain⟨b,o,sp⟩:=a;have hsp:sp=none:=Ny ((hg 0 (by omega)).1 0 _ rfl);subst hsp;refine⟨b,o,rfl,fun i c hc=>?_⟩;have h2:=h1 i c hc;rw[gz]at h2;rw[au1];exact h2
  ·have h1:=aW ((List.range len).map D);simp only[Rows.uptoBulk]at KI;simp only[avf,List.length_range]at h1 ⊢;omega
  ·obtain⟨i,hi2,rfl⟩:=avh.1 hc;have Je:=avH.1 hi2;obtain⟨_,hD,hp,hkd⟩:=hg i Je;have h1:=ae7 i Je;rw[hD]at h1;have h3:Rows.uptoBulk (VJ (H:=H) (g i))=1+((g i).path.length+1+((g i).dest.length+1+(1+((g i).data.length+1))))+1:=by simp[VJ,Rows.uptoBulk,Rows.uptoBulkAll]
   exact⟨⟨by omega,by omega,by omega,hp⟩,hkd⟩
theorem RJ {W:World}{base:Nat}{v:Value}{d:DataW H}{p:List MemPlace}{ds:List (DataW H)}(cg:Value.okWide prog W .any base 31 v)(h:DataW.Trod enc prog W 0 (fun _=>true) true 31 v d p)
  (hk:Rows.uptoSmall H ds=true) {j:Nat} (hj:ds[j]?=some d):
  ∃(n:Int) (av bv:Value) (cs bs:List bU) (b t:ay),v=acI n av bv b t/\(-9223372036854775808<=n/\n<=9223372036854775807)/\ko qk 5 W av cs/\ko qk 5 W bv bs/\cs.length<=1048576/\bs.length<=1048576/\(∀ c∈cs,c.Small)/\(∀ c∈bs,c.Small)/\b.length<=1048576/\t.length<=1048576:=by
 obtain⟨cs,rfl,cJ⟩:=okWide_struct underlying31 cg;obtain⟨c0,c1,c2,c3,c4,rfl⟩:∃ c0 c1 c2 c3 c4,cs=#[c0,c1,c2,c3,c4]:=by
  have hs:cs.size=5:=cJ.trans (by kernel_rfl);obtain⟨l⟩:=cs
  match l,hs with
  |[a,b,c,d,e],_=>exact⟨a,b,c,d,e,rfl⟩
 obtain⟨fuel,hf⟩:=h;obtain⟨xs,n,_,hx,_,aW,rl⟩:=DataW.trod_struct underlying31 hf;have e3:prog.cellsOf 3=1:=by kernel_rfl
 have e9:prog.cellsOf 9=1:=by kernel_rfl
 have e29:prog.cellsOf 29=1:=by kernel_rfl
 obtain⟨x0,x1,x2,x3,x4,rfl⟩:∃ x0 x1 x2 x3 x4,xs=[x0,x1,x2,x3,x4]:=by
  match xs,aW with
  |[a,b,c,d,e],_=>exact⟨a,b,c,d,e,rfl⟩
 have h0:=rl 0 _ rfl;have h1:=rl 1 _ rfl;have h2:=rl 2 _ rfl;have h3:=rl 3 _ rfl;have h4:=rl 4 _ rfl;have hd:d=.agg [x0.1,x1.1,x2.1,x3.1,x4.1]:=avZ Prod.fst hx;have hb:=Az (auN hj);have eL:Rows.uptoBulkAll ds<=1048576:=by simpa[Rows.uptoSmall]using hk
 rw[hd]at hb;have uM:Rows.uptoBulk (DataW.agg [x0.1,x1.1,x2.1,x3.1,x4.1])=Rows.uptoBulk x0.1+(Rows.uptoBulk x1.1+(Rows.uptoBulk x2.1+(Rows.uptoBulk x3.1+Rows.uptoBulk x4.1)))+1:=by simp[Rows.uptoBulk,Rows.uptoBulkAll]
 obtain⟨n0,f0,rfl,w0⟩:=DataW.trod_int underlying3 h0;obtain⟨s3,f3,rfl,_⟩:=DataW.trod_string underlying9 h3;obtain⟨s4,f4,rfl,_⟩:=DataW.trod_string underlying9 h4;have g0:c0=Value.int .i64 n0:=by
  have h:List.take (prog.cellsOf 3) (List.drop 0 (Value.agg #[c0,c1,c2,c3,c4]).cells.toList)=[Value.int .i64 n0]:=f0;rw[e3]at h;simpa[Value.cells]using h
 have g3:c3=Value.string s3:=by
  have h:List.take (prog.cellsOf 9) (List.drop 3 (Value.agg #[c0,c1,c2,c3,c4]).cells.toList)=[Value.string s3]:=f3;rw[e9]at h;simpa[Value.cells]using h
 have g4:c4=Value.string s4:=by
  have h:List.take (prog.cellsOf 9) (List.drop 4 (Value.agg #[c0,c1,c2,c3,c4]).cells.toList)=[Value.string s4]:=f4;rw[e9]at h;simpa[Value.cells]using h
 have k1:DataW.trod enc prog W 0 (fun _=>true) true n 29 [c1]=some (x1.1,x1.2):=by
  have h:DataW.trod enc prog W 0 (fun _=>true) true n 29 (List.take (prog.cellsOf 29) (List.drop 1 (Value.agg #[c0,c1,c2,c3,c4]).cells.toList))=some x1:=h1;rw[e29]at h;simpa[Value.cells]using h
 have k2:DataW.trod enc prog W 0 (fun _=>true) true n 29 [c2]=some (x2.1,x2.2):=by
  have h:DataW.trod enc prog W 0 (fun _=>true) true n 29 (List.take (prog.cellsOf 29) (List.drop 2 (Value.agg #[c0,c1,c2,c3,c4]).cells.toList))=some x2:=h2;rw[e29]at h;simpa[Value.cells]using h
 have l3:Rows.uptoBulk (DataW.lit (H:=H) (.string s3.data.toList))=s3.data.toList.length+1:=by simp[Rows.uptoBulk]
 have l4:Rows.uptoBulk (DataW.lit (H:=H) (.string s4.data.toList))=s4.data.toList.length+1:=by simp[Rows.uptoBulk]
 simp only at uM hb;obtain⟨cs,a1,a2,a3⟩:=yc k1 (by omega);obtain⟨bs,b1,b2,b3⟩:=yc k2 (by omega);subst g0 g3 g4;exact⟨n0,c1,c2,cs,bs,s3.data.toList,s4.data.toList,rfl,tK w0,a1,b1,a2,b2,fun c h=>(a3 c h).1,fun c h=>(b3 c h).1,by omega,by omega⟩
end
end
end Go.Proofs.YtkghpdcloaiflaaGreatDoor
