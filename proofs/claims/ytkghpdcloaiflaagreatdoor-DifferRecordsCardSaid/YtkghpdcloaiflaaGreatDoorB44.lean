import Derived.Test.YtkghpdcloaiflaaGreatDoorB42
import Derived.Test.YtkghpdcloaiflaaGreatDoorB43
set_option maxHeartbeats 8000000
set_option maxRecDepth 100000
namespace Go.Proofs.YtkghpdcloaiflaaGreatDoor
open _root_.Go.Proofs.Tryz
section
open Go.RowKit
attribute [local go_sem] auV
theorem EX (S:List UInt8)(k:Nat)(x:Int)(r:Nat)(w:World)(h:jh w r S k x)(hk:k<=S.length)(hS:S.length<=140737488351232):
  Calls prog 43 #[.pointer (some ⟨r,0,none⟩),.int .i64 65536] w fun e w'=>∃(t:List UInt8) (y:Int) (k':Nat),e=.returned (.tuple #[.string ⟨t.toArray⟩,.int .i64 y])/\jh w' r S k' y/\ah (·=r) w w'/\k'<=S.length/\t.length<=65536:=by
 by_cases hx:x=0
 ·subst hx;refine(xT S k 65536 r w h hk hS (by omega)).mono ?_;rintro e w' ⟨ik,hc⟩
  cases hg:jF 0 0 (S.drop k)with
  |error y=>
   rw[hg]at hc;obtain⟨rfl,hr⟩:=hc;exact⟨[],y,k,rfl,hr,ik,hk,by simp⟩
  |ok nk=>
   obtain⟨n,j⟩:=nk;rw[hg]at hc;have hb:=rg (S.drop k) 0 0 n j (by omega) (by simp) hg;rw[List.length_drop]at hb;have hj:k+j<=S.length:=by omega
   simp only at hc;by_cases hn:(n:Int)<=65536
   ·rw[au8 hn]at hc;by_cases hl:k+j+n<=S.length
    ·rw[au8 hl]at hc;obtain⟨rfl,hr⟩:=hc;exact⟨_,0,k+j+n,rfl,hr,ik,hl,by rw[au7];omega⟩
    ·rw[ava hl]at hc;obtain⟨rfl,hr⟩:=hc;exact⟨[],32,k+j,rfl,hr,ik,hj,by simp⟩
   ·rw[ava hn]at hc;obtain⟨rfl,hr⟩:=hc;exact⟨[],31,k+j,rfl,hr,ik,hj,by simp⟩
 ·refine(IV S k x 65536 r w h hx).mono ?_;rintro e w' ⟨rfl,hk1⟩;exact⟨[],x,k,rfl,ab hk1 h id,hk1.mono (fun _ _ h=>h.elim),hk,by simp⟩
theorem EY (s:ay)(w:World)(hs:s.length<=65536):
  Calls prog 37 #[ax s] w fun e w'=>e=.returned (ax (aG s.length++s))/\af w w':=by
 have TX:=hd0 (IR s w hs);go_enter func37,ntmps37;go_wp2_with fail;refine TX.out.mono ?_;rintro e w1 ⟨rfl,k1⟩;have HK:=hd0 k1;clear k1 TX;go_wp2;go_ret;exact⟨rfl,HK.out⟩
theorem rZ (n:Int)(s:ay)(w:World)(hs:s.length<=140737488351232):
  Calls prog 10 #[.int .i64 n,ax s] w fun e w'=>e=.returned (pr n s)/\af w w':=by
 by_cases bQ:jZ n s
 ·have hv:pr n s=.tuple #[ax (bJ n s),.int .i64 0]:=au8 bQ;obtain⟨h1,h2,h3⟩:=bQ;have q1:¬ n<1:=by omega
  have q2:¬(4095:Int)<n:=by omega
  have q3:¬(240:Int)<(s.length:Int):=by omega
  obtain⟨m,rfl⟩:∃ m:Nat,n=(m:Int):=⟨n.toNat,by omega⟩
  have mZ:af w (w.alloc (.cells #[.int .i64 (m:Int)] 3)):=(ah.refl _ w).alloc _;have NU:=hd0 (Ng [m] (w.alloc (.cells #[.int .i64 (m:Int)] 3)) w.heap.size (by simp;omega) (by simp) (fun j x hx=>by
   have hb:=av w #[.int .i64 (m:Int)] 3;rw[aa hb j];rcases j with _|j
   ·simp at hx;subst hx;rfl
   ·simp at hx))
  have HV:=hd0 hv;have HK:=hd0 mZ;have TX:=hd0 (fun W=>EY s W (by omega));have e9:=aV (n:=m) (by omega);have e9':=aV (n:=s.length) (by omega);have tJ:¬ 9223372036854775807<(aG m).length+((aG s.length).length+s.length):=by omega
  clear hv h1 h2 h3 mZ e9 e9';go_enter func10,ntmps10;go_wp2_with fail;refine NU.out.mono ?_;rintro e w2 ⟨rfl,k2⟩;have bw:=hd0 (HK.out.keep k2);clear k2 NU;simp only[avH,List.flatMap_nil,List.append_nil];go_wp2_with fail;refine(TX.out _).mono ?_;rintro e w3 ⟨rfl,k3⟩;have dR:=hd0 (bw.out.keep k3);clear k3 TX;go_wp2;go_ret2;exact⟨by rw[HV.out];simp[bJ],dR.out⟩
 ·have hv:pr n s=.tuple #[.string ⟨#[]⟩,.int .i64 190]:=ava bQ;have HV:=hd0 hv;have Yk:(s.length:Int)<=140737488351232:=by omega
  unfold jZ at bQ;by_cases q1:n<1
  ·clear bQ hv;go_enter func10,ntmps10;go_wp2;go_ret2;exact⟨by rw[HV.out];rfl,ah.refl _ _⟩
  ·by_cases q2:(4095:Int)<n
   ·clear bQ hv;go_enter func10,ntmps10;go_wp2;go_ret2;exact⟨by rw[HV.out];rfl,ah.refl _ _⟩
   ·have q3:(240:Int)<(s.length:Int):=by omega
    clear bQ hv;go_enter func10,ntmps10;go_wp2;go_ret2;exact⟨by rw[HV.out];rfl,ah.refl _ _⟩
theorem Ni (n:Nat)(s:ay)(bQ:jZ (n:Int) s)(w:World):
  Calls prog 12 #[ax (bJ (n:Int) s)] w fun e w'=>e=.returned (.tuple #[.int .i64 (n:Int),ax s,.int .i64 0])/\af w w':=by
 obtain⟨S,hS⟩:∃ S,bJ (n:Int) s=S:=⟨_,rfl⟩
 have Cw:=hd0 bQ;have he:S=aG n++(aG s.length++s):=by rw[<-hS];unfold bJ;simp
 obtain⟨h1,h2,h3⟩:=bQ;have e9:=aV (n:=n) (by omega);have e9':=aV (n:=s.length) (by omega);have su:S.length<=140737488351232:=by rw[he];simp only[avi];omega
 have HSL:=hd0 (And.intro su (And.intro h3 hS));have HE:=hd0 he;obtain⟨r,hr⟩:∃ r,w.heap.size=r:=⟨_,rfl⟩
 have mZ:af w (w.alloc (.cells #[ax S,.int .i64 0,.int .i64 0] 75)):=(ah.refl _ w).alloc _;have hb:jh (w.alloc (.cells #[ax S,.int .i64 0,.int .i64 0] 75)) r S 0 0:=by rw[<-hr];exact av _ _ _
 have NU:=hd0 (Rt S (aG s.length++s) n 0 4611686018427387904 r _ hb (by rw[avR];exact he) su (by omega) (by omega) (by omega));have Hr:=hd0 hr;have HK:=hd0 mZ;rw[hS];clear h1 h2 h3 e9 e9' su he mZ hb hS;go_enter func12,ntmps12;go_wp2_with fail
 try rw[hr]
 refine NU.out.mono ?_;rintro e w2 ⟨rfl,ol,m2⟩;have ft:Hid (af w w2):=hd0 (HK.out.new m2 (by rw[Hr.out];exact au4 _));rw[avN]at ol;have TX:=hd0 (Nh S s [] (aG n).length 65536 r w2 ol (by rw[HE.out];simp) HSL.out.1 (by omega) (by have:=HSL.out.2.1;omega));clear m2 ol NU;go_wp2_with fail;refine TX.out.mono ?_;rintro e w3 ⟨rfl,vh,m3⟩;have lq:Hid (af w w3):=hd0 (ft.out.new m3 (by rw[Hr.out];exact au4 _));have gQ:(aG n).length+(aG s.length).length+s.length=S.length:=by rw[HE.out];simp only[avi];omega
 rw[gQ]at vh;have yC:=hd0 vh;have DR:=rZ (n:Int) s w3 (by have:=HSL.out.2.1;omega);rw[show pr (n:Int) s=.tuple #[ax (bJ (n:Int) s),.int .i64 0]from au8 Cw.out,HSL.out.2.2]at DR;have DR:=hd0 DR;clear m3 vh TX gQ;go_wp2_with fail;refine DR.out.mono ?_;rintro e w4 ⟨rfl,k4⟩;have ne:=hd0 (lq.out.keep k4);have EN:=hd0 (Ru S r w4 (ab k4 yC.out id) HSL.out.1);clear k4 DR;go_wp2_with fail;refine EN.out.mono ?_;rintro e w5 ⟨rfl,k5⟩;have sE:=hd0 (ne.out.keep k5);clear k5 EN;go_wp2;go_ret3;exact⟨rfl,sE.out⟩
theorem IW (S:ay)(hS:S.length<=140737488351232)(yA:∀(n:Int) (s:ay),jZ n s->bJ n s≠S)(w:World):
  Calls prog 12 #[ax S] w fun e w'=>e=.returned (.tuple #[.int .i64 0,.string ⟨#[]⟩,.int .i64 190])/\af w w':=by
 have aa2:=hd0 yA;have HS:=hd0 hS;obtain⟨r,hr⟩:∃ r,w.heap.size=r:=⟨_,rfl⟩
 have mZ:af w (w.alloc (.cells #[ax S,.int .i64 0,.int .i64 0] 75)):=(ah.refl _ w).alloc _;have hb:jh (w.alloc (.cells #[ax S,.int .i64 0,.int .i64 0] 75)) r S 0 0:=by rw[<-hr];exact av _ _ _
 have NU:=hd0 (IU S 0 0 4611686018427387904 r _ hb (avL _) hS (by omega));have Hr:=hd0 hr;have HK:=hd0 mZ;clear mZ hb yA hS;go_enter func12,ntmps12;go_wp2_with fail
 try rw[hr]
 refine NU.out.mono ?_;rintro e w2 ⟨n,y,k2,rfl,ol,m2,dd,FZ,BW⟩;have ft:Hid (af w w2):=hd0 (HK.out.new m2 (by rw[Hr.out];exact au4 _));have TX:=hd0 (EX S k2 y r w2 ol dd HS.out);clear m2 ol NU;go_wp2_with fail;refine TX.out.mono ?_;rintro e w3 ⟨t,y3,k3,rfl,vh,m3,dg,zn⟩;have lq:Hid (af w w3):=hd0 (ft.out.new m3 (by rw[Hr.out];exact au4 _));have yC:=hd0 vh;have dR:=hd0 dg;have DR:=rZ n t w3 (by omega);clear m3 vh TX zn;by_cases hq:jZ n t
 ·rw[show pr n t=.tuple #[ax (bJ n t),.int .i64 0]from au8 hq]at DR;have DR:=hd0 DR;have dV:(bJ n t==S)=false:=by simpa using aa2.out n t hq
  clear hq;go_wp2_with fail;refine DR.out.mono ?_;rintro e w4 ⟨rfl,k4⟩;have ne:=hd0 (lq.out.keep k4);have EN:=hd0 (xU S k3 y3 r w4 (ab k4 yC.out id) HS.out dR.out);clear k4 DR;go_wp2_with fail;refine EN.out.mono ?_;rintro e w5 ⟨z,rfl,k5⟩;have sE:=hd0 (ne.out.keep k5);clear k5 EN;by_cases hz:z=0
  ·subst hz;go_wp2;go_ret3;exact⟨rfl,sE.out⟩
  ·have bz:(z==0)=false:=by simpa using hz
   have bz2:(z != 0)=true:=by simpa using hz
   clear hz;go_wp2_with fail
   all_goals (go_ret3;exact⟨rfl,sE.out⟩)
 ·rw[show pr n t=.tuple #[.string ⟨#[]⟩,.int .i64 190]from ava hq]at DR;have DR:=hd0 DR;clear hq;go_wp2_with fail;refine DR.out.mono ?_;rintro e w4 ⟨rfl,k4⟩;have ne:=hd0 (lq.out.keep k4);have EN:=hd0 (xU S k3 y3 r w4 (ab k4 yC.out id) HS.out dR.out);clear k4 DR;go_wp2_with fail;refine EN.out.mono ?_;rintro e w5 ⟨z,rfl,k5⟩;have sE:=hd0 (ne.out.keep k5);clear k5 EN;by_cases hz:z=0
  ·subst hz;go_wp2;go_ret3;exact⟨rfl,sE.out⟩
  ·have bz:(z==0)=false:=by simpa using hz
   have bz2:(z != 0)=true:=by simpa using hz
   clear hz;go_wp2_with fail
   all_goals (go_ret3;exact⟨rfl,sE.out⟩)
end
section
open Go.RowKit
attribute [local go_sem] auV
theorem gi.cells {w:World}{p:Nat}{a:eY}{q:Nat}{h:Hd}{l:List Nat}{lv:Value}(x:gi w p a q h l lv):
  ∃ la cap,lv=.slice la l.length cap/\w.cell? ⟨q,0,none⟩=some (aq p)/\w.cell? ⟨q,1,none⟩=some (.int .i64 h.id)/\w.cell? ⟨q,3,none⟩=some (ax h.name)/\w.cell? ⟨q,8,none⟩=some (.slice la l.length cap)/\
   ∀ i n,l[i]?=some n->∃ b o,la=some ⟨b,o,none⟩/\w.cell? ⟨b,o+i,none⟩=some (.int .i64 ((n:Nat):Int)):=by
 obtain⟨base,ha⟩:=x.at_;obtain⟨la,cap,rfl,hx⟩:=ba ha.row;have yo:(bi (gm l)).length=l.length:=by simp[bi,gm]
 rw[yo]at ha;exact⟨la,cap,by rw[yo],aa ha.own 0,aa ha.own 1,aa ha.own 3,aa ha.own 8,fun i n hn=>hx i _ (by simp[bi,gm,hn])⟩
theorem IY {w:World}{p:Nat}{v:Vs}{a:eY}{q:Nat}{h:Hd}{l:List Nat}{lv:Value}(hv:lz w p v a)(hl:v.b.list.length<=1000)(x:gi w p a q h l lv)(hid:((bt v.b.list h.name).getD fq).id=h.id)
  (i n:Nat) (hi:l[i]?=some n) (yo:l.length<=5000) (h1:1<=n) (h2:n<v.blocks) (hb:v.blocks<=4096) (s:ay) (hs:v.rd n=.ok s) (su:s.length<=240):
  Calls prog 21 #[aq q,.int .i64 (i:Int)] w fun e w'=>e=.returned (.tuple #[ax (bJ (n:Int) s),.int .i64 0])/\∃ a',eA w p v a v a' w'/\a'.text=a.text/\gi w' p a' q h l lv:=by
 have VG:=(avf.1 hi).1;have hfd:∀(x0 x1 x2 x3 x4:Value) (W:World),(Instr.field 85 (.agg #[x0,x1,x2,x3,x4]) 1).run prog W=.ok x1 W:=fun _ _ _ _ _ _=>by kernel_rfl
 obtain⟨la,cap,elv,c0,c1,c3,c8,cI⟩:=x.cells;obtain⟨lb,lo,rfl,ci⟩:=cI i n hi;have HV:=hd0 hv;have HX:=hd0 x;have HL:=hd0 hl;have HI:=hd0 hi;have HN:=hd0 (And.intro h1 (And.intro h2 (And.intro hb (And.intro hs su))));have HID:=hd0 hid;have aoG:(i:Int)<(l.length:Int):=by omega
 have aiE:(l.length:Int)<=5000:=by omega
 clear hv hl x hi h1 h2 hb hs su cI VG yo;go_enter func21,ntmps21
 go_upto_region 3 with fail
 go_cut [20]from 8 to 66 (fun y wx=>y=.bool false/\af w wx)
 case first=>
  have e0:∀ X,(w.ext X).cell? ⟨q,0,none⟩=some (aq p):=fun X=>((aC w X).cell (p:=⟨q,0,none⟩) (ai c0) id).trans c0;have e1:∀ X,(w.ext X).cell? ⟨q,1,none⟩=some (.int .i64 h.id):=fun X=>((aC w X).cell (p:=⟨q,1,none⟩) (ai c1) id).trans c1;have e3:∀ X,(w.ext X).cell? ⟨q,3,none⟩=some (ax h.name):=fun X=>((aC w X).cell (p:=⟨q,3,none⟩) (ai c3) id).trans c3;refine cO (by kernel_rfl) (by kernel_rfl) ?_
  repeat (quiet_step (with_reducible exact bB (ra (HV.out.keep (aC _ _)) HL.out h.name)))
  refine avT ?_;intro _ bf;obtain⟨xq,rfl⟩:=bf;go_wp2_with fail;go_meet
  case rel=>exact⟨rfl,aC _ _⟩
 case rest=>
  obtain⟨rfl,hk⟩:=hcut;have Jn:=hd0 hk;have c0':wc.cell? ⟨q,0,none⟩=some (aq p):=(hk.cell (p:=⟨q,0,none⟩) (ai c0) id).trans c0;have c8':wc.cell? ⟨q,8,none⟩=some (.slice (some ⟨lb,lo,none⟩) l.length cap):=(hk.cell (p:=⟨q,8,none⟩) (ai c8) id).trans c8;have ci':wc.cell? ⟨lb,lo+i,none⟩=some (.int .i64 (n:Int)):=(hk.cell (p:=⟨lb,lo+i,none⟩) (ai ci) id).trans ci;clear hk c0 c1 c3 c8 ci
  go_upto_region 5 with fail
  go_cut [6,7]from 8 to 66 (fun y z wx=>y=ax s/\z=.int .i64 0/\∃ a',eA w p v a v a' wx/\a'.text=a.text)
  case first=>
   have RD:Hid (∀ W,af w W->Calls prog 22 #[aq p,.int .i64 (n:Int)] W fun e w'=>e=.returned (.tuple #[ax s,.int .i64 0])/\∃ a',eA W p v a v a' w'/\a'.text=a.text):=hd0 (fun W k=>IL (HV.out.keep k) n HN.out.1 HN.out.2.1 s HN.out.2.2.2.1)
   go_region_with (go_at_call 22;refine avd (RD.out _ (Jn.out.drew)) ?_;rintro e w2 ⟨rfl,a2,jq,Km⟩;have yT:=hd0 (And.intro (eA.ahead (Jn.out.drew) jq) Km);clear jq Km)
   all_goals (go_wp2_with fail;go_meet)
   all_goals (case rel=>exact⟨rfl,rfl,a2,yT.out⟩)
  case rest=>
   obtain⟨rfl,rfl,a2,jq,Km⟩:=hcut;have yT:=hd0 (And.intro jq Km);have vd:=HX.out.to (_v:=v) (_u:=v) jq.mod jq.foot;have lC:=hd0 vd;obtain⟨la2,VL,adD,d0,d1,d3,d8,Yt⟩:=vd.cells;rw[elv]at adD;injection adD with e1 _ e3;subst e1 e3;obtain⟨b2,o2,e4,di⟩:=Yt i n HI.out;injection e4 with e4;injection e4 with e5 e6;subst e5 e6;have DR:=mR (n:Int) s wc (by have:=HN.out.2.2.2.2;omega);rw[show pr (n:Int) s=.tuple #[ax (bJ (n:Int) s),.int .i64 0]from au8 ⟨by have:=HN.out.1;omega,by have:=HN.out.2.1;have:=HN.out.2.2.1;omega,HN.out.2.2.2.2⟩]at DR;have DR:=hd0 DR;clear jq Km vd Yt c0' c8' ci' d0 d1 d3;go_wp2_with fail;refine DR.out.mono ?_;rintro e w4 ⟨rfl,k4⟩;have od:=hd0 k4;clear k4 DR;go_wp2;go_ret2;exact⟨rfl,a2,yT.out.1.keep od.out,yT.out.2,lC.out.keep od.out⟩
end
section
open Go.RowKit
theorem Vt (key:List UInt8)(w:World)(hk:key.length=16):
  Calls prog 58 #[.string ⟨key.toArray⟩] w fun e w'=>e=.returned (.tuple #[.pointer (some ⟨w.heap.size,0,none⟩),.int .i64 0])/\World.blk w' w.heap.size (eI (nU key) [] 0) 186/\af w w':=
 (JD key w hk).mono fun _ _ ⟨he,n,hw⟩=>by
  subst hw;exact⟨he,cf (av _ _ _) _,((ah.refl _ _).alloc _).drewN _⟩
theorem Nj (b:Nat)(v:St)(rest s:List UInt8)(size:Nat)(w:World)(hB:World.blk w b (eI v rest size) 186)(hr:rest.length<8)(hs:size+s.length+8<=9223372036854775807):
  Calls prog 59 #[.pointer (some ⟨b,0,none⟩),.string ⟨s.toArray⟩] w fun e w'=>e=.returned (.tuple #[])/\
   World.blk w' b (eI (dQ v (rest++s)).1 (dQ v (rest++s)).2 (size+s.length)) 186/\ah (·=b) w w':=by
 have h:=zo b v rest s size w 0 (ak hB) hr hs;rw[KQ hB,World.drewN_zero]at h;refine h.mono fun _ _ ⟨he,n,hw⟩=>?_;subst hw;exact⟨he,cf (vq (ak hB)) _,((ah.refl (·=b) w).putB (Or.inl rfl) _ _).drewN _⟩
def rh (key l:List UInt8):Array Value:=eI (dQ (nU key) l).1 (dQ (nU key) l).2 l.length
theorem EZ (s:List UInt8):∀(v:St) (t:List UInt8),dQ v (s++t)=dQ (dQ v s).1 ((dQ v s).2++t):=by
 generalize hn:s.length=n
 induction n using Nat.strongRecOn generalizing s with
 |_ n ih=>
  intro v t;by_cases h:8<=s.length
  ·have h2:8<=(s++t).length:=by simp;omega
   rw[lF v (s++t) h2,lF v s h,List.take_append_of_le_length h,List.drop_append_of_le_length h];exact ih (s.drop 8).length (by simp;omega) _ rfl _ _
  ·rw[qA v s h]
theorem Rv (key:List UInt8)(w:World)(hk:key.length=16):
  Calls prog 58 #[.string ⟨key.toArray⟩] w fun e w'=>e=.returned (.tuple #[.pointer (some ⟨w.heap.size,0,none⟩),.int .i64 0])/\World.blk w' w.heap.size (rh key []) 186/\af w w':=
 Vt key w hk
theorem IZ (b:Nat)(key l s:List UInt8)(w:World)(hB:World.blk w b (rh key l) 186)(hs:l.length+s.length+8<=9223372036854775807):
  Calls prog 59 #[.pointer (some ⟨b,0,none⟩),.string ⟨s.toArray⟩] w fun e w'=>e=.returned (.tuple #[])/\World.blk w' b (rh key (l++s)) 186/\ah (·=b) w w':=by
 refine(Nj b _ _ s l.length w hB (oB _ _) hs).mono fun _ _ ⟨he,h,hm⟩=>⟨he,?_,hm⟩
 rw[rh,EZ,avi];exact h
theorem Rw (b:Nat)(key l:List UInt8)(w:World)(hB:World.blk w b (rh key l) 186)(hs:l.length<=9223372036854775807):
  Calls prog 60 #[.pointer (some ⟨b,0,none⟩)] w fun e w'=>e=.returned (.string ⟨(Og key l).toArray⟩)/\af w w':=
 JC b _ _ _ w hB (oB _ _) hs
end
section
open Go.RowKit
attribute [local go_sem] auV
def ji:ay:=[115,116,105,108,108,97,103,101,32,115,116,114,101,97,109,33]
def gG (f:Nat->ay)(l:List Nat):ay:=l.flatMap fun(n:Nat)=>bJ (n:Int) (f n)
theorem xV (f:Nat->ay)(l:List Nat)(h:∀ n∈l,n<=4096/\(f n).length<=240):(gG f l).length<=300*l.length:=by
 unfold gG
 induction l with
 |nil=>simp
 |cons y r ih=>
  have h1:=h y (by simp);have h2:=ih fun z hz=>h z (by simp[hz]);have h3:(bJ (y:Int) (f y)).length<=300:=by
   unfold bJ;have e1:=aV (n:=(y:Int).toNat) (by omega);have e2:=aV (n:=(f y).length) (by omega);simp only[avi];omega
  simp only[avH,avi,au0];omega
structure pw (w w1:World)(p:Nat)(v:Vs)(a a':eY)(q:Nat)(h:Hd)(l:List Nat)(lv:Value)(hb:Nat)(done:ay)(wr:World):Prop where
 at_:lz wr p v a'
 role:a'.role=a.role
 text:a'.text=a.text
 foot:∀ g,a'.foot p g->a.foot p g\/w1.heap.size<=g
 mod:ah (a.foot p) w wr
 still:fC (fun b=>a.role b≠.none) w wr
 plan:gi wr p a' q h l lv
 hash:World.blk wr hb (rh ji done) 186
section
variable {w w1 wr w2:World}{p:Nat}{v:Vs}{a a' a2:eY}{q:Nat}{h:Hd}{l:List Nat}{lv:Value}{hb:Nat}{done:ay}
theorem pw.read (s:pw w w1 p v a a' q h l lv hb done wr)(h1:hb<w1.heap.size)(h2:w1.heap.size<=wr.heap.size)(h3:¬ a.foot p hb)(hw:w.heap.size<=w1.heap.size)(k:eA wr p v a' v a2 w2)(ht:a2.text=a'.text)(pl:gi w2 p a2 q h l lv):pw w w1 p v a a2 q h l lv hb done w2:=
 ⟨k.at_,k.role.trans s.role,ht.trans s.text,fun g hg=>(k.foot g hg).elim (s.foot g) (fun h=>.inr (auX h2 h)),s.mod.trans k.mod (fun g hl hs=>(s.foot g hs).elim id (fun h=>by omega)),
  fun b TO hl=>(k.still b (by rw[s.role];exact TO) (avb hl s.mod.size)).trans (s.still b TO hl),pl,ab k.mod s.hash (fun hf=>(s.foot hb hf).elim h3 (fun h=>by omega))⟩
theorem pw.wrote (s:pw w w1 p v a a' q h l lv hb done wr)(h1:hb<w1.heap.size)(h3:¬ a.foot p hb)(h4:w.heap.size<=hb)(hq:q<w.heap.size)(hl:∀ g,lv.ownBlock=some g->g<w.heap.size)(m:ah (·=hb) wr w2){Xm:ay}(hh:World.blk w2 hb (rh ji Xm) 186):pw w w1 p v a a' q h l lv hb Xm w2:=by
 have hn:¬ a'.foot p hb:=fun hf=>(s.foot hb hf).elim h3 (fun h=>by omega);refine⟨s.at_.same (m.on fun g hg e=>hn (by rw[<-e];exact hg)) m.size,s.role,s.text,s.foot,s.mod.trans m (fun g hl e=>by omega),fun b TO TP=>(m.block b (avb TP s.mod.size) (by omega)).trans (s.still b TO TP),?_,hh⟩;obtain⟨base,ha⟩:=s.plan.at_;exact⟨⟨base,ab m ha.own (by omega),az ha.row (fun g hg=>m.block g (aT ha.row hg) (by have:=hl g hg;omega)),ha.new⟩,s.plan.qf,s.plan.lf⟩
theorem pw.keep (s:pw w w1 p v a a' q h l lv hb done wr)(k:af wr w2):pw w w1 p v a a' q h l lv hb done w2:=
 ⟨s.at_.keep k,s.role,s.text,s.foot,s.mod.trans (k.mono (T:=a.foot p) (fun _ _ h=>h.elim)) (fun _ _ h=>h),fun b TO TP=>(k.block b (avb TP s.mod.size) id).trans (s.still b TO TP),s.plan.keep k,ab k s.hash id⟩
end
theorem Rx {w:World}{p:Nat}{v:Vs}{a:eY}{q:Nat}{h:Hd}{l:List Nat}{lv:Value}(hv:lz w p v a)(hl:v.b.list.length<=1000)(x:gi w p a q h l lv)(hid:((bt v.b.list h.name).getD fq).id=h.id)
  (yo:l.length<=5000) (hb:v.blocks<=4096) (f:Nat->ay) (hf:∀ n∈l,1<=n/\n<v.blocks/\v.rd n=.ok (f n)/\(f n).length<=240):
  Calls prog 23 #[aq q] w fun e w'=>e=.returned (.tuple #[ax (Og ji (gG f l)),.int .i64 0])/\∃ a',eA w p v a v a' w'/\a'.text=a.text/\gi w' p a' q h l lv:=by
 have NH:=hd0 (Rv ji w rfl);obtain⟨base,ha⟩:=x.at_;have hqw:=ak ha.own;have hlw:∀ g,lv.ownBlock=some g->g<w.heap.size:=fun g hg=>aT ha.row hg;obtain⟨iI,hhb⟩:∃ iI,w.heap.size=iI:=⟨_,rfl⟩
 have Hhb:=hd0 hhb;have Fh:¬ a.foot p iI:=fun hf=>by have:=hv.lt hf;omega
 have HQ:=hd0 (And.intro hqw (And.intro hlw Fh));have HV:=hd0 hv;have HX:=hd0 x;have HL:=hd0 (And.intro hl (And.intro yo hb));have HID:=hd0 hid;have HF:=hd0 hf;have aiE:(l.length:Int)<=5000:=by omega
 clear hv hl x hid hb hf ha hqw hlw Fh;go_enter func23,ntmps23;go_wp2_with fail;refine NH.out.mono ?_;rintro e w1 ⟨rfl,hh,k1⟩;rw[hhb]at hh ⊢;have HS:Hid (pw w w1 p v a a q h l lv iI (gG f (l.take 0)) w1):=hd0 ⟨HV.out.keep k1,rfl,rfl,fun g hg=>.inl hg,k1.mono (fun _ _ h=>h.elim),fun b TO TP=>k1.block b TP id,HX.out.keep k1,(by rw[show gG f (l.take 0)=[]from rfl];exact hh)⟩;have H1:Hid (iI<w1.heap.size/\w.heap.size<=w1.heap.size):=hd0 ⟨ak hh,k1.size⟩;obtain⟨la,cap,elv,_,_,_,c8,_⟩:=(HX.out.keep k1).cells;clear k1 hh NH hhb;go_wp2_with fail
 go_loopw [18] (fun y wr=>∃ k:Nat,k<=l.length/\y=.int .i64 (k:Int)/\Hid (∃ a',pw w w1 p v a a' q h l lv iI (gG f (l.take k)) wr/\w1.heap.size<=wr.heap.size)) (fun y _=>l.length-(intOf y).toNat)
 case atStart=>exact⟨0,by omega,rfl,hd0 ⟨a,HS.out,au4 _⟩⟩
 case round=>
  clear HS c8;obtain⟨k,hk,rfl,HR⟩:=hrel;obtain⟨a1,hs,cV⟩:=HR.out;have HS:=hd0 (And.intro hs cV);clear hs cV HR;by_cases aL:k<l.length
  ·have dU:(k:Int)<(l.length:Int):=by omega
   obtain⟨n,hn⟩:∃ n,l[k]?=some n:=⟨_,au1 aL⟩
   obtain⟨g1,g2,g3,g4⟩:=HF.out n (au2 hn);have PR:=hd0 (IY HS.out.1.at_ HL.out.1 HS.out.1.plan HID.out k n hn HL.out.2.1 g1 g2 HL.out.2.2 (f n) g3 g4);have Yc:gG f (l.take (k+1))=gG f (l.take k)++bJ (n:Int) (f n):=by unfold gG;rw[au3,hn];simp
   have bA:(bJ (n:Int) (f n)).length<=300:=by
    unfold bJ;have h1:=aV (n:=(n:Int).toNat) (by have:=HL.out.2.2;omega);have h2:=aV (n:=(f n).length) (by omega);simp only[avi];omega
   have HT:=hd0 (And.intro Yc bA);clear hn g1 g2 g3 g4 Yc bA;go_wp2_with fail;refine PR.out.mono ?_;rintro e w2 ⟨rfl,a2,jq,Km,nQ⟩;have jH:=HS.out.1.read H1.out.1 HS.out.2 HQ.out.2.2 H1.out.2 jq Km nQ;have Ck:=hd0 (And.intro jH (auX HS.out.2 jq.mod.size));have WH:=hd0 (IZ iI ji (gG f (l.take k)) (bJ (n:Int) (f n)) w2 jH.hash (by
    have h1:=xV f (l.take k) (fun y hy=>by
     obtain⟨g1,g2,g3,g4⟩:=HF.out y (au6 hy);exact⟨by have:=HL.out.2.2;omega,g4⟩)
    rw[au7]at h1;have h4:min k l.length<=l.length:=Nat.min_le_right _ _;have h2:=HT.out.2;have h3:=HL.out.2.1;omega))
   clear jH jq Km nQ PR;go_wp2_with fail;refine WH.out.mono ?_;rintro e w3 ⟨rfl,hh3,m3⟩;rw[<-HT.out.1]at hh3;have JA:=hd0 (And.intro (Ck.out.1.wrote H1.out.1 HQ.out.2.2 (Nat.le_of_eq Hhb.out) HQ.out.1 HQ.out.2.1 m3 hh3) (auX Ck.out.2 m3.size));clear hh3 m3 WH;go_wp2_with fail;exact⟨⟨k+1,by omega,by go_num,hd0 ⟨a2,JA.out⟩⟩,by simp[intOf];omega⟩
  ·obtain nS:k=l.length:=by omega
   have hs:=HS.out.1;rw[nS,au5]at hs;have SH:=hd0 (Rw iI ji (gG f l) wr hs.hash (by
    have h1:=xV f l (fun y hy=>by
     obtain⟨g1,g2,g3,g4⟩:=HF.out y hy;exact⟨by have:=HL.out.2.2;omega,g4⟩)
    have h3:=HL.out.2.1;omega))
   have I0:=hd0 hs;clear hs hk;go_wp2_with fail;refine SH.out.mono ?_;rintro e w4 ⟨rfl,k4⟩;have HE:=hd0 (I0.out.keep k4);clear k4 SH;go_wp2;go_ret2;exact⟨rfl,a1,⟨HE.out.at_,HE.out.role,fun g hg=>(HE.out.foot g hg).imp id (fun h=>auX H1.out.2 h),HE.out.mod,HE.out.still,fun e=>HE.out.text.trans e⟩,HE.out.text,HE.out.plan⟩
end
theorem Kf (c:UInt8)(l:List UInt8):l.length+1=((jX c l).map fun x=>x.length+1).sum:=by
 induction l with
 |nil=>simp[jX]
 |cons b r ih=>
  by_cases h:b=c
  ·subst h;rw[jX,au8 rfl];simp only[auY,auZ,awa,au0];omega
  ·rw[vG c b r h]
   cases hs:jX c r with
   |nil=>exact absurd hs (vE c r)
   |cons x y=>
    rw[hs]at ih;simp only[auY,auZ,au0]at ih ⊢;omega
theorem Vu (l:List (List UInt8))(h:∀ x∈l,x.length<=16):(l.map fun x=>x.length+1).sum<=17*l.length:=by
 induction l with
 |nil=>simp
 |cons x r ih=>
  have h1:=h x (by simp);have h2:=ih fun y hy=>h y (by simp[hy]);simp only[auY,auZ,au0];omega
theorem kg {s:List UInt8}(h:aK s=true):s.length<=16:=by
 unfold aK at h;simp only[avj,avo]at h;exact h.1.1.2
theorem E4 {s:List UInt8}(h:(bd s).isSome=true):s.length<=137:=by
 obtain⟨l,hl⟩:=Option.isSome_iff_exists.1 h;obtain⟨r,rfl,hr⟩:=iY hl;rcases hr with⟨rfl,_⟩|⟨_,ls,h8,hn⟩
 ·simp
 ·have h1:=Kf 47 r;rw[<-ls]at h1;have h2:=Vu l (fun x hx=>kg (avk.1 hn x hx));simp only[au0];omega
theorem tD:∀(k u:Nat),u<10 ^ k->1<=k->Lib.nDigits u<=k
 |0,_,_,h=>by omega
 |k+1,u,h,_=>by
  by_cases h1:u<10
  ·rw[Lib.nDigits_small h1];omega
  ·rw[Lib.nDigits_big h1];rw[avu]at h;by_cases hk:1<=k
   ·have:=tD k (u/10) (by omega) hk;omega
   ·obtain rfl:k=0:=by omega
    simp at h;omega
theorem dE {c:co}{f:Nat}(h:c.fieldOk f=true):(c.fieldText f).length<=1024/\(f≠4->(c.fieldText f).length<=137):=by
 unfold co.fieldOk at h;unfold co.fieldText;split at h
 ·have:=E4 h;exact⟨by show c.path.length<=_;omega,fun _=>this⟩
 ·have:=E4 h;exact⟨by show c.dest.length<=_;omega,fun _=>this⟩
 ·simp only[avj,avo]at h;have:(Lib.itoa c.pos).length<=10:=by
   obtain⟨u,hu⟩:∃ u:Nat,c.pos=u:=⟨c.pos.toNat,by omega⟩
   rw[hu,Lib.itoa_nonneg,Lib.decDigits_length];exact tD 10 u (by omega) (by omega)
  exact⟨by show(Lib.itoa c.pos).length<=_;omega,fun _=>by show(Lib.itoa c.pos).length<=_;omega⟩
 ·have hd:c.data.length<=512:=by simpa using h
  refine⟨?_,fun hh=>absurd rfl hh⟩;show(rM c.data).length<=_;unfold rM;split
  ·simp
  ·rw[sV];omega
 ·rename_i h2 h3 h4 h5
  have:=kg h;split
  ·exact absurd rfl h3
  ·exact absurd rfl h4
  ·exact absurd rfl h5
  ·exact⟨by omega,fun _=>by omega⟩
theorem Vv {c:co}(h:c.fieldOk 3=true):(c.fieldText 3).length<=10:=by
 have h':(decide (0<=c.pos)&&decide (c.pos<=16384))=true:=h;simp only[avj,avo]at h';show(Lib.itoa c.pos).length<=10;obtain⟨u,hu⟩:∃ u:Nat,c.pos=u:=⟨c.pos.toNat,by omega⟩
 rw[hu,Lib.itoa_nonneg,Lib.decDigits_length];exact tD 10 u (by omega) (by omega)
theorem xW {c:co}(h:c.ok=true):c.line.length<=1300:=by
 have hw:=Gz h;have h1:=Kf 32 c.line;rw[hw]at h1;obtain⟨hk,hf⟩:=oP h;have hk9:c.k<9:=hk;have ff:∀ f∈fieldsOf c.k,c.fieldOk f=true:=by
  intro f hf';unfold co.ok at h;simp only[avj]at h;exact avk.1 h.2.1 f hf'
 rcases(by omega:c.k=0\/c.k=1\/c.k=2\/c.k=3\/c.k=4\/c.k=5\/c.k=6\/c.k=7\/c.k=8)with e|e|e|e|e|e|e|e|e<;>rw[e]at h1 ff<;>simp only[fieldsOf,cQ,auY,List.map_nil,auZ,List.sum_nil,au0,awa]at h1
 ·have:=(dE (ff 1 (by simp[fieldsOf]))).2 (by decide);omega
 ·have:=(dE (ff 1 (by simp[fieldsOf]))).2 (by decide);omega
 ·have a1:=(dE (ff 1 (by simp[fieldsOf]))).2 (by decide);have a2:=Vv (ff 3 (by simp[fieldsOf]));have a3:=(dE (ff 4 (by simp[fieldsOf]))).1;omega
 ·have a1:=(dE (ff 1 (by simp[fieldsOf]))).2 (by decide);have a2:=(dE (ff 3 (by simp[fieldsOf]))).2 (by decide);omega
 ·have a1:=(dE (ff 1 (by simp[fieldsOf]))).2 (by decide);have a2:=(dE (ff 2 (by simp[fieldsOf]))).2 (by decide);omega
 ·have a1:=(dE (ff 1 (by simp[fieldsOf]))).2 (by decide);have a2:=(dE (ff 2 (by simp[fieldsOf]))).2 (by decide);omega
 ·have:=(dE (ff 1 (by simp[fieldsOf]))).2 (by decide);omega
 ·have:=(dE (ff 5 (by simp[fieldsOf]))).2 (by decide);omega
 ·have:=(dE (ff 5 (by simp[fieldsOf]))).2 (by decide);omega
theorem Aw {c:co}(h:c.ok=true)(h7:c.kind=7):aK c.path=true/\c.path.length<=16/\c.path≠[]:=by
 have hk:c.k=7:=by unfold co.k;rw[h7];decide
 unfold co.ok at h;simp only[avj]at h;have h5:=avk.1 h.2.1 5 (by rw[hk];simp[fieldsOf]);have hn:aK c.path=true:=h5;refine⟨hn,kg hn,?_⟩;intro e;rw[e]at hn
 cases hn
theorem Ry {l:Nm}(hl:l.length<=60)(hn:∀ p∈l,aK p.1=true)(hp:∀ p∈l,0<=p.2/\p.2<=65535):(l8 l).length<=16384:=by
 have nine:∀ n:Nat,n<=65535->(aG n).length<=3:=by
  intro n hn;rw[aG];split
  ·simp
  ·rw[aG];split
   ·simp
   ·rw[aG,dif_pos (by omega)];simp
 have key:∀ m:Nm,(∀ p∈m,aK p.1=true/\0<=p.2/\p.2<=65535)->(m.flatMap lK).length<=30*m.length:=by
  intro m
  induction m with
  |nil=>intro _;simp
  |cons p r ih=>
   intro hm;obtain⟨a1,a2,a3⟩:=hm p (by simp);have h2:=ih fun q hq=>hm q (by simp[hq]);have h3:=kg a1;have h4:=nine p.1.length (by omega);have h5:=nine p.2.toNat (by omega);have h6:(lK p).length<=30:=by unfold lK;simp only[avi];omega
   simp only[avH,avi,au0];omega
 unfold l8;have h1:=nine l.length (by omega);have h2:=key l fun p Cr=>⟨hn p Cr,hp p Cr⟩
 rw[avi];omega
theorem Zr {l:List Nat}{k:Nat}(h:∀ x∈l,x<=k):l.sum<=k*l.length:=by
 induction l with
 |nil=>simp
 |cons x r ih=>
  have h1:=h x (by simp);have h2:=ih fun y hy=>h y (by simp[hy]);simp only[auZ,au0,Nat.mul_succ];omega
theorem Vw {T:Tr}(h1:T.length<=60)(h2:∀ n∈T,n.names.length<=60)(j:Int):j6 T j<=3600:=by
 unfold j6;have h3:=Zr (l:=T.map fun n=>gt n.names j) (k:=60) (fun x hx=>by
  obtain⟨n,hn,rfl⟩:=avx.1 hx;exact auX List.countP_le_length (h2 n hn))
 rw[avv]at h3;omega
theorem Ax {T:Tr}{d:Int->Nat}(h:WF T d):iE (ar T):=by
 have dA:∀(was:Int) (S:Tr),S.Pairwise (fun a b=>a.num<b.num)->(∀ n∈S,was<n.num/\n.num<=65535)->lR was (ar S)=true:=by
  intro was S
  induction S generalizing was with
  |nil=>intro _ _;rfl
  |cons x r ih=>
   intro hp hm;rw[av5]at hp;have h1:=hm x (by simp);have h2:=ih x.num hp.2 (fun n hn=>⟨hp.1 n hn,(hm n (by simp[hn])).2⟩);show(decide (was<x.num)&&decide (x.num<=65535)&&lR x.num (ar r))=true;rw[decide_eq_true h1.1,decide_eq_true h1.2,h2];rfl
 refine⟨⟨by unfold ar;rw[avv];exact h.many,dA 0 T h.sorted (fun n hn=>by have:=h.nums n hn;omega),?_,?_⟩,T,d,h,rfl⟩
 ·intro x hx;obtain⟨n,hn,rfl⟩:=avx.1 hx;show 1<=n.links/\n.links<=3600;by_cases h1:n.num=1
  ·obtain⟨r,hr,KK,_,vh⟩:=h.root;have e:n=r:=by
    have g1:=(aw h.sorted).2 ⟨hn,h1⟩;have g2:=(aw h.sorted).2 ⟨hr,KK⟩;rw[g1]at g2;injection g2
   rw[e,vh];decide
  ·obtain⟨h2,h3,_⟩:=h.count n hn h1;have h4:=Vw h.many (fun m hm=>(h.names m hm).1) n.num;have h2':(j6 T n.num:Int)+0=n.links:=h2;omega
 ·intro x hx;obtain⟨n,hn,rfl⟩:=avx.1 hx;show(if n.dir=true then l8 n.names else n.data).length<=16384;split
  ·refine Ry (h.names n hn).1 (h.names n hn).2 (fun p hp=>?_);obtain⟨_,m,hm,e⟩:=h.closed n hn p hp;have:=h.nums m hm;omega
  ·rename_i hd
   exact(h.file n hn (by simpa using hd)).2
structure acO (v:Vs)(c:co)(r:Int)(u:Vs):Prop where
 run:Bz v c=.ok (r,u)
 good:mL u
 blocks:u.blocks=v.blocks
 half:u.half=v.half
 num:v.num<=u.num/\u.num<=v.num+3
 id:u.b.id<=v.b.id+1
 T:u.T=v.T\/u.T=(qK v.T c).1
theorem Zs {v:Vs}(h:mL v)(c:co)(Xg:c.ok=true->c.line.length+2<=v.half)(hn:iE (ar (qK v.T c).1)):∃ r u,acO v c r u:=by
 cases hX:lp v c with
 |error x=>
  exact⟨x,v,(EJ hX).2,h,rfl,rfl,by omega,by omega,.inl rfl⟩
 |ok T=>
  obtain⟨bQ,hm,hT⟩:=Kc hX;have hTM:iE (ar T):=by
   rcases hT with rfl|rfl
   ·exact h.told
   ·exact hn
  obtain⟨v1,e1,sM,BW,KK⟩:∃ v1,(if(c.kind=7\/c.kind=8)\/c.line.length+2<=cH v then(.ok v:Except Int Vs)else bD v v.b.list [])=.ok v1/\iO v v1/\v1.num<=v.num+1/\((c.kind=7\/c.kind=8)\/c.line.length+2<=cH v1):=by
   by_cases hr:(c.kind=7\/c.kind=8)\/c.line.length+2<=cH v
   ·exact⟨v,by rw[au8 hr],iO.refl h,by omega,hr⟩
   ·obtain⟨u,hu,hs,_,ajg,dA⟩:=ic h;refine⟨u,by rw[ava hr,hu],hs,by omega,.inr ?_⟩;unfold cH;rw[ajg,hs.half];have:=Xg bQ;simp[ly];omega
  obtain⟨b,v2,e2,jH,hb1,eV,af0⟩:=Vh sM.good T c.kind;have hs:=sM.trans jH;have AD:=(EL sM.good e2).2.1;have hd:=Kd bQ hm e1 e2;have dA:v.num<=v2.num/\v2.num<=v.num+2:=⟨hs.num,by omega⟩
  cases b with
  |false=>exact⟨151,v2,by rw[hd,au8 rfl],hs.good,hs.blocks,hs.half,by omega,by rw[hs.id];omega,.inl hs.T⟩
  |true=>
   rw[ava (by decide)]at hd;have ajV:=hb1 rfl;by_cases h7:c.kind=7
   ·obtain⟨g1,g2,g3⟩:=EK hm h7;obtain⟨k1,k2,_⟩:=Aw bQ h7;have Ny:fI v2 v2.b.list c.path:=⟨List.Sublist.refl _,.inr ⟨k1,k2,fun x hx=>by rw[hs.list]at hx;exact xJ g1 x hx,by rw[hs.list];exact g2,by rw[hs.id];omega⟩⟩
    obtain⟨u,hu⟩:=xw hs.good Ny;refine⟨0,u,by rw[hd,au8 h7,hu.run];rfl,hu.good,hu.blocks.trans hs.blocks,hu.half.trans hs.half,by have:=hu.num;omega,?_,.inl (hu.T.trans hs.T)⟩;rw[hu.id];split
    ·rw[hs.id];omega
    ·rw[hs.id];exact au4 _
   ·by_cases h8:c.kind=8
    ·have Ny:fI v2 (v2.b.list.eraseIdx ((dy v2 c.path).getD 0)) []:=⟨List.eraseIdx_sublist _ _,.inl rfl⟩
     obtain⟨u,hu⟩:=xw hs.good Ny;refine⟨0,u,by rw[hd,ava h7,au8 h8,hu.run];rfl,hu.good,hu.blocks.trans hs.blocks,hu.half.trans hs.half,by have:=hu.num;omega,?_,.inl (hu.T.trans hs.T)⟩;rw[hu.id,au8 rfl,hs.id];omega
    ·have lX:c.line.length+2<=cH v2:=by
      rcases KK with(hh|hh)|hh
      ·exact absurd hh h7
      ·exact absurd hh h8
      ·rcases af0 with hh2|hh2
       ·unfold cH at hh ⊢;rw[jH.half,hh2];exact hh
       ·unfold cH;rw[hh2,hs.half];have:=Xg bQ;simp[ly];omega
     refine⟨0,{ v2 with T:=T,recs:=v2.recs++[c.line] },by rw[hd,ava h7,ava h8,ava (by omega)],IJ hs.good hTM (by omega),hs.blocks,hs.half,by show v.num<=v2.num/\v2.num<=v.num+3;omega,by show v2.b.id<=v.b.id+1;rw[hs.id];omega,?_⟩;rcases hT with e|e
     ·exact .inl e
     ·exact .inr e
def uC:Vs->List co->Except Int Vs
 |v,[]=>.ok v
 |v,c::r=>match Bz v c with
  | .error e=>.error e
  | .ok o=>uC o.2 r
theorem Nk {v:Vs}{l:List co}{u:Vs}(h:uC v l=.ok u){c:co}{r:Int}{x:Vs}(hd:Bz u c=.ok (r,x)):uC v (l++[c])=.ok x:=by
 induction l generalizing v with
 |nil=>
  injection h with h;subst h;show(match Bz v c with | .error e=>(.error e:Except Int Vs) | .ok o=>uC o.2 [])=_;rw[hd];rfl
 |cons y l ih=>
  have h':(match Bz v y with | .error e=>(.error e:Except Int Vs) | .ok o=>uC o.2 l)=.ok u:=h;show(match Bz v y with | .error e=>(.error e:Except Int Vs) | .ok o=>uC o.2 (l++[c]))=_
  cases hy:Bz v y with
  |error e=>rw[hy]at h';cases h'
  |ok o=>rw[hy]at h';exact ih h'
structure Lv (v:Vs)(k:Nat):Prop where
 good:mL v
 wf:∃ d,WF v.T d
 id:v.b.id<=k+1
 num:v.num<=2+3*k
 half:1302<=v.half
theorem Lv.step {v:Vs}{k:Nat}(h:Lv v k)(c:co):∃ r u,Bz v c=.ok (r,u)/\Lv u (k+1)/\u.blocks=v.blocks/\u.half=v.half:=by
 obtain⟨d,hw⟩:=h.wf;obtain⟨d',bf⟩:=Py hw c;obtain⟨r,u,hr⟩:=Zs h.good c (fun bQ=>by have:=xW bQ;have:=h.half;omega) (Ax bf);refine⟨r,u,hr.run,⟨hr.good,?_,by have:=hr.id;have:=h.id;omega,by have:=hr.num;have:=h.num;omega,by rw[hr.half];exact h.half⟩,hr.blocks,hr.half⟩;rcases hr.T with e|e
 ·exact⟨d,by rw[e];exact hw⟩
 ·exact⟨d',by rw[e];exact bf⟩
end Go.Proofs.YtkghpdcloaiflaaGreatDoor
