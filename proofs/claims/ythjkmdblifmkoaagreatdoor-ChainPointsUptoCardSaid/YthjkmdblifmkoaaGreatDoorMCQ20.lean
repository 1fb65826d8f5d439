/- Natural numbers as values; the walks of gcd's Reduce, Lcm, Coprime; Th and what it needs. -/
import Derived.Test.YthjkmdblifmkoaaGreatDoorMCQ18
import Derived.Test.YthjkmdblifmkoaaGreatDoorMCQ13
import Derived.Test.YthjkmdblifmkoaaGreatDoorMCQ7
import Derived.Test.YthjkmdblifmkoaaGreatDoorMCQ19
import Derived.Test.YthjkmdblifmkoaaGreatDoorMCQ17
import Derived.Test.YthjkmdblifmkoaaGreatDoorMCQ6
import Derived.Test.YthjkmdblifmkoaaGreatDoorMCQ1
import Derived.Test.YthjkmdblifmkoaaGreatDoorMCQ9
import Derived.Test.YthjkmdblifmkoaaGreatDoorMCQ16
theorem kH {P:Prop} (h:P:=by kernel_rfl):P:=h
theorem oO {P:Prop} (h:P:=by omega):P:=h
theorem dA {P:Prop} (h:P:=by decide):P:=h
theorem fL {c:Prop} {α:Sort _} {R:α->Prop} (e:¬c) (w:α) (h:c):R w:=absurd h e
theorem fM {P:Prop} (h:P:=by simp):P:=h
abbrev tC:=@Go.wpIn_seq
abbrev tD:=@Go.wpIn_ret
abbrev tE:=@Nat.lt_of_le_of_lt
abbrev tF:=@Nat.lt_of_lt_of_le
abbrev tG:=@Go.wpIn_block
abbrev tH:=@Go.wpIn_skip
abbrev tI:=@Nat.le_trans
abbrev tJ:=@Go.RowKit.Below.refl
abbrev tK:=@Nat.zero_le
abbrev tL:=@List.mem_cons
abbrev tM:=@Nat.div_le_self
abbrev tN:=@Nat.le_refl
abbrev tO:=@of_decide_eq_false
abbrev tP:=@of_decide_eq_true
abbrev tQ:=@Nat.pow_le_pow_right
abbrev tR:=@Go.wpIn_exit
abbrev tS:=@List.mem_singleton
abbrev tT:=@Option.some.inj
abbrev tU:=@List.length_map
abbrev tV:=@decide_eq_true
abbrev tW:=@decide_eq_false
abbrev tX:=@congrArg
abbrev tY:=@Nat.eq_zero_or_pos
abbrev tZ:=@Go.World.block_lt_of_cell?
abbrev zCX:=@Go.KeepsOthers.setCell
abbrev zGj:=@List.getElem?_eq_getElem
abbrev zVu:=@Nat.le_of_lt
abbrev zVv:=@List.take_add_one
abbrev zVw:=@List.getElem?_eq_some_iff
abbrev zVx:=@Nat.mul_assoc
abbrev zVy:=@Rat.mkRat_zero
abbrev zVz:=@List.size_toArray
abbrev zVA:=@List.length_cons
abbrev zVB:=@List.length_nil
abbrev zVC:=@Array.replicate_succ
abbrev zVD:=@Array.replicate_zero
abbrev zVE:=@List.push_toArray
abbrev zVF:=@List.append_toArray
abbrev zVG:=@List.nil_append
abbrev zVH:=@List.cons_append
abbrev zVI:=@Array.getElem?_eq_some_iff
abbrev zVJ:=@Rat.num_eq_zero
abbrev zVK:=@Classical.byContradiction
abbrev zVL:=@Int.tdiv_eq_ediv_of_nonneg
abbrev zVM:=@Int.sign_eq_one_of_pos
abbrev zVN:=@List.getD_eq_getElem?_getD
abbrev zVO:=@List.any_eq_true
abbrev zVP:=@Nat.gcd_pos_of_pos_right
abbrev zVQ:=@Int.sign_eq_neg_one_of_neg
abbrev Wi:=Go.World
abbrev Wj:=Go.Value
abbrev Wk:=Go.TypeId
abbrev Wl:=Option
namespace Go.Proofs.Wd
open Tryz
set_option maxHeartbeats 1000000
open Go.RowKit Lb
theorem zTy {W:Wi} {m:Nat} {v v':Wj} {a b:Nat} (h:LV W m v a) (h':LV W m v' b) (hm:m<=2000) (hT:Tab W):Calls prog 142 #[v,v'] W (zMO W (Nat.gcd a b)):=by
 obtain ⟨A,n,c,l,rfl,h1,h2,h3,rfl⟩:=h
 obtain ⟨A',n',c',l',rfl,h1',h2',h3',rfl⟩:=h'
 exact (zQL A n c l A' n' c' l' W h1 h1' h2 h2' oO oO hT).mono fun _ _=>jL.v
theorem zPj {a b m:Nat} (ha:a<BB^m) (hb:b<BB^m):Nat.gcd a b<BB^m:=by
 rcases tY a with rfl|h
 ·rwa [Nat.gcd_zero_left]
 ·exact tE (Nat.gcd_le_left b h) ha
theorem zMy {m:Nat} {v vg:Wj} {a g B:Nat} {W:Wi} (h:LV W m v a) (hg:LV W m vg g) (hm:m<=2000) (hg0:0<g) (hc:W.cell? ⟨B,0,none⟩=some vg):
  Calls prog 153 #[v,pO B 0] W (zMO W (a / g)):=by
 obtain ⟨A,n,c,l,rfl,h1,h2,h3,h4⟩:=h
 obtain ⟨A',n',c',l',rfl,h1',h2',h3',h4'⟩:=hg
 have hd:=zIW a g hg0 A n c l A' n' c' l' W h1 h2 h1' h2' h4 h4' oO oO
 have H4:=hid h4;have H4':=hid h4'
 clear h4 h4'
 go_enter func153,ntmps153
 go_wp2_with fail
 refine hd.mono ?_
 rintro e w4 ⟨A4,n4,c4,l4,A5,n5,c5,l5,rfl,hi4,hr4,hi5,hr5,hb5⟩
 go_wp2_with fail
 go_ret
 exact ⟨_,rfl,⟨A4,n4,c4,l4,rfl,hi4,hr4⟩,hb5⟩
theorem zSX (A:Wl Addr) (n c:Nat) (w:Wi):
  Calls prog 143 #[.slice A n c] w fun e w'=>e= .returned (.func (.func 153) #[] #[pO w.heap.size 0])/\w'=w.alloc (.cells #[.slice A n c] 25):=by
 go_enter func143,ntmps143
 go_wp2
 go_ret
 exact ⟨rfl,rfl⟩
theorem zNw {W:Wi} {m:Nat} {v v':Wj} {a b:Nat} (h:LV W m v a) (h':LV W m v' b) (hm:m<=2000) (hT:Tab W):Calls prog 127 #[v,v'] W (zUA W (a / Nat.gcd a b) (b / Nat.gcd a b)):=by
 have hgc:=zTy h h' hm hT
 have hgl:=zPj h.bound h'.bound
 have hen: ∀args w,(callFunc 153 args).run prog w= .ok (.enter 153 args) w:=enters_of func153 kH rfl
 obtain ⟨g,hg⟩: ∃g,Nat.gcd a b=g:=⟨_,rfl⟩
 rw [hg] at hgc hgl ⊢
 rcases tY g with h0|h0
 ·have HZ:=hid h0
  go_enter func127,ntmps127
  go_wp2_with fail
  refine hgc.mono ?_
  rintro e w4 ⟨v4,rfl,⟨A4,n4,c4,l4,rfl,hi4,hr4⟩,hb4⟩
  obtain rfl:n4=0:=by rw [<-hr4.len];exact hi4.zero_iff.1 HZ.out
  go_wp2_with fail
  go_ret2
  exact ⟨_,_,rfl,⟨none,0,0, [],rfl,by rw [HZ.out,Nat.div_zero];exact Is.nil,wK _⟩,⟨none,0,0, [],rfl,by rw [HZ.out,Nat.div_zero];exact Is.nil,wK _⟩,hb4⟩
 ·clear hg
  go_enter func127,ntmps127
  go_wp2_with fail
  refine hgc.mono ?_
  rintro e w4 ⟨v4,rfl,⟨A4,n4,c4,l4,rfl,hi4,hr4⟩,hb4⟩
  have hn4:0<n4:=by rw [<-hr4.len];exact hi4.pos_iff.1 h0
  have hb5:=hb4.trans ((tJ _ w4).alloc (tN _) (.cells #[.slice A4 n4 c4] 25)|>.mono hb4.size)
  have x5:=Boxed.new w4 25 (.slice A4 n4 c4)
  obtain ⟨W5,hW5⟩: ∃W5,w4.alloc (.cells #[.slice A4 n4 c4] 25)=W5:=⟨_,rfl⟩
  rw [hW5] at hb5 x5
  have hg5:LV W5 m (.slice A4 n4 c4) g:=by rw [<-hW5];exact (qH.lv ⟨A4,n4,c4,l4,rfl,hi4,hr4⟩ hgl).below ((tJ _ w4).alloc (tN _) _)
  have hby:=zSX A4 n4 c4 w4
  rw [hW5] at hby
  clear hW5
  go_wp2_with fail
  refine hby.mono ?_
  rintro e w6 ⟨rfl,rfl⟩
  go_wp2_with fail
  refine (zMy (h.below hb5) hg5 hm h0 x5.cell).mono ?_
  rintro e w7 ⟨v7,rfl,hv7,hb7⟩
  go_wp2_with fail
  refine (zMy ((h'.below hb5).below hb7) (hg5.below hb7) hm h0 ((hb7.cell (p:=⟨w4.heap.size,0,none⟩) (z4 x5.cell)).trans x5.cell)).mono ?_
  rintro e w8 ⟨v8,rfl,hv8,hb8⟩
  go_wp2_with fail
  go_ret2
  have t1:=hb5.trans (hb7.mono hb5.size)
  exact ⟨_,_,rfl,hv7.below hb8,hv8,t1.trans (hb8.mono t1.size)⟩
end Go.Proofs.Wd

namespace Go.Proofs.Wd
open Tryz
set_option maxRecDepth 100000
open Go.RowKit Lb
theorem zOS {W:Wi} {m:Nat} {v:Wj} {x:Nat} (h:LV W m v x) (hm:m<=100000):Calls prog 113 #[v] W (zMO W x):=by
 obtain ⟨A,n,c,l,rfl,h1,h2,h3,rfl⟩:=h
 exact (qX A n c l W h1 h2 oO).mono fun _ _=>jL.v
theorem Tab.bls {W w:Wi} {b:Nat} {cs:List Wj} {te:Wk} (hT:Tab W) (hb:W.heap[b]?=some (.cells cs.toArray te (0,0))) (h0: ∃s,cs[0]?=some (.bool s)) (hg:BlS (fun k=>k=b) W w):Tab w:=fun j hj=>by
 have h1:=hT j hj
 have hne:(0:Nat)≠b:=fun e=>by
  have h2:=hT 0 dA
  obtain ⟨s,hs⟩:=h0
  unfold World.cell? at h2
  rw [show ((⟨0,0,none⟩:Addr).block)=b from e,hb] at h2
  simp [hs] at h2
 exact (World.cell?_of_block (a:=⟨0,j,none⟩) (hg.block _ (z4 h1) hne)).trans h1
theorem zHX {m:Nat} {k:Int} {d:Nat} {cs:List Wj} {W:Wi} (h:QVp m k d (.agg cs.toArray) W): ∃s,cs[0]?=some (.bool s):=by
 obtain ⟨u,h1,s,rfl⟩:=zRV cs W h
 exact ⟨s,h1⟩
theorem zBU {m:Nat} {k:Int} {d:Nat} {cs:List Wj} {W:Wi} (h:QVp m k d (.agg cs.toArray) W):cs.all zY=true:=by
 have:=(zDf (v:= .agg cs.toArray) h).2
 simpa [Value.cells] using this
theorem zFF {W:Wi} {v:Wj} {x:Nat} (h:qH W v x):Calls prog 98 #[v] W (Ret W (fNV (x:Int)).tS):=by
 refine z5 [(qW x).tS] func98 rfl kH ⟨h,trivial⟩ fun a s=> ?_
 refine tC ?_
 refine zB 0 [] hmix s kH
  zD fun a w1 s=> ?_
 refine zU (CU.len 2) (cs:= [.bool false, .slice none 0 0]) kH rfl s kH (fun W=>rfl) rfl fun b2 a w s=> ?_
 refine zA rfl ?_
 refine tC ?_
 refine zB 2 ((3, .Z (qW x))::(4, .u (fNV (x:Int))):: []) hmix s kH
  (oc zC<|oc (zCp (fun u W (hu:qH W u x)=>zMC hu))<|zD) fun a w2 s=> ?_
 refine zN (CU.agg (fNV (x:Int))) ((fNV (x:Int)).tS) rfl s kH rfl rfl rfl iiz iiz zF8 fun a w s=> ?_
 refine zA rfl ?_
 refine tD ?_
 exact wJ s (CU.agg (fNV (x:Int))) rfl kH rfl rfl (zPf _) (fun cs W h=>h)
theorem zNu {W:Wi} (z:Int) (hz: -9223372036854775808<=z/\z<=9223372036854775807):Calls prog 39 #[.int .i64 z] W (Ret W (fQN (z:Rat)).tS):=by
 refine z5 [(fI z).tS] func39 rfl kH ⟨rfl,trivial⟩ fun a s=> ?_
 refine tC ?_
 refine zB 0 [] hmix s kH
  zD fun a w1 s=> ?_
 refine zU (CU.len 3) (cs:=zR3) kH rfl s kH (fun W=>rfl) rfl fun b2 a w s=> ?_
 refine zA rfl ?_
 refine tC ?_
 refine zB 4 ((3, .Z (uI z))::(4, .Z (fNV z))::(5, .Z (qW 1))::(6, .u (fQN (z:Rat))):: []) hmix s kH
  (oc zC<|oc (zH zE zTX (fun u0 W hb (h0:u0= .int .i64 z)=>by subst h0;exact zVc z hz))<|oc (zAe (fun u W (hu:u= .int .u32 1)=>zOX hu))<|oc (yY (fun u v W (hu:NV W u z) (hv:qH W v 1)=>zHw (q:=(z:Rat)) hu hv))<|zD) fun a w2 s=> ?_
 refine zN (CU.agg (fQN (z:Rat))) ((fQN (z:Rat)).tS) rfl s kH rfl rfl rfl iiz iiz zV fun a w s=> ?_
 refine zA rfl ?_
 refine tD ?_
 exact wJ s (CU.agg (fQN (z:Rat))) rfl kH rfl rfl (yO _) (fun cs W h=>h)
theorem zP0 {W:Wi} {b m:Nat} {k:Int} {d:Nat} {cs:List Wj} (hh:W.heap[b]?=some (.cells cs.toArray 103 (0,0))) (hc:QVp m k d (.agg cs.toArray) W) (hm:m<=2000) (hd:d=0):Calls prog 101 #[pO b 0] W (zKb W b 103 (CU.agg (fQN ((0:Int):Rat))) (uB false).tS):=by
 have hz:true=decide (d=0):=(tV hd).symm
 refine zEJ b [(0,UF.eq (pO b 0))] [⟨0,103,CU.agg (fQV m k d),b,false⟩] func101 rfl kH (fun q hq=>by simp at hq;subst hq;exact ⟨by simp,rfl⟩) ⟨⟨cs,rfl, .inr (.inr rfl),hh,hc,zBU hc,fun y hy=>by cases hy⟩,trivial⟩ (fun x hx=>by simp at hx;subst hx;simp) fun a s=> ?_
 refine tC ?_
 refine zB 1 ((2, .u (uB false)):: []) hmix s kH
  (oc zG<|zD) fun a w1 s=> ?_
 refine zA rfl ?_
 refine tC ?_
 refine tC ?_
 refine zB 8 ((3, .s (wE b (cg (fQV m k d))))::(4, .Y (fQV m k d))::(5, .X (fQV m k d) 0)::(6, .X (fQV m k d) 2)::(7, .Z (fLV m d))::(8, .Z (qW d))::(9, .s (zPl d))::(10, .u (uB true)):: []) hmix s kH
  (oc zC<|oc (qN (C:=cg (fQV m k d)))<|oc (zO (C:=cg (fQV m k d)) 0 kH)<|oc (yZ (C:=cg (fQV m k d)) 0 2 kH)<|oc (jD (C:=cg (fQV m k d)) (k:=2) kH (h:=zGX))<|oc (zH zE zPp (fun u0 W hb (h0:LV W m u0 d)=>zOS h0 oO))<|oc (zDN kH iiz)<|oc (zDO hz)<|zD) fun a w2 s=> ?_
 refine zA rfl ?_
 refine StS.cond s true iiz (fun e=> ?_) (fun e=>by cases e)
 refine tC ?_
 refine zB 4 ((11, .Z (UF.eq (pO b 0)))::(12, .u (fQN ((0:Int):Rat)))::(13, .Z (UF.eq (pO b 0)))::(14, .u (UF.eq (pO b 0))):: []) hmix s kH
  (oc (zC (fun _ _ _ h=>h.1))<|oc (zH zE zHo (fun u0 W hb (h0:u0= .int .i64 0)=>by subst h0;exact zNu 0 dA))<|oc (zBd (a:=⟨b,0,none⟩) iiz)<|oc (jM (b:=b) (o:=0) 0 kH iiz)<|zD) fun a w3 s=> ?_
 refine q9 (c:=0) (o:=0) (kk:=3) (CU.agg (fQN ((0:Int):Rat))) ((fQN ((0:Int):Rat)).tS) rfl s kH rfl rfl iiz iiz zNg fun a w s=> ?_
 refine zA rfl ?_
 refine tC ?_
 replace s:=s.drop [2]
 refine zB 1 ((2, .u (uB false)):: []) hmix s kH
  (oc zG<|zD) fun a w4 s=> ?_
 refine zA rfl ?_
 refine tD ?_
 exact wU s (c:=0) (C:=CU.agg (fQN ((0:Int):Rat))) rfl rfl rfl rfl iiz
theorem zP1 {W:Wi} {b m:Nat} {k:Int} {d:Nat} {cs:List Wj} (hh:W.heap[b]?=some (.cells cs.toArray 103 (0,0))) (hc:QVp m k d (.agg cs.toArray) W) (hm:m<=2000) (hd0:0<d) (hT:Tab W):Calls prog 101 #[pO b 0] W (zKb W b 103 (CU.agg (fQN (mkRat k d))) (uB true).tS):=by
 have hz:false=decide (d=0):=(tW oO).symm
 have bk:k.natAbs<BB^m:=by obtain ⟨_,_,_,_,h1,_⟩:=hc;exact h1.bound
 have hred: ∀W u0 u1,Tab W->LV W m u0 k.natAbs->LV W m u1 d->Calls prog 127 #[u0,u1] W (Ret W (wX (qW (k.natAbs / Nat.gcd k.natAbs d)).tS (qW (d / Nat.gcd k.natAbs d)).tS)):=fun W u0 u1 hT h0 h1=>(zNw h0 h1 hm hT).mono fun e w' ⟨v,v',e1,h1,h2,hb⟩=>⟨_,e1,⟨v,v',rfl,h1,h2⟩,hb⟩
 refine zEJ b [(0,UF.eq (pO b 0))] [⟨0,103,CU.agg (fQV m k d),b,false⟩] func101 rfl kH (fun q hq=>by simp at hq;subst hq;exact ⟨by simp,rfl⟩) ⟨⟨cs,rfl, .inr (.inr rfl),hh,hc,zBU hc,fun y hy=>by cases hy⟩,trivial⟩ (fun x hx=>by simp at hx;subst hx;simp) fun a s=> ?_
 refine tC ?_
 refine zB 1 ((2, .u (uB false)):: []) hmix s kH
  (oc zG<|zD) fun a w1 s=> ?_
 refine zA rfl ?_
 refine tC ?_
 refine tC ?_
 refine zB 8 ((3, .s (wE b (cg (fQV m k d))))::(4, .Y (fQV m k d))::(5, .X (fQV m k d) 0)::(6, .X (fQV m k d) 2)::(7, .Z (fLV m d))::(8, .Z (qW d))::(9, .s (zPl d))::(10, .u (uB false)):: []) hmix s kH
  (oc zC<|oc (qN (C:=cg (fQV m k d)))<|oc (zO (C:=cg (fQV m k d)) 0 kH)<|oc (yZ (C:=cg (fQV m k d)) 0 2 kH)<|oc (jD (C:=cg (fQV m k d)) (k:=2) kH (h:=zGX))<|oc (zH zE zPp (fun u0 W hb (h0:LV W m u0 d)=>zOS h0 oO))<|oc (zDN kH iiz)<|oc (zDO hz)<|zD) fun a w2 s=> ?_
 refine zA rfl ?_
 refine StS.cond s false iiz (fun e=>by cases e) (fun e=> ?_)
 refine tH ?_
 refine tC ?_
 refine zB 10 ((15, .Z (UF.eq (pO b 0)))::(16, .s (wE b (cg (fQV m k d))))::(17, .Y (fQV m k d))::(18, .X (fQV m k d) 0)::(19, .X (fQV m k d) 0)::(20, .Z (fUV m k))::(21, .u (fNV k))::(22, .Z (UF.eq (pO b 0)))::(23, .Z (UF.eq (pO b 0)))::(24, .u (UF.eq (pO b 0))):: []) hmix s kH
  (oc (zC (fun _ _ _ h=>h.1))<|oc zC<|oc (qN (C:=cg (fQV m k d)))<|oc (zO (C:=cg (fQV m k d)) 0 kH)<|oc (yZ (C:=cg (fQV m k d)) 0 0 kH)<|oc (yH (C:=cg (fQV m k d)) (k:=0) 2 kH (h:=zLb))<|oc (zH zE zSJ (fun u0 W hb (h0:UV W m u0 k)=>zSb h0 oO))<|oc (zBd (a:=⟨b,0,none⟩) iiz)<|oc (jM (b:=b) (o:=0) 0 kH iiz)<|oc (jM (b:=b) (o:=0) 0 kH iiz)<|zD) fun a w3 s=> ?_
 refine q9 (c:=0) (o:=0) (kk:=2) (CU.agg (fQM m k d)) ((fNV k).tS) rfl s kH rfl rfl iiz iiz zPP fun a w s=> ?_
 refine zA rfl ?_
 refine tC ?_
 refine yL [0,1,2,8] 15 ((26, .u (UF.eq (pO b 0)))::(27, .u (UF.eq (pO b 0)))::(28, .s (wE b (cg (fQM m k d))))::(29, .Y (fQM m k d))::(30, .X (fQM m k d) 0)::(31, .X (fQM m k d) 0)::(32, .X (fQM m k d) 1)::(33, .Z (qW (k.natAbs)))::(34, .s (wE b (cg (fQM m k d))))::(35, .Y (fQM m k d))::(36, .X (fQM m k d) 0)::(37, .X (fQM m k d) 2)::(38, .Z (fLV m d))::(39, .Z (zAu (qW (k.natAbs / Nat.gcd k.natAbs d)) (qW (d / Nat.gcd k.natAbs d))))::(25, .u (zAu (qW (k.natAbs / Nat.gcd k.natAbs d)) (qW (d / Nat.gcd k.natAbs d)))):: []) hmix s kH
  (oc (zC (fun _ _ _ h=>h.1))<|oc (zC (fun _ _ _ h=>h.1))<|oc zC<|oc (qN (C:=cg (fQM m k d)))<|oc (zO (C:=cg (fQM m k d)) 0 kH)<|oc (yZ (C:=cg (fQM m k d)) 0 0 kH)<|oc (yZ (C:=cg (fQM m k d)) 0 1 kH)<|oc (jD (C:=cg (fQM m k d)) (k:=1) kH (h:=zR1))<|oc zC<|oc (qN (C:=cg (fQM m k d)))<|oc (zO (C:=cg (fQM m k d)) 0 kH)<|oc (yZ (C:=cg (fQM m k d)) 0 2 kH)<|oc (jD (C:=cg (fQM m k d)) (k:=2) kH (h:=zR0))<|oc (zJ zE zSG (fun u0 u1 W hb (h0:qH W u0 (k.natAbs)) (h1:LV W m u1 d)=>hred W u0 u1 (hT.bls hh (zHX hc) (s.gr.trans hb)) (qH.lv h0 bk) h1))<|oc zC<|zD) fun Q' hQ a w4 s=> ?_
 refine zCD (qW (k.natAbs / Nat.gcd k.natAbs d)) rfl s kH (zA1 (A:=(qW (k.natAbs / Nat.gcd k.natAbs d)).tS) (B:=(qW (d / Nat.gcd k.natAbs d)).tS) iiz) kH fun a w s=> ?_
 refine zCD (qW (d / Nat.gcd k.natAbs d)) rfl s kH (zA0 (A:=(qW (k.natAbs / Nat.gcd k.natAbs d)).tS) (B:=(qW (d / Nat.gcd k.natAbs d)).tS) iiz) kH fun a w s=> ?_
 refine zCD (UF.eq (pO b 0)) rfl s kH (zBd (a:=⟨b,0,none⟩) iiz) kH fun a w s=> ?_
 refine zCD (UF.eq (pO b 0)) rfl s kH (jM (b:=b) (o:=0) 0 kH iiz) kH fun a w s=> ?_
 refine zCD (UF.eq (pO b 0)) rfl s kH (jM (b:=b) (o:=0) 0 kH iiz) kH fun a w s=> ?_
 refine zCD (UF.eq (pO b 1)) rfl s kH (jM (b:=b) (o:=0) 1 kH iiz) kH fun a w s=> ?_
 refine q9 (c:=0) (o:=1) (kk:=1) (CU.agg (fQA m (decide (k<0)) (k.natAbs / Nat.gcd k.natAbs d) d)) ((qW (k.natAbs / Nat.gcd k.natAbs d)).tS) rfl s kH rfl rfl iiz iiz zRC fun a w s=> ?_
 refine zCD (UF.eq (pO b 0)) rfl s kH (zBd (a:=⟨b,0,none⟩) iiz) kH fun a w s=> ?_
 refine zCD (UF.eq (pO b 0)) rfl s kH (jM (b:=b) (o:=0) 0 kH iiz) kH fun a w s=> ?_
 refine zCD (UF.eq (pO b 2)) rfl s kH (jM (b:=b) (o:=0) 2 kH iiz) kH fun a w s=> ?_
 refine q9 (c:=0) (o:=2) (kk:=1) (CU.agg (fQN (mkRat k d))) ((qW (d / Nat.gcd k.natAbs d)).tS) rfl s kH rfl rfl iiz iiz (zRB (zB3 k d hd0).symm (zDq k d hd0).symm (zCr k d hd0).symm) fun a w s=> ?_
 refine zA rfl (hQ _ _ ?_)
 refine tC ?_
 replace s:=s.drop [2]
 refine zB 1 ((2, .u (uB true)):: []) hmix s kH
  (oc zG<|zD) fun a w5 s=> ?_
 refine zA rfl ?_
 refine tD ?_
 exact wU s (c:=0) (C:=CU.agg (fQN (mkRat k d))) rfl rfl rfl rfl iiz
theorem zCi {W:Wi} {b m:Nat} {k:Int} {d:Nat} {cs:List Wj} (hh:W.heap[b]?=some (.cells cs.toArray 103 (0,0))) (hc:QVp m k d (.agg cs.toArray) W) (hm:m<=2000) (hT:Tab W):Calls prog 101 #[pO b 0] W (zKb W b 103 (CU.agg (fQN (mkRat k d))) (uB (decide (0<d))).tS):=by
 rcases tY d with h|h
 ·have:=zP0 hh hc hm h
  rw [h,zVy,tW oO]
  exact this
 ·rw [tV h]
  exact zP1 hh hc hm h hT
end Go.Proofs.Wd

namespace Go.Proofs.Wd
open Tryz
set_option maxRecDepth 100000
open Go.RowKit Lb
theorem zTp {W:Wi} {m:Nat} {v:Wj} {k:Int} {d:Nat} (h:QVp m k d v W) (hm:m<=2000) (hT:Tab W):Calls prog 91 #[v] W (Ret W (wF W 103 (CU.agg (fQN (mkRat k d))))):=by
 refine z5 [(fQV m k d).tS] func91 rfl kH ⟨h,trivial⟩ fun a s=> ?_
 refine tC ?_
 refine zB 0 [] hmix s kH
  zD fun a w1 s=> ?_
 refine yN (CU.agg (fQV m k d)) rfl s kH (fun v W h=>zDf h) fun b1 a w s=> ?_
 refine yV (UF.eq (.pointer none)) rfl s kH iiz fun a w s=> ?_
 refine zA rfl ?_
 refine tC ?_
 refine zB 2 ((4, .Z (fQV m k d))::(5, .u (fQV m k d)):: []) hmix s kH
  (oc (zI (f:=fQV m k d) 3 kH (hz:=zO3 _ _ _))<|oc (zCp (fun u W (hu:QVp m k d u W)=>zMD hu))<|zD) fun a w2 s=> ?_
 refine yN (CU.agg (fQV m k d)) rfl s kH (fun v W h=>zDf h) fun b6 a w s=> ?_
 refine zPM rfl s kH fun a w s=> ?_
 refine zA rfl ?_
 refine tC ?_
 refine zB 1 ((7, .u (UF.eq (pO b6 0))):: []) hmix s kH
  (oc (zC (fun _ _ _ h=>h.1))<|zD) fun a w3 s=> ?_
 refine zC9 (c:=3) (CU.agg (fQN (mkRat k d))) (UF.any) rfl zE zHp s kH rfl rfl iiz (fun cs h1 h2=> ?_) fun a w s=> ?_
 ·exact (zCi h1 h2 hm (hT.below s.gr.below)).mono fun e w' ⟨v,g1,_,g2⟩=>⟨v,g1,trivial,g2⟩
 refine zA rfl ?_
 refine tC ?_
 replace s:=s.drop [2]
 refine zB 2 ((9, .s (wE b6 (cg (fQN (mkRat k d)))))::(2, .u (UF.eq (pO b6 0))):: []) hmix s kH
  (oc zC<|oc (zG (fun _ _ _ h=>h.1))<|zD) fun a w4 s=> ?_
 refine zA rfl ?_
 refine tD ?_
 exact vL s (t:=2) (c:=3) rfl rfl rfl iiz
theorem zNZ {W:Wi} {b b' m m':Nat} {q q':Rat} {cs cs':List Wj} (hh:W.heap[b]?=some (.cells cs.toArray 103 (0,0))) (hc:QNp q (.agg cs.toArray) W) (hh':W.heap[b']?=some (.cells cs'.toArray 103 (0,0))) (hc':QNp q' (.agg cs'.toArray) W) (hne:b'≠b) (hq:QB q m) (hq':QB q' m') (hm:m+m'+1<=2000) (hT:Tab W):Calls prog 74 #[pO b 0,pO b' 0] W (zKb W b 103 (CU.agg (fQN (q+q'))) SF.any):=by
 have bk:Bd (((q).num*((q').den:Int))+((q').num*((q).den:Int))) (m+m'+1):=hq.num_add hq'
 rw [Rat.add_def']
 refine zEJ b [(0,UF.eq (pO b 0)),(1,UF.eq (pO b' 0))] [⟨0,103,CU.agg (fQN q),b,false⟩,⟨1,103,CU.agg (fQN q'),b',true⟩] func74 rfl kH (fun x hx=>by simp at hx;rcases hx with rfl|rfl<;>exact ⟨by simp,rfl⟩) ⟨⟨cs,rfl, .inr (.inr rfl),hh,hc,zBU (zHY hc hq),fun y hy=>by simp at hy;subst hy;exact .inl hne⟩,⟨cs',rfl, .inl rfl,hh',hc',zBU (zHY hc' hq'),fun y hy=>by cases hy⟩,trivial⟩ (fun x hx=>by simp at hx;rcases hx with rfl|rfl<;>simp) fun a s=> ?_
 refine tC ?_
 refine yL [0,1,6,14,19] 32 ((4, .Z (UF.eq (pO b 0)))::(5, .s (wE b (cg (fQN q))))::(6, .Y (fQN q))::(7, .X (fQN q) 0)::(8, .X (fQN q) 0)::(9, .Z (fNV ((q).num)))::(10, .s (wE b' (cg (fQN q'))))::(11, .Y (fQN q'))::(12, .X (fQN q') 0)::(13, .X (fQN q') 2)::(14, .Z (qW ((q').den)))::(15, .Z (fNV ((q').den:Int)))::(16, .s (zJh (m+m') [(q).num,((q').den:Int)]))::(17, .Z (fNV ((q).num*((q').den:Int))))::(18, .s (wE b' (cg (fQN q'))))::(19, .Y (fQN q'))::(20, .X (fQN q') 0)::(21, .X (fQN q') 0)::(22, .Z (fNV ((q').num)))::(23, .s (wE b (cg (fQN q))))::(24, .Y (fQN q))::(25, .X (fQN q) 0)::(26, .X (fQN q) 2)::(27, .Z (qW ((q).den)))::(28, .Z (fNV ((q).den:Int)))::(29, .s (zJh (m+m') [(q').num,((q).den:Int)]))::(30, .Z (fNV ((q').num*((q).den:Int))))::(31, .s (zJh (m+m') [((q).num*((q').den:Int)),((q').num*((q).den:Int))]))::(32, .u (fNV (((q).num*((q').den:Int))+((q').num*((q).den:Int)))))::(33, .Z (UF.eq (pO b 0)))::(34, .Z (UF.eq (pO b 0)))::(35, .u (UF.eq (pO b 0))):: []) hmix s kH
  (oc (zC (fun _ _ _ h=>h.1))<|oc zC<|oc (qN (C:=cg (fQN q)))<|oc (zO (C:=cg (fQN q)) 0 kH)<|oc (yZ (C:=cg (fQN q)) 0 0 kH)<|oc (yH (C:=cg (fQN q)) (k:=0) 2 kH (h:=zBh))<|oc zC<|oc (qN (C:=cg (fQN q')))<|oc (zO (C:=cg (fQN q')) 0 kH)<|oc (yZ (C:=cg (fQN q')) 0 2 kH)<|oc (jD (C:=cg (fQN q')) (k:=2) kH (h:=zAP))<|oc (zH zE zOj (fun u0 W hb (h0:qH W u0 ((q').den))=>zFF h0))<|oc (yI (fun u v W (hu:NV W u ((q).num)) (hv:NV W v ((q').den:Int))=>zAW (NV.uv' hu (Bd.mono (hq).1 (m':=(m+m')) (by first|omega|decide))) (NV.uv' hv (Bd.mono (jU hq'.2) (m':=(m+m')) (by first|omega|decide)))))<|oc (zH zE zJ1 (fun u0 W hb (h0:ISV W (m+m') u0 [(q).num,((q').den:Int)])=>zJT (k:=((q).num*((q').den:Int))) h0 (by show (m+m')*2+(m+m')+1<=40000;omega) fM fM))<|oc zC<|oc (qN (C:=cg (fQN q')))<|oc (zO (C:=cg (fQN q')) 0 kH)<|oc (yZ (C:=cg (fQN q')) 0 0 kH)<|oc (yH (C:=cg (fQN q')) (k:=0) 2 kH (h:=zBh))<|oc zC<|oc (qN (C:=cg (fQN q)))<|oc (zO (C:=cg (fQN q)) 0 kH)<|oc (yZ (C:=cg (fQN q)) 0 2 kH)<|oc (jD (C:=cg (fQN q)) (k:=2) kH (h:=zAP))<|oc (zH zE zOj (fun u0 W hb (h0:qH W u0 ((q).den))=>zFF h0))<|oc (yI (fun u v W (hu:NV W u ((q').num)) (hv:NV W v ((q).den:Int))=>zAW (NV.uv' hu (Bd.mono (hq').1 (m':=(m+m')) (by first|omega|decide))) (NV.uv' hv (Bd.mono (jU hq.2) (m':=(m+m')) (by first|omega|decide)))))<|oc (zH zE zJ1 (fun u0 W hb (h0:ISV W (m+m') u0 [(q').num,((q).den:Int)])=>zJT (k:=((q').num*((q).den:Int))) h0 (by show (m+m')*2+(m+m')+1<=40000;omega) fM fM))<|oc (yI (fun u v W (hu:NV W u ((q).num*((q').den:Int))) (hv:NV W v ((q').num*((q).den:Int)))=>zAW (NV.uv' hu (Bd.mono (Bd.mul (hq).1 (jU hq'.2)) oO)) (NV.uv' hv (Bd.mono (Bd.mul (hq').1 (jU hq.2)) oO))))<|oc (zH zE zSQ (fun u0 W hb (h0:ISV W (m+m') u0 [((q).num*((q').den:Int)),((q').num*((q).den:Int))])=>zUw (k:=(((q).num*((q').den:Int))+((q').num*((q).den:Int)))) h0 oO fM fM))<|oc (zBd (a:=⟨b,0,none⟩) iiz)<|oc (jM (b:=b) (o:=0) 0 kH iiz)<|oc (jM (b:=b) (o:=0) 0 kH iiz)<|zD) fun Q' hQ a w1 s=> ?_
 refine q9 (c:=0) (o:=0) (kk:=2) (CU.agg (fQK (((q).num*((q').den:Int))+((q').num*((q).den:Int))) ((q).den))) ((fNV (((q).num*((q').den:Int))+((q').num*((q).den:Int)))).tS) rfl s kH rfl rfl iiz iiz (zHK (k0:=q.num) (d:=q.den)) fun a w s=> ?_
 refine zA rfl (hQ _ _ ?_)
 refine tC ?_
 refine yL [0,1,6] 15 ((36, .Z (UF.eq (pO b 0)))::(37, .s (wE b (cg (fQK (((q).num*((q').den:Int))+((q').num*((q).den:Int))) ((q).den)))))::(38, .Y (fQK (((q).num*((q').den:Int))+((q').num*((q).den:Int))) ((q).den)))::(39, .X (fQK (((q).num*((q').den:Int))+((q').num*((q).den:Int))) ((q).den)) 0)::(40, .X (fQK (((q).num*((q').den:Int))+((q').num*((q).den:Int))) ((q).den)) 2)::(41, .Z (qW ((q).den)))::(42, .s (wE b' (cg (fQN q'))))::(43, .Y (fQN q'))::(44, .X (fQN q') 0)::(45, .X (fQN q') 2)::(46, .Z (qW ((q').den)))::(47, .u (qW (((q).den)*((q').den))))::(48, .Z (UF.eq (pO b 0)))::(49, .Z (UF.eq (pO b 0)))::(50, .u (UF.eq (pO b 2))):: []) hmix s kH
  (oc (zC (fun _ _ _ h=>h.1))<|oc zC<|oc (qN (C:=cg (fQK (((q).num*((q').den:Int))+((q').num*((q).den:Int))) ((q).den))))<|oc (zO (C:=cg (fQK (((q).num*((q').den:Int))+((q').num*((q).den:Int))) ((q).den))) 0 kH)<|oc (yZ (C:=cg (fQK (((q).num*((q').den:Int))+((q').num*((q).den:Int))) ((q).den))) 0 2 kH)<|oc (jD (C:=cg (fQK (((q).num*((q').den:Int))+((q').num*((q).den:Int))) ((q).den))) (k:=2) kH (h:=zR4))<|oc zC<|oc (qN (C:=cg (fQN q')))<|oc (zO (C:=cg (fQN q')) 0 kH)<|oc (yZ (C:=cg (fQN q')) 0 2 kH)<|oc (jD (C:=cg (fQN q')) (k:=2) kH (h:=zAP))<|oc (zJ zE zQV (fun u0 u1 W hb (h0:qH W u0 ((q).den)) (h1:qH W u1 ((q').den))=>zQB (LV.mono (qH.lv h0 hq.2) (m':=(m+m')) oO) (LV.mono (qH.lv h1 hq'.2) (m':=(m+m')) oO) oO))<|oc (zBd (a:=⟨b,0,none⟩) iiz)<|oc (jM (b:=b) (o:=0) 0 kH iiz)<|oc (jM (b:=b) (o:=0) 2 kH iiz)<|zD) fun Q' hQ a w2 s=> ?_
 refine q9 (c:=0) (o:=2) (kk:=1) (CU.agg (fQK (((q).num*((q').den:Int))+((q').num*((q).den:Int))) (((q).den)*((q').den)))) ((qW (((q).den)*((q').den))).tS) rfl s kH rfl rfl iiz iiz zKy fun a w s=> ?_
 refine zA rfl (hQ _ _ ?_)
 refine zB 1 ((51, .u (UF.eq (pO b 0))):: []) hmix s kH
  (oc (zC (fun _ _ _ h=>h.1))<|zD) fun a w3 s=> ?_
 refine zC9 (c:=0) (CU.agg (fQN (mkRat (((q).num*((q').den:Int))+((q').num*((q).den:Int))) ((q).den*(q').den)))) (UF.any) rfl zE zHp s kH rfl rfl iiz (fun cs h1 h2=> ?_) fun a w s=> ?_
 ·exact (zCi (m:=m+m'+1) h1 (zR2 h2 bk (tF (hq.den_mul hq') (tQ y8 oO))) oO (hT.bls hh (zHX (zHY hc hq)) s.gr)).mono fun e w' ⟨v,g1,_,g2⟩=>⟨v,g1,trivial,g2⟩
 refine zA rfl ?_
 exact vH s (c:=0) (C:=CU.agg (fQN (mkRat (((q).num*((q').den:Int))+((q').num*((q).den:Int))) ((q).den*(q').den)))) rfl rfl rfl rfl (fun _=>trivial)
theorem zNY {W:Wi} {b b' m m':Nat} {q q':Rat} {cs cs':List Wj} (hh:W.heap[b]?=some (.cells cs.toArray 103 (0,0))) (hc:QNp q (.agg cs.toArray) W) (hh':W.heap[b']?=some (.cells cs'.toArray 103 (0,0))) (hc':QNp q' (.agg cs'.toArray) W) (hne:b'≠b) (hq:QB q m) (hq':QB q' m') (hm:m+m'+1<=2000) (hT:Tab W):Calls prog 114 #[pO b 0,pO b' 0] W (zKb W b 103 (CU.agg (fQN (q*q'))) SF.any):=by
 have bk:Bd ((q).num*(q').num) (m+m'+1):=(hq.1.mul hq'.1).mono oO
 rw [Rat.mul_def']
 refine zEJ b [(0,UF.eq (pO b 0)),(1,UF.eq (pO b' 0))] [⟨0,103,CU.agg (fQN q),b,false⟩,⟨1,103,CU.agg (fQN q'),b',true⟩] func114 rfl kH (fun x hx=>by simp at hx;rcases hx with rfl|rfl<;>exact ⟨by simp,rfl⟩) ⟨⟨cs,rfl, .inr (.inr rfl),hh,hc,zBU (zHY hc hq),fun y hy=>by simp at hy;subst hy;exact .inl hne⟩,⟨cs',rfl, .inl rfl,hh',hc',zBU (zHY hc' hq'),fun y hy=>by cases hy⟩,trivial⟩ (fun x hx=>by simp at hx;rcases hx with rfl|rfl<;>simp) fun a s=> ?_
 refine tC ?_
 refine yL [0,1,2,7,14,19] 28 ((4, .Z (UF.eq (pO b 0)))::(5, .u (UF.eq (pO b 0)))::(6, .s (wE b (cg (fQN q))))::(7, .Y (fQN q))::(8, .X (fQN q) 0)::(9, .X (fQN q) 0)::(10, .Z (fNV ((q).num)))::(11, .s (wE b' (cg (fQN q'))))::(12, .Y (fQN q'))::(13, .X (fQN q') 0)::(14, .X (fQN q') 0)::(15, .Z (fNV ((q').num)))::(16, .s (zJh (m+m') [(q).num,(q').num]))::(17, .u (fNV ((q).num*(q').num)))::(18, .s (wE b (cg (fQN q))))::(19, .Y (fQN q))::(20, .X (fQN q) 0)::(21, .X (fQN q) 2)::(22, .Z (qW ((q).den)))::(23, .s (wE b' (cg (fQN q'))))::(24, .Y (fQN q'))::(25, .X (fQN q') 0)::(26, .X (fQN q') 2)::(27, .Z (qW ((q').den)))::(28, .u (qW (((q).den)*((q').den))))::(29, .Z (UF.eq (pO b 0)))::(30, .Z (UF.eq (pO b 0)))::(31, .u (UF.eq (pO b 0))):: []) hmix s kH
  (oc (zC (fun _ _ _ h=>h.1))<|oc (zC (fun _ _ _ h=>h.1))<|oc zC<|oc (qN (C:=cg (fQN q)))<|oc (zO (C:=cg (fQN q)) 0 kH)<|oc (yZ (C:=cg (fQN q)) 0 0 kH)<|oc (yH (C:=cg (fQN q)) (k:=0) 2 kH (h:=zBh))<|oc zC<|oc (qN (C:=cg (fQN q')))<|oc (zO (C:=cg (fQN q')) 0 kH)<|oc (yZ (C:=cg (fQN q')) 0 0 kH)<|oc (yH (C:=cg (fQN q')) (k:=0) 2 kH (h:=zBh))<|oc (yI (fun u v W (hu:NV W u ((q).num)) (hv:NV W v ((q').num))=>zAW (NV.uv' hu (Bd.mono (hq).1 (m':=(m+m')) (by first|omega|decide))) (NV.uv' hv (Bd.mono (hq').1 (m':=(m+m')) (by first|omega|decide)))))<|oc (zH zE zJ1 (fun u0 W hb (h0:ISV W (m+m') u0 [(q).num,(q').num])=>zJT (k:=((q).num*(q').num)) h0 (by show (m+m')*2+(m+m')+1<=40000;omega) fM fM))<|oc zC<|oc (qN (C:=cg (fQN q)))<|oc (zO (C:=cg (fQN q)) 0 kH)<|oc (yZ (C:=cg (fQN q)) 0 2 kH)<|oc (jD (C:=cg (fQN q)) (k:=2) kH (h:=zAP))<|oc zC<|oc (qN (C:=cg (fQN q')))<|oc (zO (C:=cg (fQN q')) 0 kH)<|oc (yZ (C:=cg (fQN q')) 0 2 kH)<|oc (jD (C:=cg (fQN q')) (k:=2) kH (h:=zAP))<|oc (zJ zE zQV (fun u0 u1 W hb (h0:qH W u0 ((q).den)) (h1:qH W u1 ((q').den))=>zQB (LV.mono (qH.lv h0 hq.2) (m':=(m+m')) oO) (LV.mono (qH.lv h1 hq'.2) (m':=(m+m')) oO) oO))<|oc (zBd (a:=⟨b,0,none⟩) iiz)<|oc (jM (b:=b) (o:=0) 0 kH iiz)<|oc (jM (b:=b) (o:=0) 0 kH iiz)<|zD) fun Q' hQ a w1 s=> ?_
 refine q9 (c:=0) (o:=0) (kk:=2) (CU.agg (fQK ((q).num*(q').num) ((q).den))) ((fNV ((q).num*(q').num)).tS) rfl s kH rfl rfl iiz iiz (zHK (k0:=q.num) (d:=q.den)) fun a w s=> ?_
 refine zCD (UF.eq (pO b 0)) rfl s kH (zBd (a:=⟨b,0,none⟩) iiz) kH fun a w s=> ?_
 refine zCD (UF.eq (pO b 0)) rfl s kH (jM (b:=b) (o:=0) 0 kH iiz) kH fun a w s=> ?_
 refine zCD (UF.eq (pO b 2)) rfl s kH (jM (b:=b) (o:=0) 2 kH iiz) kH fun a w s=> ?_
 refine q9 (c:=0) (o:=2) (kk:=1) (CU.agg (fQK ((q).num*(q').num) (((q).den)*((q').den)))) ((qW (((q).den)*((q').den))).tS) rfl s kH rfl rfl iiz iiz zKy fun a w s=> ?_
 refine zA rfl (hQ _ _ ?_)
 refine zB 1 ((35, .u (UF.eq (pO b 0))):: []) hmix s kH
  (oc (zC (fun _ _ _ h=>h.1))<|zD) fun a w2 s=> ?_
 refine zC9 (c:=0) (CU.agg (fQN (mkRat ((q).num*(q').num) ((q).den*(q').den)))) (UF.any) rfl zE zHp s kH rfl rfl iiz (fun cs h1 h2=> ?_) fun a w s=> ?_
 ·exact (zCi (m:=m+m'+1) h1 (zR2 h2 bk (tF (hq.den_mul hq') (tQ y8 oO))) oO (hT.bls hh (zHX (zHY hc hq)) s.gr)).mono fun e w' ⟨v,g1,_,g2⟩=>⟨v,g1,trivial,g2⟩
 refine zA rfl ?_
 exact vH s (c:=0) (C:=CU.agg (fQN (mkRat ((q).num*(q').num) ((q).den*(q').den)))) rfl rfl rfl rfl (fun _=>trivial)
end Go.Proofs.Wd

namespace Go.Proofs.Wd
open Tryz
set_option maxRecDepth 100000
open Go.RowKit Lb
theorem zHO {W:Wi} {m:Nat} {v:Wj} {q:Rat} (h:RVp m q v W) (hm:m<=2000) (hT:Tab W):Calls prog 91 #[v] W (Ret W (wF W 103 (CU.agg (fQN q)))):=by
 obtain ⟨k,d,h1,rfl⟩:=h
 exact zTp h1 hm hT
theorem zHS {W:Wi} {m:Nat} {v:Wj} {q:Rat} (h:RVp m q v W) (hm:m<=2000) (hm0:0<m) (hT:Tab W):Calls prog 69 #[v] W (Ret W (fI q.num.sign).tS):=by
 have hq:QB q m:=h.qb hm0
 refine z5 [(fRV m q).tS] func69 rfl kH ⟨h,trivial⟩ fun a s=> ?_
 refine tC ?_
 refine zB 0 [] hmix s kH
  zD fun a w1 s=> ?_
 refine yN (CU.agg (fRV m q)) rfl s kH (fun v W h=>zAc h) fun b1 a w s=> ?_
 refine yV (uI 0) rfl s kH iiz fun a w s=> ?_
 refine zA rfl ?_
 refine tC ?_
 replace s:=s.drop [2]
 refine zB 8 ((3, .Z (fRV m q))::(4, .s (wF w 103 (CU.agg (fQN q))))::(5, .Y (fQN q))::(6, .X (fQN q) 0)::(7, .X (fQN q) 0)::(8, .Z (fNV ((q).num)))::(9, .Z (uI (q.num.sign)))::(2, .u (uI (q.num.sign))):: []) hmix s kH
  (oc (zI (f:=fRV m q) 3 kH (hz:=yW _ _))<|oc (zH zE zJ2 (fun u0 W hb (h0:RVp m q u0 W)=>(zHO h0 oO (hT.below (s.up hb))).mono (wI (zBw hb.size))))<|oc (qN (C:=cg (fQN q)) zJS)<|oc (zO (C:=cg (fQN q)) 0 kH)<|oc (yZ (C:=cg (fQN q)) 0 0 kH)<|oc (yH (C:=cg (fQN q)) (k:=0) 2 kH (h:=zBh))<|oc (zH zE zTJ (fun u0 W hb (h0:NV W u0 ((q).num))=>zEx (zRG (NV.uv' h0 (hq).1) oO)))<|oc zG<|zD) fun a w2 s=> ?_
 refine zA rfl ?_
 refine tD ?_
 exact wH s (t:=2) rfl iiz
theorem zDe {W:Wi} {m:Nat} {v v':Wj} {q q':Rat} (h:RVp m q v W) (h':RVp m q' v' W) (hm:m<=2000) (hm0:0<m) (hT:Tab W):Calls prog 71 #[v,v'] W (Ret W (fI (qsg q q')).tS):=by
 have hq:QB q m:=h.qb hm0
 have hq':QB q' m:=h'.qb hm0
 refine z5 [(fRV m q).tS,(fRV m q').tS] func71 rfl kH ⟨h,h',trivial⟩ fun a s=> ?_
 refine tC ?_
 refine zB 0 [] hmix s kH
  zD fun a w1 s=> ?_
 refine yN (CU.agg (fRV m q)) rfl s kH (fun v W h=>zAc h) fun b2 a w s=> ?_
 refine yN (CU.agg (fRV m q')) rfl s kH (fun v W h=>zAc h) fun b3 a w s=> ?_
 refine yV (uI 0) rfl s kH iiz fun a w s=> ?_
 refine zA rfl ?_
 refine tC ?_
 have so:=s.old;have sg:=s.gr
 refine jG 6 ((7, .Z (fRV m q))::(8, .s (wF w 103 (CU.agg (fQN q))))::(9, .Z (fRV m q'))::(10, .s (wF w 103 (CU.agg (fQN q'))))::(5, .s (wF w 103 (CU.agg (fQN q))))::(6, .s (wF w 103 (CU.agg (fQN q')))):: []) hmix s kH
  (oc (zI (f:=fRV m q) 3 kH (hz:=yW _ _))<|oc (zH zE zJ2 (fun u0 W hb (h0:RVp m q u0 W)=>(zHO h0 oO (hT.below (s.up hb))).mono (wI (zBw hb.size))))<|oc (zI (f:=fRV m q') 3 kH (hz:=yW _ _))<|oc (zH zE zJ2 (fun u0 W hb (h0:RVp m q' u0 W)=>(zHO h0 oO (hT.below (s.up hb))).mono (wI (zBw hb.size))))<|oc zG<|oc zG<|zD) fun a w2 s hr=> ?_
 obtain ⟨b5,_,s⟩:=s.adopt true 5 (hr (_,_) mz4) sg (fun y hy=> .inl (so y hy))
 obtain ⟨b6,_,s⟩:=s.adopt true 6 (hr (_,_) mz5) sg (fun y hy=>by rcases tL.1 hy with rfl|hy;exact .inr ⟨rfl,rfl⟩;exact .inl (so y hy))
 refine zA rfl ?_
 refine tC ?_
 replace s:=s.drop [4]
 refine zB 28 ((11, .s (wE b5 (cg (fQN q))))::(12, .Y (fQN q))::(13, .X (fQN q) 0)::(14, .X (fQN q) 0)::(15, .Z (fNV ((q).num)))::(16, .s (wE b6 (cg (fQN q'))))::(17, .Y (fQN q'))::(18, .X (fQN q') 0)::(19, .X (fQN q') 2)::(20, .Z (qW ((q').den)))::(21, .Z (fNV ((q').den:Int)))::(22, .s (zJh (m+m) [(q).num,((q').den:Int)]))::(23, .Z (fNV ((q).num*((q').den:Int))))::(24, .s (wE b6 (cg (fQN q'))))::(25, .Y (fQN q'))::(26, .X (fQN q') 0)::(27, .X (fQN q') 0)::(28, .Z (fNV ((q').num)))::(29, .s (wE b5 (cg (fQN q))))::(30, .Y (fQN q))::(31, .X (fQN q) 0)::(32, .X (fQN q) 2)::(33, .Z (qW ((q).den)))::(34, .Z (fNV ((q).den:Int)))::(35, .s (zJh (m+m) [(q').num,((q).den:Int)]))::(36, .Z (fNV ((q').num*((q).den:Int))))::(37, .Z (uI (qsg q q')))::(4, .u (uI (qsg q q'))):: []) hmix s kH
  (oc zC<|oc (qN (C:=cg (fQN q)))<|oc (zO (C:=cg (fQN q)) 0 kH)<|oc (yZ (C:=cg (fQN q)) 0 0 kH)<|oc (yH (C:=cg (fQN q)) (k:=0) 2 kH (h:=zBh))<|oc zC<|oc (qN (C:=cg (fQN q')))<|oc (zO (C:=cg (fQN q')) 0 kH)<|oc (yZ (C:=cg (fQN q')) 0 2 kH)<|oc (jD (C:=cg (fQN q')) (k:=2) kH (h:=zAP))<|oc (zH zE zOj (fun u0 W hb (h0:qH W u0 ((q').den))=>zFF h0))<|oc (yI (fun u v W (hu:NV W u ((q).num)) (hv:NV W v ((q').den:Int))=>zAW (NV.uv' hu (Bd.mono (hq).1 (m':=(m+m)) (by first|omega|decide))) (NV.uv' hv (Bd.mono (jU hq'.2) (m':=(m+m)) (by first|omega|decide)))))<|oc (zH zE zJ1 (fun u0 W hb (h0:ISV W (m+m) u0 [(q).num,((q').den:Int)])=>zJT (k:=((q).num*((q').den:Int))) h0 (by show (m+m)*2+(m+m)+1<=40000;omega) fM fM))<|oc zC<|oc (qN (C:=cg (fQN q')))<|oc (zO (C:=cg (fQN q')) 0 kH)<|oc (yZ (C:=cg (fQN q')) 0 0 kH)<|oc (yH (C:=cg (fQN q')) (k:=0) 2 kH (h:=zBh))<|oc zC<|oc (qN (C:=cg (fQN q)))<|oc (zO (C:=cg (fQN q)) 0 kH)<|oc (yZ (C:=cg (fQN q)) 0 2 kH)<|oc (jD (C:=cg (fQN q)) (k:=2) kH (h:=zAP))<|oc (zH zE zOj (fun u0 W hb (h0:qH W u0 ((q).den))=>zFF h0))<|oc (yI (fun u v W (hu:NV W u ((q').num)) (hv:NV W v ((q).den:Int))=>zAW (NV.uv' hu (Bd.mono (hq').1 (m':=(m+m)) (by first|omega|decide))) (NV.uv' hv (Bd.mono (jU hq.2) (m':=(m+m)) (by first|omega|decide)))))<|oc (zH zE zJ1 (fun u0 W hb (h0:ISV W (m+m) u0 [(q').num,((q).den:Int)])=>zJT (k:=((q').num*((q).den:Int))) h0 (by show (m+m)*2+(m+m)+1<=40000;omega) fM fM))<|oc (zJ zE zTH (fun u0 u1 W hb (h0:NV W u0 ((q).num*((q').den:Int))) (h1:NV W u1 ((q').num*((q).den:Int)))=>zEx (zUm (NV.uv' h0 (Bd.mul (hq).1 (jU hq'.2))) (NV.uv' h1 (Bd.mul (hq').1 (jU hq.2))) oO)))<|oc zG<|zD) fun a w3 s=> ?_
 refine zA rfl ?_
 refine tD ?_
 exact wH s (t:=4) rfl iiz
theorem zKW {W:Wi} {m:Nat} {v:Wj} {q:Rat} (h:RVp m q v W) (hm:m<=2000) (hm0:0<m) (hT:Tab W):Calls prog 68 #[v] W (Ret W (fQN (-q)).tS):=by
 have hq:QB q m:=h.qb hm0
 refine z5 [(fRV m q).tS] func68 rfl kH ⟨h,trivial⟩ fun a s=> ?_
 refine tC ?_
 refine zB 0 [] hmix s kH
  zD fun a w1 s=> ?_
 refine yN (CU.agg (fRV m q)) rfl s kH (fun v W h=>zAc h) fun b1 a w s=> ?_
 refine zU (CU.len 3) (cs:=zR3) kH rfl s kH (fun W=>rfl) rfl fun b2 a w s=> ?_
 refine zA rfl ?_
 refine tC ?_
 have so:=s.old;have sg:=s.gr
 refine jG 3 ((4, .Z (fRV m q))::(5, .s (wF w 103 (CU.agg (fQN q))))::(3, .s (wF w 103 (CU.agg (fQN q)))):: []) hmix s kH
  (oc (zI (f:=fRV m q) 3 kH (hz:=yW _ _))<|oc (zH zE zJ2 (fun u0 W hb (h0:RVp m q u0 W)=>(zHO h0 oO (hT.below (s.up hb))).mono (wI (zBw hb.size))))<|oc zG<|zD) fun a w2 s hr=> ?_
 obtain ⟨b3,_,s⟩:=s.adopt false 3 (hr (_,_) mz2) sg (fun y hy=> .inl (so y hy))
 refine zA rfl ?_
 refine tC ?_
 refine zB 10 ((6, .Z (UF.eq (pO b3 0)))::(7, .s (wE b3 (cg (fQN q))))::(8, .Y (fQN q))::(9, .X (fQN q) 0)::(10, .X (fQN q) 0)::(11, .Z (fNV ((q).num)))::(12, .u (fNV (-(q).num)))::(13, .Z (UF.eq (pO b3 0)))::(14, .Z (UF.eq (pO b3 0)))::(15, .u (UF.eq (pO b3 0))):: []) hmix s kH
  (oc (zC (fun _ _ _ h=>h.1))<|oc zC<|oc (qN (C:=cg (fQN q)))<|oc (zO (C:=cg (fQN q)) 0 kH)<|oc (yZ (C:=cg (fQN q)) 0 0 kH)<|oc (yH (C:=cg (fQN q)) (k:=0) 2 kH (h:=zBh))<|oc (zH zE zTK (fun u0 W hb (h0:NV W u0 ((q).num))=>zTu (NV.uv' h0 (hq).1) oO))<|oc (zBd (a:=⟨b3,0,none⟩) iiz)<|oc (jM (b:=b3) (o:=0) 0 kH iiz)<|oc (jM (b:=b3) (o:=0) 0 kH iiz)<|zD) fun a w3 s=> ?_
 refine q9 (c:=3) (o:=0) (kk:=2) (CU.agg (fQN (-q))) ((fNV (-(q).num)).tS) rfl s kH rfl rfl iiz iiz (zHK (k0:=q.num) (d:=q.den)) fun a w s=> ?_
 refine zA rfl ?_
 refine tC ?_
 refine zB 4 ((16, .s (wE b3 (cg (fQN (-q)))))::(17, .Y (fQN (-q)))::(18, .X (fQN (-q)) 0)::(19, .u (fQN (-q))):: []) hmix s kH
  (oc zC<|oc (qN (C:=cg (fQN (-q))))<|oc (zO (C:=cg (fQN (-q))) 0 kH)<|oc (yH (C:=cg (fQN (-q))) (k:=0) 3 kH (h:=zF0))<|zD) fun a w4 s=> ?_
 refine zN (CU.agg (fQN (-q))) ((fQN (-q)).tS) rfl s kH rfl rfl rfl iiz iiz zV fun a w s=> ?_
 refine zA rfl ?_
 refine tD ?_
 exact wJ s (CU.agg (fQN (-q))) rfl kH rfl rfl (yO _) (fun cs W h=>h)
end Go.Proofs.Wd

namespace Go.Proofs.Wd
open Tryz
set_option maxRecDepth 100000
set_option maxHeartbeats 1000000
open Go.RowKit Lb
attribute [local go_sem] Oper.semAt_some qF yF
structure QRd (m:Nat) (w:World) (A:Option Addr) (n:Nat) (qs:List Rat):Prop where
 len:qs.length=n
 cells: ∀i,i<n-> ∃b o c0 c1 c2 q,A=some ⟨b,o,none⟩/\w.cell? ⟨b,o+i*3,none⟩=some c0/\w.cell? ⟨b,o+i*3+1,none⟩=some c1/\w.cell? ⟨b,o+i*3+2,none⟩=some c2/\qs[i]?=some q/\RVp m q (.agg #[c0,c1,c2]) w
theorem RVp.keep {m:Nat} {q:Rat} {v:Wj} {w w':Wi} (h:RVp m q v w) (hk: ∀p:Addr,p.block<w.heap.size->w'.cell? p=w.cell? p):RVp m q v w':=by
 obtain ⟨k,d,⟨b,s,t,e,⟨sg,A,n,c,l,e1,h1,h2⟩,A',n',c',l',e2,h1',h2'⟩,h3⟩:=h
 exact ⟨k,d,⟨b,s,t,e,⟨sg,A,n,c,l,e1,h1.keep hk,h2⟩,A',n',c',l',e2,h1'.keep hk,h2'⟩,h3⟩
theorem QRd.keep {m:Nat} {w w':Wi} {A:Wl Addr} {n:Nat} {qs:List Rat} (h:QRd m w A n qs) (hk: ∀p:Addr,p.block<w.heap.size->w'.cell? p=w.cell? p):QRd m w' A n qs:=
 ⟨h.len,fun i hi=>by
  obtain ⟨b,o,c0,c1,c2,q,e,g0,g1,g2,h1,h2⟩:=h.cells i hi
  exact ⟨b,o,c0,c1,c2,q,e,(hk _ (tZ w _ g0)).trans g0,(hk _ (tZ w _ g1)).trans g1,(hk _ (tZ w _ g2)).trans g2,h1,h2.keep hk⟩⟩
theorem QRd.below {m:Nat} {w w':Wi} {A:Wl Addr} {n:Nat} {qs:List Rat} (h:QRd m w A n qs) (hb:Below w.heap.size w w'):QRd m w' A n qs:=h.keep fun _ hp=>hb.cell hp
theorem RVp.below {m:Nat} {q:Rat} {v:Wj} {w w':Wi} (h:RVp m q v w) (hb:Below w.heap.size w w'):RVp m q v w':=h.keep fun _ hp=>hb.cell hp
def qAt (qs:List Rat) (k:Nat):Rat:=(qs[k]?).getD 0
def zPz (W:Wi) (B:Nat) (q:Rat):Prop:= ∃cs:List Wj,W.heap[B]?=some (.cells cs.toArray 103 (0,0))/\QNp q (.agg cs.toArray) W
theorem QNp.keepU {q:Rat} {v:Wj} {w w':Wi} (h:QNp q v w) (hk:jS w w'):QNp q v w':=(fQN q).us _ _ _ h hk
def zVr (N0:Nat) (qs:List Rat) (k:Nat) (xs:Array Wj) (W:Wi):Prop:= ∃B,xs=#[pO B 0]/\N0<=B/\zPz W B (qAt qs k)
theorem zIX (A:Wl Addr) (n c:Nat) (w:Wi):
  Calls prog 73 #[.slice A n c] w fun e w'=>e= .returned (.func (.func 99) #[] #[pO w.heap.size 0])/\w'=w.alloc (.cells #[.slice A n c] 54):=by
 go_enter func73,ntmps73
 go_wp2
 go_ret
 exact ⟨rfl,rfl⟩
theorem zTq {W:Wi} {m:Nat} {c0 c1 c2:Wj} {q:Rat} (h:RVp m q (.agg #[c0,c1,c2]) W) (hm:m<=2000) (hT:Tab W):Calls prog 91 #[.agg #[c0,c1,c2]] W fun e w'=> ∃B,e= .returned (pO B 0)/\W.heap.size<=B/\zPz w' B q/\Below W.heap.size W w':=
 (zHO h hm hT).mono fun _ _ ⟨_,e1,⟨B,cs,e2,h1,h2,h3,_⟩,hb⟩=>⟨B,by rw [e1,e2],h1,⟨cs,h2,h3⟩,hb⟩
theorem zFu (m:Nat) (hm:m<=2000) (A:Wl Addr) (n c:Nat) (qs:List Rat) (b1:Nat) (w w0:Wi) (h:QRd m w A n qs) (hT:Tab w) (hw0:Below w.heap.size w w0) (hn:n<=c) (hc:c<=9223372036854775807)
  (hc1:w0.cell? ⟨b1,0,none⟩=some (.slice A n c)) {S:Nat->Prop} (hS: ∀b,S b->b<w0.heap.size) (_hS1:S b1) (hSA: ∀b,b<w.heap.size->S b):
  zOO prog 99 #[pO b1 0] (zVr w0.heap.size qs) n (zFb S) Mk (fun _=>True) w0:=by
 intro lp J W hW hJ hY h0
 have hl1:=z4 hc1
 have hw1:=(hW.cell (p:=⟨b1,0,none⟩) hl1).trans hc1
 refine zBu func99 rfl ?_
 simp only [ntmps99,zVz,zVA,zVB,Nat.reduceAdd,Nat.reduceSub,zVC,zVD,zVE,zVF,zVG,zVH]
 gi_wp2
 gi_loopw [7] (fun i wr=> ∃k:Nat,k<=n/\i= .int .i64 k/\J k wr/\y5 S w0 wr/\w0.heap.size<=wr.heap.size) (fun i _=>n - (intOf i).toNat)
 case atStart=>exact ⟨0,tK _,rfl,h0,wP hW hS,hW.size⟩
 case round=>
  obtain ⟨k,hk,rfl,hj,hb,hz⟩:=hrel
  by_cases hkn:k<n
  ·have hkeep: ∀p:Addr,p.block<w.heap.size->wr.cell? p=w.cell? p:=fun p hp=>(hb.cell (hSA _ hp)).trans (hw0.cell hp)
   obtain ⟨b,o,c0,c1,c2,q,rfl,p0,p1,p2,hi,hr⟩:=(h.keep (w':=wr) hkeep).cells k hkn
   have hTr:Tab wr:=fun j hj=>(hkeep ⟨0,j,none⟩ (z4 (hT j hj))).trans (hT j hj)
   have hid1:qAt qs k=q:=by simp [qAt,hi]
   have hjk:=hJ k wr
   have hHI:=hid hi
   clear hi
   obtain ⟨sg,A1,n1,d1,A2,n2,d2,rfl,rfl,rfl⟩: ∃sg A1 n1 d1 A2 n2 d2,c0= .bool sg/\c1= .slice A1 n1 d1/\c2= .slice A2 n2 d2:=by
    obtain ⟨k',d',hq,_⟩:=hr
    obtain ⟨sg,A1,n1,d1,A2,n2,d2,e⟩:=zCl hq
    have:=tX Array.toList (jJ e)
    simp at this
    exact ⟨sg,A1,n1,d1,A2,n2,d2,this.1,this.2.1,this.2.2⟩
   gi_wp2_with (first|(gi_at_call 91;refine CallsIn.mono (callsIn_wide.2 (zTq (hr.below (zB7 _ _)) hm (hTr.below (zB7 _ _)))) ?_;rintro e w2 ⟨B2,rfl,hB2,hn2,hb2⟩;have hmk:Mk wr w2:=((tJ _ wr).alloc lr _).trans (hb2.mono fM);obtain ⟨fn,tmps,assign,body,hy,hR⟩:=hY k w2 #[pO B2 0] hkn (hjk _ hj hmk) ⟨B2,rfl,tI hz (tI fM hB2),by rw [hid1];exact hn2⟩)|(refine hR.mono ?_;rintro e W3 ⟨rfl,hJ3,hk3⟩))
   refine ⟨⟨k+1,by omega,rfl,hJ3,(hb.trans (wP hmk fun b hb=>tF (hS b hb) hz)).trans hk3.1,tI hz (tI hmk.size hk3.2)⟩, ?_⟩
   simp [intOf]
   omega
  ·obtain rfl:k=n:=by omega
   gi_wp2
   go_end0
   exact ⟨⟨_,rfl⟩,hj,trivial⟩
def zC4 (qs:List Rat):Nat->Rat
 |0=>0
 |k+1=>zC4 qs k+qAt qs k
def q7 (qs:List Rat):Nat->Rat
 |0=>1
 |k+1=>q7 qs k*qAt qs k
def zRe (w:Wi) (B0 P:Nat) (f:Nat->Rat) (k:Nat) (W:Wi):Prop:=
 zPz W B0 (f k)/\Boxed W P 101 (pO B0 0)/\q6 W w.heap.size 29 #[.bool false, .slice none 0 0, .slice none 0 0]/\Below w.heap.size w W/\P+2<=W.heap.size/\w.heap.size<B0
theorem zPz.abide {W W':Wi} {B C:Nat} {q:Rat} {row:Wl Nat} (h:zPz W B q) (hg:W.grownBy W' row) (hr: ∀r,row=some r->C<=r/\ ∃o,W.heap[r]?=some o/\o.isCells=false):zPz W' B q:=by
 obtain ⟨cs,h1,h2⟩:=h
 have hk:jS W W':=fun p x hp=>zFB hp hg hr
 refine ⟨cs,(hg.block _ (zVI.1 h1).1 fun e=> ?_).trans h1,h2.keepU hk⟩
 obtain ⟨_,o,ho,hc⟩:=hr _ e.symm
 rw [h1] at ho
 cases ho
 cases hc
theorem zDb (w:Wi) (B0 P:Nat) (f:Nat->Rat) {C:Nat} (hC:w.heap.size<=C):OwnFrom C (zRe w B0 P f):=by
 rintro k W W' row ⟨h1,h2,h3,h4,h5,h6⟩ hg hr
 exact ⟨h1.abide hg hr,qQ h2 hg hr,h3.abide hg hr,zAo h4 hg lr hC hr,tI h5 hg.size,h6⟩
theorem zNA (m M:Nat) (A:Wl Addr) (n c:Nat) (qs:List Rat) (w:Wi) (h:QRd m w A n qs) (hn:n<=c) (hc:c<=9223372036854775807) (hm:m<=2000) (hm0:0<m) (hM:M+m+1<=2000) (hp: ∀k,k<=n->QB (zC4 qs k) M) (hT:Tab w):
  Calls prog 45 #[.slice A n c] w (Ret w (fQN (zC4 qs n)).tS):=by
 refine qZ func45 rfl ?_
 simp only [ntmps45,zVz,zVA,zVB,Nat.reduceAdd,Nat.reduceSub,zVC,zVD,zVE,zVF,zVG,zVH]
 go_wp2_with (first|(go_at_call 39;refine (zNu 0 dA).mono ?_;rintro e w1 ⟨v1,rfl,hv1,hb1⟩;obtain ⟨A1,n1,c1,A2,n2,c2,rfl⟩:=zCm hv1)|(go_at_call 73;refine (zIX A n c _).mono ?_;rintro e w3 ⟨rfl,rfl⟩))
 have hv2:QNp 0 (.agg #[.bool false, .slice A1 n1 c1, .slice A2 n2 c2]) w1:=hv1
 obtain ⟨W0,hW0⟩: ∃W0,(((w1.alloc (.cells #[.bool false, .slice A1 n1 c1, .slice A2 n2 c2] 103)).alloc (.cells #[pO w1.heap.size 0] 101)).alloc (.cells #[.slice A n c] 54))=W0:=⟨_,rfl⟩
 have hsz:W0.heap.size=w1.heap.size+3:=by rw [<-hW0];simp
 have hbw1:Below w.heap.size w w1:=((tJ _ w).alloc lr _).trans (hb1.mono fM)
 have hsz1:w.heap.size<w1.heap.size:=tF fM hb1.size
 have hb01:Below w1.heap.size w1 W0:=by rw [<-hW0];exact (((tJ _ w1).alloc lr _).alloc fM _).alloc (by simp;omega) _
 have hB1:Below w.heap.size w W0:=hbw1.trans (hb01.mono hbw1.size)
 have x0:zPz W0 w1.heap.size 0:=⟨[_,_,_],(by rw [<-hW0];exact ((q6.new w1 _ #[.bool false, .slice A1 n1 c1, .slice A2 n2 c2]).alloc _).alloc _),hv2.keepU (zS hb01)⟩
 have x1:Boxed W0 (w1.heap.size+1) 101 (pO w1.heap.size 0):=by rw [<-hW0];exact (zAw _ _ _ fM).alloc _
 have x2:Boxed W0 (w1.heap.size+1+1) 54 (.slice A n c):=by rw [<-hW0];exact zAw _ _ _ fM
 have x3:q6 W0 w.heap.size 29 #[.bool false, .slice none 0 0, .slice none 0 0]:=(q6.kept (q6.kept (q6.new w _ _) hb1) hb01)
 rw [hW0]
 clear hW0
 have hSb: ∀b,(b<w.heap.size∨b=w1.heap.size+1+1)->b<W0.heap.size:=fun b hb=>by have:=hbw1.size;omega
 refine zCc (gf:=99) rfl (enters_of func99 kH rfl) (zFu m hm A n c qs (w1.heap.size+1+1) w W0 h hT hB1 hn hc x2.cell (S:=fun b=>b<w.heap.size∨b=w1.heap.size+1+1) hSb (.inr rfl) (fun b hb=> .inl hb)) ?hE ?hps zFb.trans (zGd hSb)
  (zRe w w1.heap.size (w1.heap.size+1) (zC4 qs)) (zDb w _ _ _ hB1.size) (zBv (zDb w _ _ _ lr)) wO (fun _ _ _ _ _ _ _ _=>trivial) ⟨x0,x1,x3,hB1,by omega,hsz1⟩
  (fun xs=>{ tmps:=#[.slice A n c,undef,pO w.heap.size 0, .pointer (some ⟨w1.heap.size+1,0,none⟩),xs.getD 0 undef, .agg #[.bool false, .slice A1 n1 c1, .slice A2 n2 c2], .agg #[.bool false, .slice A1 n1 c1, .slice A2 n2 c2],pO w1.heap.size 0, .slice A n c, .func (.func 99) #[] #[.pointer (some ⟨w1.heap.size+1+1,0,none⟩)],xs.getD 0 undef,undef,undef,undef,undef,undef,undef,undef],defers:= [] }) ?assign ?body ?done
 case hE=>
  rintro k xs W l o o' ⟨B,rfl,h1,h2⟩ ho hc
  exact ⟨B,rfl,h1,h2.abide (C:=0) (grownBy_putObj' W l o') (fun r e=>by cases e;exact ⟨tK _,o,ho,hc⟩)⟩
 case hps=>
  rintro k xs W ⟨B,rfl,_⟩
  rfl
 case assign=>
  rintro lp k xs W K ⟨B,rfl,h1,h2⟩ hK
  gi_wp2
  exact hK
 case body=>
  rintro lp k xs W hk ⟨h1,h2,h3,h4,h5,h6⟩ ⟨B,rfl,hB,hnb⟩
  have hc2:=h2.cell
  have hne:B≠w1.heap.size:=by omega
  have hbd:=hp k (zVu hk)
  have hbd2:QB (qAt qs k) m:=by
   obtain ⟨_,_,_,_,_,q,_,_,_,_,e,hr⟩:=h.cells k hk
   rw [show qAt qs k=q from by simp [qAt,e]]
   exact hr.qb hm0
  have hTW:Tab W:=hT.below h4
  gi_wp2_with (gi_at_call 74;refine CallsIn.mono (callsIn_wide.2 (by
   obtain ⟨cs,g1,g2⟩:=h1
   obtain ⟨cs',g1',g2'⟩:=hnb
   exact zNZ g1 g2 g1' g2' hne hbd hbd2 oO hTW)) ?_;rintro e w3 ⟨u,rfl,_,hg3,cs3,hh3,hc3,_⟩)
  refine ⟨(KeepsOthers.of_grownBy hg3 (fun j o e ho=>by cases e;obtain ⟨cs,g1,_⟩:=h1;rw [g1] at ho;cases ho;rfl)).from _,⟨(y5.refl _ _).grown hg3 (fun b hb=>⟨by have:=h4.size;rcases hb with hb|hb<;>omega,fun e=>by have:=tT e;omega⟩),hg3.size⟩,⟨cs3,hh3,hc3⟩,h2.kept hg3 (fun e=>by have:=tT e;omega),(hg3.block _ h3.lt (fun e=>by have:=tT e;omega)).trans h3,zAL h4 hg3 h4.size oO,tI h5 hg3.size,h6⟩
 case done=>
  rintro D W hD ⟨h1,h2,h3,h4,h5,h6⟩ _ hd
  obtain ⟨cs,hh,hq⟩:=h1
  obtain ⟨A3,n3,c3,A4,n4,c4,ecs⟩:=zCm hq
  have ecs:=tX Array.toList (jJ ecs)
  simp at ecs
  subst ecs
  obtain ⟨g0,g1,g2⟩:W.cell? ⟨w1.heap.size,0,none⟩=some (.bool (decide ((zC4 qs n).num<0)))/\W.cell? ⟨w1.heap.size,0+1,none⟩=some (.slice A3 n3 c3)/\W.cell? ⟨w1.heap.size,0+2,none⟩=some (.slice A4 n4 c4):=⟨qO hh 0 _ rfl,qO hh 1 _ rfl,qO hh 2 _ rfl⟩
  simp only [Nat.zero_add] at g1 g2
  have hc2:=h2.cell
  have q0:W.cell? ⟨w.heap.size,0,none⟩=some (.bool false):=h3.cell 0
  have q1:W.cell? ⟨w.heap.size,1,none⟩=some (.slice none 0 0):=h3.cell 1
  have q2:W.cell? ⟨w.heap.size,2,none⟩=some (.slice none 0 0):=h3.cell 2
  have q3:=h3.frozen 0;have q4:=h3.frozen 1;have q5:=h3.frozen 2
  go_wp2
  have hb5:q6 (((W.setCell ⟨w.heap.size,0,none⟩ (.bool (decide ((zC4 qs n).num<0)))).setCell ⟨w.heap.size,1,none⟩ (.slice A3 n3 c3)).setCell ⟨w.heap.size,2,none⟩ (.slice A4 n4 c4)) w.heap.size 29 #[.bool (decide ((zC4 qs n).num<0)), .slice A3 n3 c3, .slice A4 n4 c4]:=((h3.set 0 _).set 1 _).set 2 _
  have hM2:Marks w.heap.size (((W.setCell ⟨w.heap.size,0,none⟩ (.bool (decide ((zC4 qs n).num<0)))).setCell ⟨w.heap.size,1,none⟩ (.slice A3 n3 c3)).setCell ⟨w.heap.size,2,none⟩ (.slice A4 n4 c4)) [mark D] [D]:=((Marks.nil w.heap.size W).more (D:=D) fM (by have:=hB1.size;omega) hd).others (((zCX _ _ _).trans (zCX _ _ _)).trans (zCX _ _ _))
  have hrow: ∀(W':Wi) (i:Nat) (v u:Wj),W'.cell? ⟨w.heap.size,i,none⟩=some u->zY u=true->jS W' (W'.setCell ⟨w.heap.size,i,none⟩ v):=fun W' i v u hu hn p x hp=>(World.cell?_setCell_other _ _ _ _ (fun e=>by rw [<-e] at hp;rw [hu] at hp;cases hp;cases hn)).trans hp
  have hk3:jS W (((W.setCell ⟨w.heap.size,0,none⟩ (.bool (decide ((zC4 qs n).num<0)))).setCell ⟨w.heap.size,1,none⟩ (.slice A3 n3 c3)).setCell ⟨w.heap.size,2,none⟩ (.slice A4 n4 c4)):=((hrow _ _ _ _ q0 rfl).trans (hrow _ _ _ _ ((h3.set 0 _).cell 1) rfl)).trans (hrow _ _ _ _ (((h3.set 0 _).set 1 _).cell 2) rfl)
  have hq3:=hq.keepU hk3
  have hb3:Below w.heap.size w (((W.setCell ⟨w.heap.size,0,none⟩ (.bool (decide ((zC4 qs n).num<0)))).setCell ⟨w.heap.size,1,none⟩ (.slice A3 n3 c3)).setCell ⟨w.heap.size,2,none⟩ (.slice A4 n4 c4)):=((h4.setCell lr _).setCell lr _).setCell lr _
  generalize ((W.setCell ⟨w.heap.size,0,none⟩ (.bool (decide ((zC4 qs n).num<0)))).setCell ⟨w.heap.size,1,none⟩ (.slice A3 n3 c3)).setCell ⟨w.heap.size,2,none⟩ (.slice A4 n4 c4)=W9 at*
  refine qD _ (v:= .agg #[.bool (decide ((zC4 qs n).num<0)), .slice A3 n3 c3, .slice A4 n4 c4]) (fun w' ho'=> ?_) [D] _ _ hM2 (Oth.refl _ _) ?_
  ·have h7:=hb5.oth ho'
   have:=zEe (P:=prog) (w:=w') (t:=29) (k:=3) kH (vs:= [.bool (decide ((zC4 qs n).num<0)), .slice A3 n3 c3, .slice A4 n4 c4]) rfl h7
   simp [results,results45,asAddr,this]
  ·intro w' ho
   exact ⟨_,rfl,hq3.keepU (fun p x hp=>(ho.cell p).trans hp),zAf hb3 ho lr⟩
theorem zNz (m M:Nat) (A:Wl Addr) (n c:Nat) (qs:List Rat) (w:Wi) (h:QRd m w A n qs) (hn:n<=c) (hc:c<=9223372036854775807) (hm:m<=2000) (hm0:0<m) (hM:M+m+1<=2000) (hp: ∀k,k<=n->QB (q7 qs k) M) (hT:Tab w):
  Calls prog 90 #[.slice A n c] w (Ret w (fQN (q7 qs n)).tS):=by
 refine qZ func90 rfl ?_
 simp only [ntmps90,zVz,zVA,zVB,Nat.reduceAdd,Nat.reduceSub,zVC,zVD,zVE,zVF,zVG,zVH]
 go_wp2_with (first|(go_at_call 39;refine (zNu 1 dA).mono ?_;rintro e w1 ⟨v1,rfl,hv1,hb1⟩;obtain ⟨A1,n1,c1,A2,n2,c2,rfl⟩:=zCm hv1)|(go_at_call 73;refine (zIX A n c _).mono ?_;rintro e w3 ⟨rfl,rfl⟩))
 have hv2:QNp 1 (.agg #[.bool false, .slice A1 n1 c1, .slice A2 n2 c2]) w1:=hv1
 obtain ⟨W0,hW0⟩: ∃W0,(((w1.alloc (.cells #[.bool false, .slice A1 n1 c1, .slice A2 n2 c2] 103)).alloc (.cells #[pO w1.heap.size 0] 101)).alloc (.cells #[.slice A n c] 54))=W0:=⟨_,rfl⟩
 have hsz:W0.heap.size=w1.heap.size+3:=by rw [<-hW0];simp
 have hbw1:Below w.heap.size w w1:=((tJ _ w).alloc lr _).trans (hb1.mono fM)
 have hsz1:w.heap.size<w1.heap.size:=tF fM hb1.size
 have hb01:Below w1.heap.size w1 W0:=by rw [<-hW0];exact (((tJ _ w1).alloc lr _).alloc fM _).alloc (by simp;omega) _
 have hB1:Below w.heap.size w W0:=hbw1.trans (hb01.mono hbw1.size)
 have x0:zPz W0 w1.heap.size 1:=⟨[_,_,_],(by rw [<-hW0];exact ((q6.new w1 _ #[.bool false, .slice A1 n1 c1, .slice A2 n2 c2]).alloc _).alloc _),hv2.keepU (zS hb01)⟩
 have x1:Boxed W0 (w1.heap.size+1) 101 (pO w1.heap.size 0):=by rw [<-hW0];exact (zAw _ _ _ fM).alloc _
 have x2:Boxed W0 (w1.heap.size+1+1) 54 (.slice A n c):=by rw [<-hW0];exact zAw _ _ _ fM
 have x3:q6 W0 w.heap.size 29 #[.bool false, .slice none 0 0, .slice none 0 0]:=(q6.kept (q6.kept (q6.new w _ _) hb1) hb01)
 rw [hW0]
 clear hW0
 have hSb: ∀b,(b<w.heap.size∨b=w1.heap.size+1+1)->b<W0.heap.size:=fun b hb=>by have:=hbw1.size;omega
 refine zCc (gf:=99) rfl (enters_of func99 kH rfl) (zFu m hm A n c qs (w1.heap.size+1+1) w W0 h hT hB1 hn hc x2.cell (S:=fun b=>b<w.heap.size∨b=w1.heap.size+1+1) hSb (.inr rfl) (fun b hb=> .inl hb)) ?hE ?hps zFb.trans (zGd hSb)
  (zRe w w1.heap.size (w1.heap.size+1) (q7 qs)) (zDb w _ _ _ hB1.size) (zBv (zDb w _ _ _ lr)) wO (fun _ _ _ _ _ _ _ _=>trivial) ⟨x0,x1,x3,hB1,by omega,hsz1⟩
  (fun xs=>{ tmps:=#[.slice A n c,undef,pO w.heap.size 0, .pointer (some ⟨w1.heap.size+1,0,none⟩),xs.getD 0 undef, .agg #[.bool false, .slice A1 n1 c1, .slice A2 n2 c2], .agg #[.bool false, .slice A1 n1 c1, .slice A2 n2 c2],pO w1.heap.size 0, .slice A n c, .func (.func 99) #[] #[.pointer (some ⟨w1.heap.size+1+1,0,none⟩)],xs.getD 0 undef,undef,undef,undef,undef,undef,undef,undef],defers:= [] }) ?assign ?body ?done
 case hE=>
  rintro k xs W l o o' ⟨B,rfl,h1,h2⟩ ho hc
  exact ⟨B,rfl,h1,h2.abide (C:=0) (grownBy_putObj' W l o') (fun r e=>by cases e;exact ⟨tK _,o,ho,hc⟩)⟩
 case hps=>
  rintro k xs W ⟨B,rfl,_⟩
  rfl
 case assign=>
  rintro lp k xs W K ⟨B,rfl,h1,h2⟩ hK
  gi_wp2
  exact hK
 case body=>
  rintro lp k xs W hk ⟨h1,h2,h3,h4,h5,h6⟩ ⟨B,rfl,hB,hnb⟩
  have hc2:=h2.cell
  have hne:B≠w1.heap.size:=by omega
  have hbd:=hp k (zVu hk)
  have hbd2:QB (qAt qs k) m:=by
   obtain ⟨_,_,_,_,_,q,_,_,_,_,e,hr⟩:=h.cells k hk
   rw [show qAt qs k=q from by simp [qAt,e]]
   exact hr.qb hm0
  have hTW:Tab W:=hT.below h4
  gi_wp2_with (gi_at_call 114;refine CallsIn.mono (callsIn_wide.2 (by
   obtain ⟨cs,g1,g2⟩:=h1
   obtain ⟨cs',g1',g2'⟩:=hnb
   exact zNY g1 g2 g1' g2' hne hbd hbd2 oO hTW)) ?_;rintro e w3 ⟨u,rfl,_,hg3,cs3,hh3,hc3,_⟩)
  refine ⟨(KeepsOthers.of_grownBy hg3 (fun j o e ho=>by cases e;obtain ⟨cs,g1,_⟩:=h1;rw [g1] at ho;cases ho;rfl)).from _,⟨(y5.refl _ _).grown hg3 (fun b hb=>⟨by have:=h4.size;rcases hb with hb|hb<;>omega,fun e=>by have:=tT e;omega⟩),hg3.size⟩,⟨cs3,hh3,hc3⟩,h2.kept hg3 (fun e=>by have:=tT e;omega),(hg3.block _ h3.lt (fun e=>by have:=tT e;omega)).trans h3,zAL h4 hg3 h4.size oO,tI h5 hg3.size,h6⟩
 case done=>
  rintro D W hD ⟨h1,h2,h3,h4,h5,h6⟩ _ hd
  obtain ⟨cs,hh,hq⟩:=h1
  obtain ⟨A3,n3,c3,A4,n4,c4,ecs⟩:=zCm hq
  have ecs:=tX Array.toList (jJ ecs)
  simp at ecs
  subst ecs
  obtain ⟨g0,g1,g2⟩:W.cell? ⟨w1.heap.size,0,none⟩=some (.bool (decide ((q7 qs n).num<0)))/\W.cell? ⟨w1.heap.size,0+1,none⟩=some (.slice A3 n3 c3)/\W.cell? ⟨w1.heap.size,0+2,none⟩=some (.slice A4 n4 c4):=⟨qO hh 0 _ rfl,qO hh 1 _ rfl,qO hh 2 _ rfl⟩
  simp only [Nat.zero_add] at g1 g2
  have hc2:=h2.cell
  have q0:W.cell? ⟨w.heap.size,0,none⟩=some (.bool false):=h3.cell 0
  have q1:W.cell? ⟨w.heap.size,1,none⟩=some (.slice none 0 0):=h3.cell 1
  have q2:W.cell? ⟨w.heap.size,2,none⟩=some (.slice none 0 0):=h3.cell 2
  have q3:=h3.frozen 0;have q4:=h3.frozen 1;have q5:=h3.frozen 2
  go_wp2
  have hb5:q6 (((W.setCell ⟨w.heap.size,0,none⟩ (.bool (decide ((q7 qs n).num<0)))).setCell ⟨w.heap.size,1,none⟩ (.slice A3 n3 c3)).setCell ⟨w.heap.size,2,none⟩ (.slice A4 n4 c4)) w.heap.size 29 #[.bool (decide ((q7 qs n).num<0)), .slice A3 n3 c3, .slice A4 n4 c4]:=((h3.set 0 _).set 1 _).set 2 _
  have hM2:Marks w.heap.size (((W.setCell ⟨w.heap.size,0,none⟩ (.bool (decide ((q7 qs n).num<0)))).setCell ⟨w.heap.size,1,none⟩ (.slice A3 n3 c3)).setCell ⟨w.heap.size,2,none⟩ (.slice A4 n4 c4)) [mark D] [D]:=((Marks.nil w.heap.size W).more (D:=D) fM (by have:=hB1.size;omega) hd).others (((zCX _ _ _).trans (zCX _ _ _)).trans (zCX _ _ _))
  have hrow: ∀(W':Wi) (i:Nat) (v u:Wj),W'.cell? ⟨w.heap.size,i,none⟩=some u->zY u=true->jS W' (W'.setCell ⟨w.heap.size,i,none⟩ v):=fun W' i v u hu hn p x hp=>(World.cell?_setCell_other _ _ _ _ (fun e=>by rw [<-e] at hp;rw [hu] at hp;cases hp;cases hn)).trans hp
  have hk3:jS W (((W.setCell ⟨w.heap.size,0,none⟩ (.bool (decide ((q7 qs n).num<0)))).setCell ⟨w.heap.size,1,none⟩ (.slice A3 n3 c3)).setCell ⟨w.heap.size,2,none⟩ (.slice A4 n4 c4)):=((hrow _ _ _ _ q0 rfl).trans (hrow _ _ _ _ ((h3.set 0 _).cell 1) rfl)).trans (hrow _ _ _ _ (((h3.set 0 _).set 1 _).cell 2) rfl)
  have hq3:=hq.keepU hk3
  have hb3:Below w.heap.size w (((W.setCell ⟨w.heap.size,0,none⟩ (.bool (decide ((q7 qs n).num<0)))).setCell ⟨w.heap.size,1,none⟩ (.slice A3 n3 c3)).setCell ⟨w.heap.size,2,none⟩ (.slice A4 n4 c4)):=((h4.setCell lr _).setCell lr _).setCell lr _
  generalize ((W.setCell ⟨w.heap.size,0,none⟩ (.bool (decide ((q7 qs n).num<0)))).setCell ⟨w.heap.size,1,none⟩ (.slice A3 n3 c3)).setCell ⟨w.heap.size,2,none⟩ (.slice A4 n4 c4)=W9 at*
  refine qD _ (v:= .agg #[.bool (decide ((q7 qs n).num<0)), .slice A3 n3 c3, .slice A4 n4 c4]) (fun w' ho'=> ?_) [D] _ _ hM2 (Oth.refl _ _) ?_
  ·have h7:=hb5.oth ho'
   have:=zEe (P:=prog) (w:=w') (t:=29) (k:=3) kH (vs:= [.bool (decide ((q7 qs n).num<0)), .slice A3 n3 c3, .slice A4 n4 c4]) rfl h7
   simp [results,results90,asAddr,this]
  ·intro w' ho
   exact ⟨_,rfl,hq3.keepU (fun p x hp=>(ho.cell p).trans hp),zAf hb3 ho lr⟩
def fQS (m:Nat) (qs:List Rat):SF:=⟨fun v W=> ∃A c,v= .slice A qs.length c/\qs.length<=c/\c<=9223372036854775807/\QRd m W A qs.length qs,fun _ _ _ ⟨A,c,h1,h2,h3,h4⟩ hb=>⟨A,c,h1,h2,h3,h4.below hb⟩⟩
theorem zOY (s s':Bool) (A A' D D':Wl Addr) (n n' c c' i i' j j':Nat):yD prog 54 2 [(0, .agg #[.bool s, .slice A n c, .slice D i j]),(1, .agg #[.bool s', .slice A' n' c', .slice D' i' j'])]=some (29,#[.bool s, .slice A n c, .slice D i j, .bool s', .slice A' n' c', .slice D' i' j']):=by kernel_rfl
theorem zCU {u v:Wj} {W:Wi} {m:Nat} {p q:Rat} (hu:RVp m p u W) (hv:RVp m q v W): ∃e cs,yD prog 54 2 [(0,u),(1,v)]=some (e,cs)/\(fQS m [p,q]).p (.slice (some ⟨W.heap.size,0,none⟩) 2 2) (W.alloc (.cells cs e)):=by
 obtain ⟨k,d,h1,h2⟩:=id hu
 obtain ⟨k',d',h1',h2'⟩:=id hv
 obtain ⟨s,A,n,c,D,i,j,rfl⟩:=zCl h1
 obtain ⟨s',A',n',c',D',i',j',rfl⟩:=zCl h1'
 refine ⟨_,_,zOY s s' A A' D D' n n' c c' i i' j j',some ⟨W.heap.size,0,none⟩,2,rfl,tN _,by decide,rfl,fun x hx=> ?_⟩
 have hb:=zB7 W (.cells #[.bool s, .slice A n c, .slice D i j, .bool s', .slice A' n' c', .slice D' i' j'] 29)
 rcases (by simp at hx;omega:x=0∨x=1) with rfl|rfl
 ·exact ⟨_,0,_,_,_,p,rfl,zBf W _ _ 0 _ rfl,zBf W _ _ 1 _ rfl,zBf W _ _ 2 _ rfl,rfl,hu.below hb⟩
 ·exact ⟨_,0,_,_,_,q,rfl,zBf W _ _ 3 _ rfl,zBf W _ _ 4 _ rfl,zBf W _ _ 5 _ rfl,rfl,hv.below hb⟩
theorem zRN {W:Wi} {m:Nat} {v:Wj} {qs:List Rat} (M:Nat) (h:(fQS m qs).p v W) (hm0:0<m) (hM:M+m+1<=2000) (hp: ∀k,k<=qs.length->QB (zC4 qs k) M) (hT:Tab W):Calls prog 45 #[v] W (Ret W (fQN (zC4 qs qs.length)).tS):=by
 obtain ⟨A,c,rfl,h1,h2,h3⟩:=h
 exact zNA m M A qs.length c qs W h3 h1 h2 oO hm0 hM hp hT
theorem zP2 {W:Wi} {m:Nat} {v:Wj} {qs:List Rat} (M:Nat) (h:(fQS m qs).p v W) (hm0:0<m) (hM:M+m+1<=2000) (hp: ∀k,k<=qs.length->QB (q7 qs k) M) (hT:Tab W):Calls prog 90 #[v] W (Ret W (fQN (q7 qs qs.length)).tS):=by
 obtain ⟨A,c,rfl,h1,h2,h3⟩:=h
 exact zNz m M A qs.length c qs W h3 h1 h2 oO hm0 hM hp hT
theorem QB.zero {m:Nat} (hm:0<m):QB 0 m:=⟨Nat.pow_pos y8,zDh hm⟩
theorem QB.one {m:Nat} (hm:0<m):QB 1 m:=⟨zDh hm,zDh hm⟩
theorem zQo (p q:Rat):zC4 [p,q] 2=p+q:=by
 show (0+p)+q=_
 rw [Rat.zero_add]
theorem zLd (p q:Rat):q7 [p,q] 2=p*q:=by
 show (1*p)*q=_
 rw [Rat.one_mul]
theorem zEO {W:Wi} {m:Nat} {v:Wj} {p q:Rat} (h:(fQS m [p,q]).p v W) (hp:QB p m) (hq:QB q m) (hm:3*m+2<=2000) (hT:Tab W):Calls prog 45 #[v] W (Ret W (fQN (p+q)).tS):=by
 have:=zRN (m+m+1) h hp.pos oO (fun k hk=>by
  rcases (by simp at hk;omega:k=0∨k=1∨k=2) with rfl|rfl|rfl
  ·exact QB.zero oO
  ·show QB (0+p) _
   rw [Rat.zero_add]
   exact hp.mono oO
  ·rw [zQo]
   exact hp.add hq) hT
 rw [show ([p,q]:List Rat).length=2 from rfl,zQo] at this
 exact this
theorem zKQ {W:Wi} {m:Nat} {v:Wj} {p q:Rat} (h:(fQS m [p,q]).p v W) (hp:QB p m) (hq:QB q m) (hm:3*m+2<=2000) (hT:Tab W):Calls prog 90 #[v] W (Ret W (fQN (p*q)).tS):=by
 have:=zP2 (m+m) h hp.pos oO (fun k hk=>by
  have:=hp.pos
  rcases (by simp at hk;omega:k=0∨k=1∨k=2) with rfl|rfl|rfl
  ·exact QB.one oO
  ·show QB (1*p) _
   rw [Rat.one_mul]
   exact hp.mono oO
  ·rw [zLd]
   exact hp.mul hq) hT
 rw [show ([p,q]:List Rat).length=2 from rfl,zLd] at this
 exact this
end Go.Proofs.Wd

namespace Go.Proofs.Wd
open Tryz
set_option maxRecDepth 100000
open Go.RowKit Lb
theorem zKV (p q:Rat):mkRat ((p).num*(if decide ((q).num<0) then -((q).den:Int) else ((q).den:Int))) ((p).den*(q).num.natAbs)=p / q:=by
 have hp:p=(p.num:Rat) / (p.den:Rat):=by
  have:=Rat.mkRat_self p
  rw [Rat.mkRat_eq_div] at this
  exact this.symm
 have hq:q⁻¹=mkRat (if decide (q.num<0) then -(q.den:Int) else (q.den:Int)) q.num.natAbs:=by
  rw [Rat.inv_def]
  by_cases h:q.num<0
  ·rw [tV h,if_pos rfl, <-Rat.divInt_ofNat, <-Rat.divInt_neg']
   congr 1
   omega
  ·rw [tW h,if_neg dA, <-Rat.divInt_ofNat]
   congr 1
   omega
 rw [Rat.div_def,hq]
 conv=>rhs;rw [<-Rat.mkRat_self p]
 rw [Rat.mkRat_mul_mkRat]
theorem zRP {W:Wi} {m:Nat} {v v':Wj} {k:Int} {d:Nat} (h:UV W m v k) (h':LV W m v' d) (hm:m<=2000) (hT:Tab W) (hz:decide (0<d)=false):Calls prog 94 #[v,v'] W (Ret W (zAu (fQN (mkRat k d)) (fI 30)).tS):=by
 refine z5 [(fUV m k).tS,(fLV m d).tS] func94 rfl kH ⟨h,h',trivial⟩ fun a s=> ?_
 refine tC ?_
 refine zB 0 [] hmix s kH
  zD fun a w1 s=> ?_
 refine yN (CU.agg (fUV m k)) rfl s kH (fun v W h=>zIw h) fun b2 a w s=> ?_
 refine zU (CU.len 3) (cs:=zR3) kH rfl s kH (fun W=>rfl) rfl fun b4 a w s=> ?_
 refine yV (uI 0) rfl s kH iiz fun a w s=> ?_
 refine zA rfl ?_
 refine tC ?_
 refine zB 4 ((7, .Z (fUV m k))::(8, .Z (fLV m d))::(9, .Z (fQV m k d))::(10, .u (fQV m k d)):: []) hmix s kH
  (oc (zI (f:=fUV m k) 2 kH (hz:=zIv _ _))<|oc zC<|oc (yY (fun u v W (hu:UV W m u k) (hv:LV W m v d)=>zPu hu hv))<|oc (zCp (fun u W (hu:QVp m k d u W)=>zMD hu))<|zD) fun a w2 s=> ?_
 refine yN (CU.agg (fQV m k d)) rfl s kH (fun v W h=>zDf h) fun b11 a w s=> ?_
 refine zPM rfl s kH fun a w s=> ?_
 refine zA rfl ?_
 refine tC ?_
 refine tC ?_
 refine zB 1 ((12, .u (UF.eq (pO b11 0))):: []) hmix s kH
  (oc (zC (fun _ _ _ h=>h.1))<|zD) fun a w3 s=> ?_
 refine zC9 (c:=6) (CU.agg (fQN (mkRat k d))) (fB false) rfl zE zHp s kH rfl rfl iiz (fun cs h1 h2=> ?_) fun a w s=> ?_
 ·exact (zCi h1 h2 hm (hT.below s.gr.below)).mono fun e w' ⟨v,g1,g3,g2⟩=>⟨v,g1,by rw [show v=_ from g3,hz];rfl,g2⟩
 refine zCD (uB true) rfl s kH (zAy false iiz (fun _=>rfl)) kH fun a w s=> ?_
 refine zA rfl ?_
 refine StS.cond s true iiz (fun e=> ?_) (fun e=>by cases e)
 refine tC ?_
 replace s:=s.drop [5]
 refine zB 4 ((15, .s (wE b11 (cg (fQN (mkRat k d)))))::(16, .Y (fQN (mkRat k d)))::(17, .X (fQN (mkRat k d)) 0)::(18, .u (fQN (mkRat k d))):: []) hmix s kH
  (oc zC<|oc (qN (C:=cg (fQN (mkRat k d))))<|oc (zO (C:=cg (fQN (mkRat k d))) 0 kH)<|oc (yH (C:=cg (fQN (mkRat k d))) (k:=0) 3 kH (h:=zF0))<|zD) fun a w4 s=> ?_
 refine zN (CU.agg (fQN (mkRat k d))) ((fQN (mkRat k d)).tS) rfl s kH rfl rfl rfl iiz iiz zV fun a w s=> ?_
 refine yV (uI 30) rfl s kH iiz fun a w s=> ?_
 refine zA rfl ?_
 refine tD ?_
 exact wQ s (CU.agg (fQN (mkRat k d))) rfl kH rfl rfl (yO _) (fun cs v W h1 h2=>⟨_,_,rfl,h1,h2⟩)
theorem zRR {W:Wi} {m:Nat} {v v':Wj} {k:Int} {d:Nat} (h:UV W m v k) (h':LV W m v' d) (hm:m<=2000) (hT:Tab W) (hz:decide (0<d)=true):Calls prog 94 #[v,v'] W (Ret W (zAu (fQN (mkRat k d)) (fI 0)).tS):=by
 refine z5 [(fUV m k).tS,(fLV m d).tS] func94 rfl kH ⟨h,h',trivial⟩ fun a s=> ?_
 refine tC ?_
 refine zB 0 [] hmix s kH
  zD fun a w1 s=> ?_
 refine yN (CU.agg (fUV m k)) rfl s kH (fun v W h=>zIw h) fun b2 a w s=> ?_
 refine zU (CU.len 3) (cs:=zR3) kH rfl s kH (fun W=>rfl) rfl fun b4 a w s=> ?_
 refine yV (uI 0) rfl s kH iiz fun a w s=> ?_
 refine zA rfl ?_
 refine tC ?_
 refine zB 4 ((7, .Z (fUV m k))::(8, .Z (fLV m d))::(9, .Z (fQV m k d))::(10, .u (fQV m k d)):: []) hmix s kH
  (oc (zI (f:=fUV m k) 2 kH (hz:=zIv _ _))<|oc zC<|oc (yY (fun u v W (hu:UV W m u k) (hv:LV W m v d)=>zPu hu hv))<|oc (zCp (fun u W (hu:QVp m k d u W)=>zMD hu))<|zD) fun a w2 s=> ?_
 refine yN (CU.agg (fQV m k d)) rfl s kH (fun v W h=>zDf h) fun b11 a w s=> ?_
 refine zPM rfl s kH fun a w s=> ?_
 refine zA rfl ?_
 refine tC ?_
 refine tC ?_
 refine zB 1 ((12, .u (UF.eq (pO b11 0))):: []) hmix s kH
  (oc (zC (fun _ _ _ h=>h.1))<|zD) fun a w3 s=> ?_
 refine zC9 (c:=6) (CU.agg (fQN (mkRat k d))) (fB true) rfl zE zHp s kH rfl rfl iiz (fun cs h1 h2=> ?_) fun a w s=> ?_
 ·exact (zCi h1 h2 hm (hT.below s.gr.below)).mono fun e w' ⟨v,g1,g3,g2⟩=>⟨v,g1,by rw [show v=_ from g3,hz];rfl,g2⟩
 refine zCD (uB false) rfl s kH (zAy true iiz (fun _=>rfl)) kH fun a w s=> ?_
 refine zA rfl ?_
 refine StS.cond s false iiz (fun e=>by cases e) (fun e=> ?_)
 refine tH ?_
 refine tC ?_
 replace s:=s.drop [5]
 refine zB 4 ((19, .s (wE b11 (cg (fQN (mkRat k d)))))::(20, .Y (fQN (mkRat k d)))::(21, .X (fQN (mkRat k d)) 0)::(22, .u (fQN (mkRat k d))):: []) hmix s kH
  (oc zC<|oc (qN (C:=cg (fQN (mkRat k d))))<|oc (zO (C:=cg (fQN (mkRat k d))) 0 kH)<|oc (yH (C:=cg (fQN (mkRat k d))) (k:=0) 3 kH (h:=zF0))<|zD) fun a w4 s=> ?_
 refine zN (CU.agg (fQN (mkRat k d))) ((fQN (mkRat k d)).tS) rfl s kH rfl rfl rfl iiz iiz zV fun a w s=> ?_
 refine yV (uI 0) rfl s kH iiz fun a w s=> ?_
 refine zA rfl ?_
 refine tD ?_
 exact wQ s (CU.agg (fQN (mkRat k d))) rfl kH rfl rfl (yO _) (fun cs v W h1 h2=>⟨_,_,rfl,h1,h2⟩)
theorem zRQ {W:Wi} {m:Nat} {v v':Wj} {k:Int} {d:Nat} (h:UV W m v k) (h':LV W m v' d) (hm:m<=2000) (hT:Tab W):Calls prog 94 #[v,v'] W (Ret W (zAu (fQN (mkRat k d)) (fI (if d=0 then 30 else 0))).tS):=by
 by_cases hd:d=0
 ·rw [if_pos hd]
  exact zRP h h' hm hT (tW oO)
 ·rw [if_neg hd]
  exact zRR h h' hm hT (tV oO)
theorem zFq {W:Wi} {m:Nat} {v v':Wj} {q q':Rat} (h:RVp m q v W) (h':RVp m q' v' W) (hm:m<=650) (hm0:0<m) (hT:Tab W):Calls prog 63 #[v,v'] W (Ret W (fQN (q - q')).tS):=by
 have hq:QB q m:=h.qb hm0
 have hq':QB q' m:=h'.qb hm0
 refine z5 [(fRV m q).tS,(fRV m q').tS] func63 rfl kH ⟨h,h',trivial⟩ fun a s=> ?_
 refine tC ?_
 refine zB 0 [] hmix s kH
  zD fun a w1 s=> ?_
 refine yN (CU.agg (fRV m q)) rfl s kH (fun v W h=>zAc h) fun b2 a w s=> ?_
 refine yN (CU.agg (fRV m q')) rfl s kH (fun v W h=>zAc h) fun b3 a w s=> ?_
 refine zU (CU.len 3) (cs:=zR3) kH rfl s kH (fun W=>rfl) rfl fun b4 a w s=> ?_
 refine zA rfl ?_
 refine tC ?_
 refine yL [] 5 ((5, .Z (fRV m q))::(6, .Z (fRV m q'))::(7, .Z (fQN (-q')))::(8, .s (fQS m [q,(-q')]))::(9, .u (fQN (q+ -q'))):: []) hmix s kH
  (oc (zI (f:=fRV m q) 3 kH (hz:=yW _ _))<|oc (zI (f:=fRV m q') 3 kH (hz:=yW _ _))<|oc (zH zE zQX (fun u0 W hb (h0:RVp m q' u0 W)=>zKW h0 oO hm0 (hT.below (s.up hb))))<|oc (yI (fun u v W (hu:RVp m q u W) (hv:QNp (-q') v W)=>zCU hu (wD hv hq'.neg)))<|oc (zH zE zOm (fun u0 W hb (h0:(fQS m [q,(-q')]).p u0 W)=>zEO h0 hq hq'.neg oO (hT.below (s.up hb))))<|zD) fun Q' hQ a w2 s=> ?_
 refine zN (CU.agg (fQN (q+ -q'))) ((fQN (q+ -q')).tS) rfl s kH rfl rfl rfl iiz iiz zV fun a w s=> ?_
 refine zA rfl (hQ _ _ ?_)
 refine tD ?_
 exact wJ s (CU.agg (fQN (q+ -q'))) rfl kH rfl rfl (yO _) (fun cs W h=>by rw [Rat.sub_eq_add_neg];exact h)
theorem zRO {W:Wi} {m:Nat} {v v':Wj} {q q':Rat} (h:RVp m q v W) (h':RVp m q' v' W) (hm:m<=650) (hm0:0<m) (hT:Tab W):Calls prog 70 #[v,v'] W (Ret W (zAu (fQN (q / q')) (fI (if q'=0 then 30 else 0))).tS):=by
 have hq:QB q m:=h.qb hm0
 have hq':QB q' m:=h'.qb hm0
 have bk2:Bd (if decide ((q').num<0) then -((q').den:Int) else ((q').den:Int)) m:=by split;exact (jU hq'.2).neg;exact jU hq'.2
 have hval:mkRat ((q).num*(if decide ((q').num<0) then -((q').den:Int) else ((q').den:Int))) ((q).den*(q').num.natAbs)=q / q':=zKV q q'
 have herr:((q).den*(q').num.natAbs=0)=(q'=0):=by rw [Nat.mul_eq_zero,Int.natAbs_eq_zero,zVJ];have:=q.den_pos;simp;omega
 have hnew: ∀W u0 u1,Tab W->NV W u0 ((q).num*(if decide ((q').num<0) then -((q').den:Int) else ((q').den:Int)))->qH W u1 ((q).den*(q').num.natAbs)->Calls prog 94 #[u0,u1] W (Ret W (zAu (fQN (q / q')) (fI (if q'=0 then 30 else 0))).tS):=fun W u0 u1 hT h0 h1=>by
  have:=zRQ (m:=m+m) (h0.uv' (Bd.mul hq.1 bk2)) (h1.lv (zCI hq.2 hq'.1)) oO hT
  simp only [hval,herr] at this
  exact this
 refine z5 [(fRV m q).tS,(fRV m q').tS] func70 rfl kH ⟨h,h',trivial⟩ fun a s=> ?_
 refine tC ?_
 refine zB 0 [] hmix s kH
  zD fun a w1 s=> ?_
 refine yN (CU.agg (fRV m q)) rfl s kH (fun v W h=>zAc h) fun b2 a w s=> ?_
 refine yN (CU.agg (fRV m q')) rfl s kH (fun v W h=>zAc h) fun b3 a w s=> ?_
 refine zU (CU.len 3) (cs:=zR3) kH rfl s kH (fun W=>rfl) rfl fun b4 a w s=> ?_
 refine yV (uI 0) rfl s kH iiz fun a w s=> ?_
 refine zA rfl ?_
 refine tC ?_
 have so:=s.old;have sg:=s.gr
 refine jG 6 ((8, .Z (fRV m q))::(9, .s (wF w 103 (CU.agg (fQN q))))::(10, .Z (fRV m q'))::(11, .s (wF w 103 (CU.agg (fQN q'))))::(6, .s (wF w 103 (CU.agg (fQN q))))::(7, .s (wF w 103 (CU.agg (fQN q')))):: []) hmix s kH
  (oc (zI (f:=fRV m q) 3 kH (hz:=yW _ _))<|oc (zH zE zJ2 (fun u0 W hb (h0:RVp m q u0 W)=>(zHO h0 oO (hT.below (s.up hb))).mono (wI (zBw hb.size))))<|oc (zI (f:=fRV m q') 3 kH (hz:=yW _ _))<|oc (zH zE zJ2 (fun u0 W hb (h0:RVp m q' u0 W)=>(zHO h0 oO (hT.below (s.up hb))).mono (wI (zBw hb.size))))<|oc zG<|oc zG<|zD) fun a w2 s hr=> ?_
 obtain ⟨b6,_,s⟩:=s.adopt true 6 (hr (_,_) mz4) sg (fun y hy=> .inl (so y hy))
 obtain ⟨b7,_,s⟩:=s.adopt true 7 (hr (_,_) mz5) sg (fun y hy=>by rcases tL.1 hy with rfl|hy;exact .inr ⟨rfl,rfl⟩;exact .inl (so y hy))
 refine zA rfl ?_
 refine tC ?_
 replace s:=s.drop [5]
 refine yL [0,5,11,19,24] 34 ((12, .s (wE b6 (cg (fQN q))))::(13, .Y (fQN q))::(14, .X (fQN q) 0)::(15, .X (fQN q) 0)::(16, .Z (fNV ((q).num)))::(17, .s (wE b7 (cg (fQN q'))))::(18, .Y (fQN q'))::(19, .X (fQN q') 0)::(20, .X (fQN q') 0)::(21, .X (fQN q') 0)::(22, .Z (uB (decide ((q').num<0))))::(23, .s (wE b7 (cg (fQN q'))))::(24, .Y (fQN q'))::(25, .X (fQN q') 0)::(26, .X (fQN q') 2)::(27, .Z (qW ((q').den)))::(28, .Z (fUV m (if decide ((q').num<0) then -((q').den:Int) else ((q').den:Int))))::(29, .s (zJh (m+m) [(q).num,(if decide ((q').num<0) then -((q').den:Int) else ((q').den:Int))]))::(30, .Z (fNV ((q).num*(if decide ((q').num<0) then -((q').den:Int) else ((q').den:Int)))))::(31, .s (wE b6 (cg (fQN q))))::(32, .Y (fQN q))::(33, .X (fQN q) 0)::(34, .X (fQN q) 2)::(35, .Z (qW ((q).den)))::(36, .s (wE b7 (cg (fQN q'))))::(37, .Y (fQN q'))::(38, .X (fQN q') 0)::(39, .X (fQN q') 0)::(40, .X (fQN q') 1)::(41, .Z (qW ((q').num.natAbs)))::(42, .Z (qW ((q).den*(q').num.natAbs)))::(43, .Z (zAu (fQN (q / q')) (uI (if q'=0 then 30 else 0))))::(44, .u (fQN (q / q')))::(45, .u (uI (if q'=0 then 30 else 0))):: []) hmix s kH
  (oc zC<|oc (qN (C:=cg (fQN q)))<|oc (zO (C:=cg (fQN q)) 0 kH)<|oc (yZ (C:=cg (fQN q)) 0 0 kH)<|oc (yH (C:=cg (fQN q)) (k:=0) 2 kH (h:=zBh))<|oc zC<|oc (qN (C:=cg (fQN q')))<|oc (zO (C:=cg (fQN q')) 0 kH)<|oc (yZ (C:=cg (fQN q')) 0 0 kH)<|oc (yZ (C:=cg (fQN q')) 0 0 kH)<|oc (jD (C:=cg (fQN q')) (k:=0) kH (h:=zO5))<|oc zC<|oc (qN (C:=cg (fQN q')))<|oc (zO (C:=cg (fQN q')) 0 kH)<|oc (yZ (C:=cg (fQN q')) 0 2 kH)<|oc (jD (C:=cg (fQN q')) (k:=2) kH (h:=zAP))<|oc (yY (fun u v W (hu:u= .bool (decide ((q').num<0))) (hv:qH W v ((q').den))=>zOB hu hv hq'.2))<|oc (yI (fun u v W (hu:NV W u ((q).num)) (hv:UV W m v (if decide ((q').num<0) then -((q').den:Int) else ((q').den:Int)))=>zAW (NV.uv' hu (Bd.mono (hq).1 (m':=(m+m)) (by first|omega|decide))) (UV.mono hv (m':=(m+m)) (by first|omega|decide))))<|oc (zH zE zJ1 (fun u0 W hb (h0:ISV W (m+m) u0 [(q).num,(if decide ((q').num<0) then -((q').den:Int) else ((q').den:Int))])=>zJT (k:=((q).num*(if decide ((q').num<0) then -((q').den:Int) else ((q').den:Int)))) h0 (by show (m+m)*2+(m+m)+1<=40000;omega) fM fM))<|oc zC<|oc (qN (C:=cg (fQN q)))<|oc (zO (C:=cg (fQN q)) 0 kH)<|oc (yZ (C:=cg (fQN q)) 0 2 kH)<|oc (jD (C:=cg (fQN q)) (k:=2) kH (h:=zAP))<|oc zC<|oc (qN (C:=cg (fQN q')))<|oc (zO (C:=cg (fQN q')) 0 kH)<|oc (yZ (C:=cg (fQN q')) 0 0 kH)<|oc (yZ (C:=cg (fQN q')) 0 1 kH)<|oc (jD (C:=cg (fQN q')) (k:=1) kH (h:=zO7))<|oc (zJ zE zQV (fun u0 u1 W hb (h0:qH W u0 ((q).den)) (h1:qH W u1 ((q').num.natAbs))=>zQB (LV.mono (qH.lv h0 hq.2) (m':=m) oO) (qH.lv h1 hq'.1) oO))<|oc (zJ zE zTI (fun u0 u1 W hb (h0:NV W u0 ((q).num*(if decide ((q').num<0) then -((q').den:Int) else ((q').den:Int)))) (h1:qH W u1 ((q).den*(q').num.natAbs))=>hnew W u0 u1 (hT.below (s.up hb)) h0 h1))<|oc (zA1 (A:=(fQN (q / q')).tS) (B:=(uI (if q'=0 then 30 else 0)).tS) iiz)<|oc (zA0 (A:=(fQN (q / q')).tS) (B:=(uI (if q'=0 then 30 else 0)).tS) iiz)<|zD) fun Q' hQ a w3 s=> ?_
 refine zN (CU.agg (fQN (q / q'))) ((fQN (q / q')).tS) rfl s kH rfl rfl rfl iiz iiz zV fun a w s=> ?_
 refine yV (uI (if q'=0 then 30 else 0)) rfl s kH iiz fun a w s=> ?_
 refine zA rfl (hQ _ _ ?_)
 refine tD ?_
 exact wQ s (CU.agg (fQN (q / q'))) rfl kH rfl rfl (yO _) (fun cs v W h1 h2=>⟨_,_,rfl,h1,h2⟩)
def UVx (n:Nat) (k:Int) (v:Wj) (w:Wi):Prop:= ∃s A c l,v= .agg #[.bool s, .slice A n c]/\Rd w A n c l/\Lt l/\iv s l=k
def LVx (n x:Nat) (v:Wj) (w:Wi):Prop:= ∃A c l,v= .slice A n c/\Rd w A n c l/\Lt l/\val l=x
def QXp (n n':Nat) (k:Int) (d:Nat) (v:Wj) (w:Wi):Prop:= ∃b s t,v= .agg #[b,s,t]/\UVx n k (.agg #[b,s]) w/\LVx n' d t w
def fQX (n n':Nat) (k:Int) (d:Nat):UF:= .mk' (QXp n n' k d) fun _ _ _ ⟨b,s,t,e,⟨sg,A,c,l,e1,h1,h2⟩,A',c',l',e2,h1',h2'⟩ u=>⟨b,s,t,e,⟨sg,A,c,l,e1,h1.keepU u,h2⟩,A',c',l',e2,h1'.keepU u,h2'⟩
theorem zTs {n n' m:Nat} {k:Int} {d:Nat} {v:Wj} {W:Wi} (h:QXp n n' k d v W) (h1:n<=m) (h2:n'<=m):QVp m k d v W:=by
 obtain ⟨b,s,t,e,⟨sg,A,c,l,e1,g1,g2,g3⟩,A',c',l',e2,g1',g2',g3'⟩:=h
 exact ⟨b,s,t,e,⟨sg,A,n,c,l,e1,g1,g2,h1,g3⟩,A',n',c',l',e2,g1',g2',h2,g3'⟩
theorem zLa {n n':Nat} {k:Int} {d:Nat} (cs:List Wj) (W:Wi) (h:(CU.agg (fQX n n' k d)).p cs W): ∃u,cs[1]?=some u/\ ∃A c,u= .slice A n c:=by
 obtain ⟨b,s,t,e,⟨sg,A,c,l,e1,_⟩,_⟩:=h
 rw [zAE e]
 have:=tX Array.toList (jJ e1)
 simp at this
 exact ⟨s,rfl,A,c,this.2⟩
theorem zK9 {n n':Nat} {k:Int} {d:Nat} (cs:List Wj) (W:Wi) (h:(CU.agg (fQX n n' k d)).p cs W): ∃u,cs[2]?=some u/\ ∃A c,u= .slice A n' c:=by
 obtain ⟨b,s,t,e,_,A,c,l,e1,_⟩:=h
 rw [zAE e]
 exact ⟨t,rfl,A,c,e1⟩
theorem zIV (n n':Nat) (k:Int) (d:Nat): ∀cs:List Wj, ∀W,(fQX n n' k d).p (.agg cs.toArray) W->cs.length=3:=fun cs W ⟨b,s,t,e,_⟩=>by rw [zAE e];rfl
def fSl (n:Nat):UF:= .mk' (fun v _=> ∃A c,v= .slice A n c) fun _ _ _ h _=>h
end Go.Proofs.Wd

namespace Go.Proofs.Wd
open Tryz
set_option maxRecDepth 100000
open Go.RowKit Lb
structure QX where
 n:Nat
 n':Nat
 k:Int
 d:Nat
abbrev QX.cu (x:QX):CU:=CU.agg (fQX x.n x.n' x.k x.d)
def zAR (L:List QX) (k:Nat):Nat:=((L.take k).map fun x=>min (x.n+x.n') 1000).sum
theorem zCH {L:List QX} {k:Nat} {x:QX} (h:L[k]?=some x):zAR L (k+1)=zAR L k+min (x.n+x.n') 1000:=by
 unfold zAR
 rw [zVv,h]
 simp
theorem zNJ (L:List QX) (k:Nat):zAR L k<=1000*k:=by
 induction k with
 |zero=>simp [zAR]
 | succ k ih=>
  cases h:L[k]? with
  |none=>
   have:zAR L (k+1)=zAR L k:=by unfold zAR;rw [zVv,h];simp
   omega
  |some x=>
   rw [zCH h]
   omega
theorem zLe {L:List QX} {k i:Nat} {x:QX} (h:L[i]?=some x) (hi:i<k):min (x.n+x.n') 1000<=zAR L k:=by
 induction k with
 |zero=>omega
 | succ k ih=>
  by_cases e:i=k
  ·subst e;rw [zCH h];omega
  ·have h1:=ih oO
   cases h2:L[k]? with
   |none=>
    have:zAR L (k+1)=zAR L k:=by unfold zAR;rw [zVv,h2];simp
    omega
   |some y=>rw [zCH h2];omega
def gq (L:List QX):Bool:=decide (((L.map QX.cu).length:Int)>60)||decide (((zAR L (min (L.map QX.cu).length 61):Nat):Int)>40)
theorem zDv {L:List QX} (h:gq L=false): ∀x,x∈L->x.n<=40/\x.n'<=40:=by
 unfold gq at h
 rw [Bool.or_eq_false_iff] at h
 have h1:=tO h.1
 have h2:=tO h.2
 rw [tU] at h1 h2
 intro x hx
 obtain ⟨i,hi⟩:=List.getElem?_of_mem hx
 have hlt:=(zVw.1 hi).1
 have h3:=zLe hi (k:=min L.length 61) oO
 omega
theorem wrap64 (u:Int) (r:Nat) (h:u=r) (hr:r<9223372036854775808):IntKind.i64.wrap u=r:=by
 subst h
 rw [IntKind.wrap_i64]
 omega
theorem zK4 {W:Wi} {v:Wj} {L:List QX} (h:(SF.row 3 (L.map QX.cu)).p v W) (hL: ∀x,x∈L->x.n+x.n'<9223372036854775808):Calls prog 7 #[v] W (Ret W (fB (gq L)).tS):=by
 refine z5 [SF.row 3 (L.map QX.cu)] func7 rfl kH ⟨h,trivial⟩ fun a s=> ?_
 refine tC ?_
 refine zB 1 ((2, .u (uB false)):: []) hmix s kH
  (oc zG<|zD) fun a w1 s=> ?_
 refine zA rfl ?_
 refine tC ?_
 refine zB 1 ((3, .u (uI 0)):: []) hmix s kH
  (oc zG<|zD) fun a w2 s=> ?_
 refine zA rfl ?_
 refine tC ?_
 refine tC ?_
 refine zB 1 ((4, .u (uI 0)):: []) hmix s kH
  (oc zG<|zD) fun a w3 s=> ?_
 refine zA rfl ?_
 refine tG ?_
 refine zPN (min (L.map QX.cu).length 61) 4 (fun k=> [(0, .o (SF.row 3 ((L).map QX.cu))),(4, .u (fI ((k:Nat):Int))),(3, .u (fI ((zAR L k:Nat):Int)))]) (fun k=>mz1) (s.keepK _ (fmz ⟨mz3,fmz ⟨.head _,fmz ⟨mz1,fnz⟩⟩⟩)) fun k a w hk s=> ?_
 refine tC ?_
 refine tC ?_
 refine zB 8 ((5, .Z (fI (k:Int)))::(6, .s (SF.row 3 ((L).map QX.cu)))::(7, .Z (uI (((L).map QX.cu).length:Int)))::(8, .Z (uB (decide ((k:Int)<(((L).map QX.cu).length:Int)))))::(9, .Z (uB (decide ((k:Int)<(((L).map QX.cu).length:Int)))))::(10, .s (SF.imp (decide ((k:Int)<(((L).map QX.cu).length:Int))=true) ((fI (k:Int)).tS)))::(11, .s (SF.imp (decide ((k:Int)<(((L).map QX.cu).length:Int))=true) ((uB (decide ((k:Int)<=60))).tS)))::(12, .u (uB ((decide ((k:Int)<(((L).map QX.cu).length:Int)))&&(decide ((k:Int)<=60))))):: []) hmix s kH
  (oc zC<|oc zC<|oc (zBk (z:=3) (Cs:=(L).map QX.cu) kH iiz (fun _=>rfl))<|oc (zR .i64 (k:Int) (((L).map QX.cu).length:Int) (decide ((k:Int)<(((L).map QX.cu).length:Int))) iiz iiz rfl rfl)<|oc zC<|oc (zF 9 (decide ((k:Int)<(((L).map QX.cu).length:Int))) kH iiz (fun e=>yG [] ((fI (k:Int)).tS) fnz (fun _ _ h _=>h) kH zC) fL)<|oc (zF 9 (decide ((k:Int)<(((L).map QX.cu).length:Int))) kH iiz (fun e=>yG [(10,(fI (k:Int)).tS)] ((uB (decide ((k:Int)<=60))).tS) (fmz ⟨fun v W h=>zT (c:=decide ((k:Int)<(((L).map QX.cu).length:Int))=true) (f:=(fI (k:Int)).tS) e h,fnz⟩) (fun _ _ h _=>h) kH (zR .i64 (k:Int) 60 (decide ((k:Int)<=60)) iiz iiz rfl rfl)) fL)<|oc (yM (decide ((k:Int)<(((L).map QX.cu).length:Int))) iiz (fun e v W h=>zBJ (zT e h) e) (fun e v W h=>zBi h e))<|zD) fun a w4 s=> ?_
 refine zA rfl ?_
 refine StS.cond s ((decide ((k:Int)<(((L).map QX.cu).length:Int)))&&(decide ((k:Int)<=60))) iiz (fun e=> ?_) (fun e=> ?_)
 ·rw [Bool.and_eq_true] at e
  have hk1:=tP e.1
  have hk2:=tP e.2
  have hk3:k<L.length:=by rw [tU] at hk1;omega
  obtain ⟨x,hxl⟩: ∃x,L[k]?=some x:=⟨_,zGj hk3⟩
  have hx:(L.map QX.cu)[k]?=some x.cu:=by rw [List.getElem?_map,hxl];rfl
  have hxm:=hL x (List.mem_of_getElem? hxl)
  have hgs:=zCH hxl
  have hgl:=zNJ L k
  refine tH ?_
  refine tC ?_
  refine tG ?_
  refine zHR (K:= [(12, .u (uB ((decide ((k:Int)<(((L).map QX.cu).length:Int)))&&(decide ((k:Int)<=60))))),(0, .o (SF.row 3 ((L).map QX.cu))),(4, .u (fI (k:Int)))]) [(3, .u (fI ((zAR L k:Nat):Int)))] [0,1,2,8,9] 17 ((15, .Z (fI ((zAR L k:Nat):Int)))::(16, .s (SF.row 3 ((L).map QX.cu)))::(17, .Z (fI (k:Int)))::(18, .s (wB (QX.cu x).cf))::(19, .s (wB ((QX.cu x).cf.at 0)))::(20, .s (wB ((QX.cu x).cf.at 1)))::(21, .Z (fSl (x.n)))::(22, .Z (uI (x.n:Int)))::(23, .s (SF.row 3 ((L).map QX.cu)))::(24, .Z (fI (k:Int)))::(25, .s (wB (QX.cu x).cf))::(26, .s (wB ((QX.cu x).cf.at 2)))::(27, .Z (fSl (x.n')))::(28, .Z (uI (x.n':Int)))::(29, .Z (uI ((x.n+x.n':Nat):Int)))::(30, .Z (uI (min ((x.n+x.n':Nat):Int) 1000)))::(31, .u (fI ((zAR L (k+1):Nat):Int))):: []) hmix (s.keepK _ (fmz ⟨mz3,fmz ⟨.head _,fmz ⟨mz1,fmz ⟨mz2,fnz⟩⟩⟩⟩)) kH
   (oc zC<|oc zC<|oc zC<|oc (zAZ (z:=3) (Cs:=(L).map QX.cu) (i:=k) (C:=QX.cu x) kH hx iiz iiz)<|oc (zO (C:=(QX.cu x).cf) 0 kH)<|oc (yZ (C:=(QX.cu x).cf) 0 1 kH)<|oc (jD (C:=(QX.cu x).cf) (k:=1) kH (h:=zLa))<|oc (zDZ kH (fun v W ⟨A,c,e⟩=>⟨A,x.n,c,e,rfl⟩))<|oc zC<|oc zC<|oc (zAZ (z:=3) (Cs:=(L).map QX.cu) (i:=k) (C:=QX.cu x) kH hx iiz iiz)<|oc (zO (C:=(QX.cu x).cf) 2 kH)<|oc (jD (C:=(QX.cu x).cf) (k:=2) kH (h:=zK9))<|oc (zDZ kH (fun v W ⟨A,c,e⟩=>⟨A,x.n',c,e,rfl⟩))<|oc (yR .i64 (x.n:Int) (x.n':Int) ((x.n+x.n':Nat):Int) iiz iiz (wrap64 _ _ oO oO))<|oc (zQv ((x.n+x.n':Nat):Int) 1000 iiz iiz)<|oc (yR .i64 ((zAR L k:Nat):Int) (min ((x.n+x.n':Nat):Int) 1000) ((zAR L (k+1):Nat):Int) iiz iiz (wrap64 _ _ oO oO))<|zD) fun Q' hQ a w5 s=> ?_
  refine yV (fI ((zAR L (k+1):Nat):Int)) rfl s kH iiz fun a w s=> ?_
  refine zA rfl (hQ _ _ ?_)
  refine zZ 2 ((13, .Z (fI (k:Int)))::(14, .u (fI ((k+1:Nat):Int))):: []) s kH
   (oc zC<|oc (yR .i64 (k:Int) 1 ((k+1:Nat):Int) iiz iiz (wrap64 _ _ oO oO))<|zD) fun a w6 s=> ?_
  replace s:=s.drop [4]
  refine yV (fI ((k+1:Nat):Int)) rfl s kH iiz fun a w s=> ?_
  refine zA rfl ?_
  exact ⟨by omega,s.keepK _ (fmz ⟨mz5,fmz ⟨.head _,fmz ⟨mz2,fnz⟩⟩⟩)⟩
 ·rw [Bool.and_eq_false_iff] at e
  have hkN:k=min (L.map QX.cu).length 61:=by
   rcases e with e|e
   ·have:=tO e;omega
   ·have:=tO e;omega
  refine tR ?_
  refine tC ?_
  refine zB 8 ((32, .s (SF.row 3 ((L).map QX.cu)))::(33, .Z (uI (((L).map QX.cu).length:Int)))::(34, .Z (uB (decide ((((L).map QX.cu).length:Int)>60))))::(35, .Z (uB (decide ((((L).map QX.cu).length:Int)>60))))::(36, .s (SF.imp (decide ((((L).map QX.cu).length:Int)>60)=false) ((fI ((zAR L k:Nat):Int)).tS)))::(37, .s (SF.imp (decide ((((L).map QX.cu).length:Int)>60)=false) ((uB (decide (((zAR L k:Nat):Int)>40))).tS)))::(38, .Z (uB ((decide ((((L).map QX.cu).length:Int)>60))||(decide (((zAR L k:Nat):Int)>40)))))::(2, .u (uB ((decide ((((L).map QX.cu).length:Int)>60))||(decide (((zAR L k:Nat):Int)>40))))):: []) hmix s kH
   (oc zC<|oc (zBk (z:=3) (Cs:=(L).map QX.cu) kH iiz (fun _=>rfl))<|oc (zR .i64 (((L).map QX.cu).length:Int) 60 (decide ((((L).map QX.cu).length:Int)>60)) iiz iiz rfl rfl)<|oc zC<|oc (zF 35 (decide ((((L).map QX.cu).length:Int)>60)) kH iiz (fun e=>yG [] ((fI ((zAR L k:Nat):Int)).tS) fnz (fun _ _ h _=>h) kH zC) fL)<|oc (zF 35 (decide ((((L).map QX.cu).length:Int)>60)) kH iiz (fun e=>yG [(36,(fI ((zAR L k:Nat):Int)).tS)] ((uB (decide (((zAR L k:Nat):Int)>40))).tS) (fmz ⟨fun v W h=>zT (c:=decide ((((L).map QX.cu).length:Int)>60)=false) (f:=(fI ((zAR L k:Nat):Int)).tS) e h,fnz⟩) (fun _ _ h _=>h) kH (zR .i64 ((zAR L k:Nat):Int) 40 (decide (((zAR L k:Nat):Int)>40)) iiz iiz rfl rfl)) fL)<|oc (yM (decide ((((L).map QX.cu).length:Int)>60)) iiz (fun e v W h=>zBc h e) (fun e v W h=>zAs (zT e h) e))<|oc zG<|zD) fun a w7 s=> ?_
  refine zA rfl ?_
  refine tD ?_
  exact wH s (t:=2) rfl (fun _ _ h=>by rw [hkN] at h;exact h)
end Go.Proofs.Wd

namespace Go.Proofs.Wd
open Tryz
set_option maxRecDepth 100000
set_option maxHeartbeats 1000000
open Go.RowKit Lb
def T2 (m:Nat) (op:Rat->Rat->Rat) (xs:Array Wj) (W:Wi) (R:SF):Prop:= ∃u v p q,xs=#[u,v]/\RVp m p u W/\RVp m q v W/\Tab W/\R=(fQN (op p q)).tS
def T3 (m:Nat) (op:Rat->Rat->Rat) (xs:Array Wj) (W:Wi) (R:SF):Prop:= ∃u v, ∃p q:V2,xs=#[u,v]/\(fPV m p).p u W/\(fPV m q).p v W/\Tab W/\R=(fPN (op p.1 q.1,op p.2 q.2)).tS
def G1 (g:FuncId) (m:Nat) (op:Rat->Rat->Rat):Prop:= ∀(W:Wi) (s:Wj) (p q:Rat),(fQS m [p,q]).p s W->QB p m->QB q m->Tab W->Calls prog g #[s] W (Ret W (fQN (op p q)).tS)
theorem zCR {u:Wj}: ∀cs W,(wC [u]).p cs W-> ∃x,cs[0]?=some x/\(UF.eq u).p x W:=fun cs W h=>by
 obtain rfl:cs= [u]:=h
 exact ⟨u,rfl,rfl⟩
theorem zL3 {u v:Wj} {W:Wi} (h:v=u) (hu:u.cells=#[u]) (hn:zY u=true:=by rfl):(wC [u]).p v.cells.toList W/\v.cells.toList.all zY=true:=by
 subst h
 rw [hu]
 exact ⟨rfl,by simp [hn]⟩
section
variable {F:Fence} {m:Nat} {P:Program} {w0:Wi} {ops:Array Oper} {G:Nat->SF} {d:Tmp} {ty:Wk} {pos:String} {aft:Array Edge}
theorem zNX {y:Operand} {g:FuncId} {xs:Array Operand} {ats:Array Wk} (hF:zGz F m P) (he:Enters P g) (hy: ∀v W,(fct G y).p v W->v= .func (.func g) #[] #[])
  (h: ∀(b:Act) (W:Wi),Below w0.heap.size w0 W->(∀x,x∈xs.toList->(fct G x).p (b.eval x) W)->Calls P g (xs.map b.eval) W (Ret W (G d))):
  qP F m P w0 ops G ⟨some d, .call ⟨.value y,xs,ats⟩,ty,pos,aft,none⟩:=
 zLy (fun args W R=>Calls P g args W (Ret W R)) hF (fun v W hv=>by rw [hy v W hv];exact ⟨g,#[],rfl,he,fun W' _ args R h=>by simpa using h⟩) h
theorem zLA {y x:Operand} {g:FuncId} {ats:Array Wk} (hF:zGz F m P) (he:Enters P g) (hy: ∀v W,(fct G y).p v W->v= .func (.func g) #[] #[]) (h: ∀u W,Below w0.heap.size w0 W->(fct G x).p u W->Calls P g #[u] W (Ret W (G d))):qP F m P w0 ops G ⟨some d, .call ⟨.value y,#[x],ats⟩,ty,pos,aft,none⟩:=
 zNX hF he hy fun b W hb hh=>by simpa using h _ W hb (hh x fM)
end
theorem zSk {m:Nat} (hm:m<=650):G1 45 m (·+·):=fun _ _ _ _ h hp hq hT=>zEO h hp hq oO hT
theorem zSl {m:Nat} (hm:m<=650) (hm0:0<m) (W:Wi):(SF.fn prog (T2 m (· - ·))).p (.func (.func 63) #[] #[]) W:=
 zFz (enters_of func63 kH rfl) fun W' _ args R ⟨u,v,p,q,e,h1,h2,hT,hR⟩=>by
  subst e hR
  simpa using zFq h1 h2 hm hm0 hT
theorem zRr {g:FuncId} {m:Nat} {op:Rat->Rat->Rat} (eg:Enters prog g) (hg:G1 g m op) (hm0:0<m) {W:Wi} {u v b:Wj} {p q:Rat} (h1:RVp m p u W) (h2:RVp m q v W) (hb:(wB (wC [.func (.func g) #[] #[]]).cf).p b W) (hT:Tab W):Calls prog 144 #[u,v,b] W (Ret W (fQN (op p q)).tS):=by
 have hp:=h1.qb hm0
 have hq:=h2.qb hm0
 refine z5 [(fRV m p).tS,(fRV m q).tS,wB (wC [.func (.func g) #[] #[]]).cf] func144 rfl kH ⟨h1,h2,hb,trivial⟩ fun a s=> ?_
 refine tC ?_
 refine zB 0 [] hmix s kH
  zD fun a w1 s=> ?_
 refine yN (CU.agg (fRV m p)) rfl s kH (fun v W h=>zAc h) fun b3 a w s=> ?_
 refine yN (CU.agg (fRV m q)) rfl s kH (fun v W h=>zAc h) fun b4 a w s=> ?_
 refine zU (CU.len 3) (cs:=zR3) kH rfl s kH (fun W=>rfl) rfl fun b5 a w s=> ?_
 refine zA rfl ?_
 refine tC ?_
 refine zB 5 ((6, .Z (UF.eq (.func (.func g) #[] #[])))::(7, .Z (fRV m p))::(8, .Z (fRV m q))::(9, .s (fQS m [p,q]))::(10, .u (fQN (op p q))):: []) hmix s kH
  (oc (qY (C:=(wC [.func (.func g) #[] #[]]).cf) kH iiz zCR)<|oc (zI (f:=fRV m p) 3 kH (hz:=yW _ _))<|oc (zI (f:=fRV m q) 3 kH (hz:=yW _ _))<|oc (yI (fun u v W (hu:RVp m p u W) (hv:RVp m q v W)=>zCU hu hv))<|oc (zLA zE eg iiz (fun u W hb (h:(fQS m [p,q]).p u W)=>hg W u p q h hp hq (hT.below (s.up hb))))<|zD) fun a w2 s=> ?_
 refine zN (CU.agg (fQN (op p q))) ((fQN (op p q)).tS) rfl s kH rfl rfl rfl iiz iiz zV fun a w s=> ?_
 refine zA rfl ?_
 refine tD ?_
 exact wJ s (CU.agg (fQN (op p q))) rfl kH rfl rfl (yO _) (fun cs W h=>h)
theorem zTg {g:FuncId} {m:Nat} {op:Rat->Rat->Rat} (eg:Enters prog g) (hg:G1 g m op) (hm0:0<m) {W:Wi} {u:Wj} (h:u= .func (.func g) #[] #[]):Calls prog 131 #[u] W (Ret W (SF.fn prog (T2 m op))):=by
 refine z5 [(UF.eq (.func (.func g) #[] #[])).tS] func131 rfl kH ⟨h,trivial⟩ fun a s=> ?_
 refine tC ?_
 refine zB 0 [] hmix s kH
  zD fun a w1 s=> ?_
 refine yN (wC [.func (.func g) #[] #[]]) rfl s kH (fun v W h=>zL3 h (by rfl)) fun b1 a w s=> ?_
 refine yV (UF.eq (.nilFunc)) rfl s kH iiz fun a w s=> ?_
 refine zA rfl ?_
 refine tC ?_
 replace s:=s.drop [2]
 refine jG 2 ((3, .s (SF.fn prog (T2 m op)))::(2, .s (SF.fn prog (T2 m op))):: []) hmix s kH
  (oc (zDj (fun u W hb (h:(wE b1 (wC [.func (.func g) #[] #[]]).cf).p u W)=>zFz (enters_of func144 kH rfl) (fun W' hb' args R ⟨u1,v1,p,q,e,h1,h2,hT,hR⟩=>by subst e hR;simpa using zRr eg hg hm0 h1 h2 ((wB (wC [.func (.func g) #[] #[]]).cf).st _ _ _ h.2 hb') hT)))<|oc zG<|zD) fun a w2 s hr=> ?_
 refine zA rfl ?_
 refine tD ?_
 exact StS.resN s (tJ _ _) rfl (hr (_,_) mz1)
theorem zPb {F:Fence} {m:Nat} {P:Program} {w0:Wi} {ops:Array Oper} {G:Nat->SF} {d:Tmp} {ty:Wk} {pos:String} {aft:Array Edge} {y x x':Operand} {ats:Array Wk} (T:Array Wj->Wi->SF->Prop) (hF:zGz F m P) (hy: ∀v W,Below w0.heap.size w0 W->(fct G y).p v W->(SF.fn P T).p v W) (h: ∀u v W,Below w0.heap.size w0 W->(fct G x).p u W->(fct G x').p v W->T #[u,v] W (G d)):qP F m P w0 ops G ⟨some d, .call ⟨.value y,#[x,x'],ats⟩,ty,pos,aft,none⟩:=
 zLx T hF hy fun b W hb hh=>by simpa using h _ _ W hb (hh x fM) (hh x' fM)
theorem zNQ {m:Nat} {op:Rat->Rat->Rat} {W:Wi} {u v b f:Wj} {p q:V2} (h1:(fPV m p).p u W) (h2:(fPV m q).p v W) (hb:(wB (wC [f]).cf).p b W) (hf:(SF.fn prog (T2 m op)).p f W) (hT:Tab W):Calls prog 89 #[u,v,b] W (Ret W (fPN (op p.1 q.1,op p.2 q.2)).tS):=by
 refine z5 [(fPV m p).tS,(fPV m q).tS,wB (wC [f]).cf] func89 rfl kH ⟨h1,h2,hb,trivial⟩ fun a s=> ?_
 refine tC ?_
 refine zB 0 [] hmix s kH
  zD fun a w1 s=> ?_
 refine yN (CU.agg (fPV m p)) rfl s kH (fun v W h=>qC h) fun b3 a w s=> ?_
 refine yN (CU.agg (fPV m q)) rfl s kH (fun v W h=>qC h) fun b4 a w s=> ?_
 refine zU (CU.len 6) (cs:=zP6) kH rfl s kH (fun W=>rfl) rfl fun b5 a w s=> ?_
 refine zA rfl ?_
 refine tC ?_
 refine yL [] 13 ((6, .Z (UF.eq f))::(7, .X (fPV m p) 0)::(8, .Z (fRV m ((p).1)))::(9, .X (fPV m q) 0)::(10, .Z (fRV m ((q).1)))::(11, .Z (fQN (op (p).1 (q).1)))::(12, .Z (UF.eq f))::(13, .X (fPV m p) 3)::(14, .Z (fRV m ((p).2)))::(15, .X (fPV m q) 3)::(16, .Z (fRV m ((q).2)))::(17, .Z (fQN (op (p).2 (q).2)))::(18, .u (fPN (op p.1 q.1,op p.2 q.2))):: []) hmix s kH
  (oc (qY (C:=(wC [f]).cf) kH iiz zCR)<|oc (zO (C:=cg (fPV m p)) 0 kH)<|oc (yH (C:=cg (fPV m p)) (k:=0) 3 kH (h:=zFg))<|oc (zO (C:=cg (fPV m q)) 0 kH)<|oc (yH (C:=cg (fPV m q)) (k:=0) 3 kH (h:=zFg))<|oc (zPb (T2 m op) zE (fun v W hb h=>by rw [show v=f from h];exact (SF.fn prog (T2 m op)).st _ _ _ hf (s.up hb)) (fun u v W hb (h1:RVp m ((p).1) u W) (h2:RVp m ((q).1) v W)=>⟨u,v,_,_,rfl,h1,h2,hT.below (s.up hb),rfl⟩))<|oc (qY (C:=(wC [f]).cf) kH iiz zCR)<|oc (zO (C:=cg (fPV m p)) 3 kH)<|oc (yH (C:=cg (fPV m p)) (k:=3) 3 kH (h:=zFf))<|oc (zO (C:=cg (fPV m q)) 3 kH)<|oc (yH (C:=cg (fPV m q)) (k:=3) 3 kH (h:=zFf))<|oc (zPb (T2 m op) zE (fun v W hb h=>by rw [show v=f from h];exact (SF.fn prog (T2 m op)).st _ _ _ hf (s.up hb)) (fun u v W hb (h1:RVp m ((p).2) u W) (h2:RVp m ((q).2) v W)=>⟨u,v,_,_,rfl,h1,h2,hT.below (s.up hb),rfl⟩))<|oc (yY (fun u v W (hu:QNp (op (p).1 (q).1) u W) (hv:QNp (op (p).2 (q).2) v W)=>zSZ (zAz _) (zAz _) hu hv))<|zD) fun Q' hQ a w2 s=> ?_
 refine zN (CU.agg (fPN (op p.1 q.1,op p.2 q.2))) ((fPN (op p.1 q.1,op p.2 q.2)).tS) rfl s kH rfl rfl rfl iiz iiz qK fun a w s=> ?_
 refine zA rfl (hQ _ _ ?_)
 refine tD ?_
 exact wJ s (CU.agg (fPN (op p.1 q.1,op p.2 q.2))) rfl kH rfl rfl (zX _ _) (fun cs W h=>h)
theorem zH2 {m:Nat} {op:Rat->Rat->Rat} {W:Wi} {f:Wj} (hf:(SF.fn prog (T2 m op)).p f W):Calls prog 62 #[f] W (Ret W (SF.fn prog (T3 m op))):=by
 have hfc:f.cells=#[f]/\zY f=true:=by obtain ⟨g,caps,rfl,_⟩:=hf;exact ⟨rfl,rfl⟩
 refine z5 [(UF.eq f).tS] func62 rfl kH ⟨rfl,trivial⟩ fun a s=> ?_
 refine tC ?_
 refine zB 0 [] hmix s kH
  zD fun a w1 s=> ?_
 refine yN (wC [f]) rfl s kH (fun v W h=>zL3 h hfc.1 hfc.2) fun b1 a w s=> ?_
 refine yV (UF.eq (.nilFunc)) rfl s kH iiz fun a w s=> ?_
 refine zA rfl ?_
 refine tC ?_
 replace s:=s.drop [2]
 refine jG 2 ((3, .s (SF.fn prog (T3 m op)))::(2, .s (SF.fn prog (T3 m op))):: []) hmix s kH
  (oc (zDj (fun u W hb (h:(wE b1 (wC [f]).cf).p u W)=>zFz (enters_of func89 kH rfl) (fun W' hb' args R ⟨u1,v1,p,q,e,h1,h2,hT,hR⟩=>by subst e hR;simpa using zNQ h1 h2 ((wB (wC [f]).cf).st _ _ _ h.2 hb') ((SF.fn prog (T2 m op)).st _ _ _ ((SF.fn prog (T2 m op)).st _ _ _ hf (s.up hb)) hb') hT)))<|oc zG<|zD) fun a w2 s hr=> ?_
 refine zA rfl ?_
 refine tD ?_
 exact StS.resN s (tJ _ _) rfl (hr (_,_) mz1)
theorem zIu {m:Nat} {W:Wi} {u v:Wj} {p q:V2} (h1:(fPV m p).p u W) (h2:(fPV m q).p v W) (hm:m<=650) (hm0:0<m) (hT:Tab W):Calls prog 40 #[u,v] W (Ret W (fPN (p.1 - q.1,p.2 - q.2)).tS):=by
 refine z5 [(fPV m p).tS,(fPV m q).tS] func40 rfl kH ⟨h1,h2,trivial⟩ fun a s=> ?_
 refine tC ?_
 refine zB 0 [] hmix s kH
  zD fun a w1 s=> ?_
 refine yN (CU.agg (fPV m p)) rfl s kH (fun v W h=>qC h) fun b2 a w s=> ?_
 refine yN (CU.agg (fPV m q)) rfl s kH (fun v W h=>qC h) fun b3 a w s=> ?_
 refine zU (CU.len 6) (cs:=zP6) kH rfl s kH (fun W=>rfl) rfl fun b4 a w s=> ?_
 refine zA rfl ?_
 refine tC ?_
 refine yL [] 4 ((5, .s (SF.fn prog (T3 m (· - ·))))::(6, .Z (fPV m p))::(7, .Z (fPV m q))::(8, .u (fPN (p.1 - q.1,p.2 - q.2))):: []) hmix s kH
  (oc (zH zE zQY (fun u0 W hb h0=>by rw [show u0=_ from h0];exact zH2 (zSl hm hm0 W)))<|oc (zI (f:=fPV m p) 6 kH (hz:=zX _ _))<|oc (zI (f:=fPV m q) 6 kH (hz:=zX _ _))<|oc (zLz (T3 m (· - ·)) zE iiz (fun u v W hb (h1:(fPV m p).p u W) (h2:(fPV m q).p v W)=>⟨u,v,p,q,rfl,h1,h2,hT.below (s.up hb),rfl⟩))<|zD) fun Q' hQ a w2 s=> ?_
 refine zN (CU.agg (fPN (p.1 - q.1,p.2 - q.2))) ((fPN (p.1 - q.1,p.2 - q.2)).tS) rfl s kH rfl rfl rfl iiz iiz qK fun a w s=> ?_
 refine zA rfl (hQ _ _ ?_)
 refine tD ?_
 exact wJ s (CU.agg (fPN (p.1 - q.1,p.2 - q.2))) rfl kH rfl rfl (zX _ _) (fun cs W h=>h)
theorem zRo {m:Nat} {W:Wi} {u v:Wj} {p q:V2} (h1:(fPV m p).p u W) (h2:(fPV m q).p v W) (hm:m<=650) (hm0:0<m) (hT:Tab W):Calls prog 108 #[u,v] W (Ret W (fPN (p.1+q.1,p.2+q.2)).tS):=by
 refine z5 [(fPV m p).tS,(fPV m q).tS] func108 rfl kH ⟨h1,h2,trivial⟩ fun a s=> ?_
 refine tC ?_
 refine zB 0 [] hmix s kH
  zD fun a w1 s=> ?_
 refine yN (CU.agg (fPV m p)) rfl s kH (fun v W h=>qC h) fun b2 a w s=> ?_
 refine yN (CU.agg (fPV m q)) rfl s kH (fun v W h=>qC h) fun b3 a w s=> ?_
 refine zU (CU.len 6) (cs:=zP6) kH rfl s kH (fun W=>rfl) rfl fun b4 a w s=> ?_
 refine zA rfl ?_
 refine tC ?_
 refine yL [] 5 ((5, .s (SF.fn prog (T2 m (·+·))))::(6, .s (SF.fn prog (T3 m (·+·))))::(7, .Z (fPV m p))::(8, .Z (fPV m q))::(9, .u (fPN (p.1+q.1,p.2+q.2))):: []) hmix s kH
  (oc (zH zE zSF (fun u0 W hb h0=>zTg (enters_of func45 kH rfl) (zSk hm) hm0 h0))<|oc (zH zE zQY (fun u0 W hb (h0:(SF.fn prog (T2 m (·+·))).p u0 W)=>zH2 h0))<|oc (zI (f:=fPV m p) 6 kH (hz:=zX _ _))<|oc (zI (f:=fPV m q) 6 kH (hz:=zX _ _))<|oc (zLz (T3 m (·+·)) zE iiz (fun u v W hb (h1:(fPV m p).p u W) (h2:(fPV m q).p v W)=>⟨u,v,p,q,rfl,h1,h2,hT.below (s.up hb),rfl⟩))<|zD) fun Q' hQ a w2 s=> ?_
 refine zN (CU.agg (fPN (p.1+q.1,p.2+q.2))) ((fPN (p.1+q.1,p.2+q.2)).tS) rfl s kH rfl rfl rfl iiz iiz qK fun a w s=> ?_
 refine zA rfl (hQ _ _ ?_)
 refine tD ?_
 exact wJ s (CU.agg (fPN (p.1+q.1,p.2+q.2))) rfl kH rfl rfl (zX _ _) (fun cs W h=>h)
theorem zC6 {m:Nat} {W:Wi} {u v:Wj} {p q:V2} (h1:(fPV m p).p u W) (h2:(fPV m q).p v W) (hp:QB p.1 m/\QB p.2 m) (hq:QB q.1 m/\QB q.2 m) (hm:m<=320) (hm0:0<m) (hT:Tab W):Calls prog 67 #[u,v] W (Ret W (fQN (p.1*q.2 - p.2*q.1)).tS):=by
 refine z5 [(fPV m p).tS,(fPV m q).tS] func67 rfl kH ⟨h1,h2,trivial⟩ fun a s=> ?_
 refine tC ?_
 refine zB 0 [] hmix s kH
  zD fun a w1 s=> ?_
 refine yN (CU.agg (fPV m p)) rfl s kH (fun v W h=>qC h) fun b2 a w s=> ?_
 refine yN (CU.agg (fPV m q)) rfl s kH (fun v W h=>qC h) fun b3 a w s=> ?_
 refine zU (CU.len 3) (cs:=zR3) kH rfl s kH (fun W=>rfl) rfl fun b4 a w s=> ?_
 refine zA rfl ?_
 refine tC ?_
 refine yL [] 13 ((5, .X (fPV m p) 0)::(6, .Z (fRV m ((p).1)))::(7, .X (fPV m q) 3)::(8, .Z (fRV m ((q).2)))::(9, .s (fQS m [(p).1,(q).2]))::(10, .Z (fQN ((p).1*(q).2)))::(11, .X (fPV m p) 3)::(12, .Z (fRV m ((p).2)))::(13, .X (fPV m q) 0)::(14, .Z (fRV m ((q).1)))::(15, .s (fQS m [(p).2,(q).1]))::(16, .Z (fQN ((p).2*(q).1)))::(17, .u (fQN ((p).1*(q).2 - (p).2*(q).1))):: []) hmix s kH
  (oc (zO (C:=cg (fPV m p)) 0 kH)<|oc (yH (C:=cg (fPV m p)) (k:=0) 3 kH (h:=zFg))<|oc (zO (C:=cg (fPV m q)) 3 kH)<|oc (yH (C:=cg (fPV m q)) (k:=3) 3 kH (h:=zFf))<|oc (yI (fun u v W (hu:RVp m ((p).1) u W) (hv:RVp m ((q).2) v W)=>zCU hu hv))<|oc (zH zE zSs (fun u0 W hb (h0:(fQS m [(p).1,(q).2]).p u0 W)=>zKQ h0 hp.1 hq.2 oO (hT.below (s.up hb))))<|oc (zO (C:=cg (fPV m p)) 3 kH)<|oc (yH (C:=cg (fPV m p)) (k:=3) 3 kH (h:=zFf))<|oc (zO (C:=cg (fPV m q)) 0 kH)<|oc (yH (C:=cg (fPV m q)) (k:=0) 3 kH (h:=zFg))<|oc (yI (fun u v W (hu:RVp m ((p).2) u W) (hv:RVp m ((q).1) v W)=>zCU hu hv))<|oc (zH zE zSs (fun u0 W hb (h0:(fQS m [(p).2,(q).1]).p u0 W)=>zKQ h0 hp.2 hq.1 oO (hT.below (s.up hb))))<|oc (zJ zE zMl (fun u0 u1 W hb (h0:QNp ((p).1*(q).2) u0 W) (h1:QNp ((p).2*(q).1) u1 W)=>zFq (wD h0 (hp.1.mul hq.2)) (wD h1 (hp.2.mul hq.1)) oO oO (hT.below (s.up hb))))<|zD) fun Q' hQ a w2 s=> ?_
 refine zN (CU.agg (fQN ((p).1*(q).2 - (p).2*(q).1))) ((fQN ((p).1*(q).2 - (p).2*(q).1)).tS) rfl s kH rfl rfl rfl iiz iiz zV fun a w s=> ?_
 refine zA rfl (hQ _ _ ?_)
 refine tD ?_
 exact wJ s (CU.agg (fQN (p.1*q.2 - p.2*q.1))) rfl kH rfl rfl (yO _) (fun cs W h=>h)
end Go.Proofs.Wd

namespace Lb
set_option maxHeartbeats 1000000
theorem zRp {l:List Nat} (ht:Lt l) {j s x:Nat} (hj:j<l.length) (hz: ∀i,i<j->lm l i=0) (hx:lm l j=2^s*x) (ho:x % 2=1):TZ (val l) (32*j+s)/\s<32:=by
 have hb:=qJ ht j
 have hs:s<32:=by
  have h1:2^s*1<=2^s*x:=Nat.mul_le_mul_left _ oO
  rw [Nat.mul_one, <-hx] at h1
  exact (Nat.pow_lt_pow_iff_right dA).1 (tE h1 (by rw [zUF] at hb;simpa using hb))
 refine ⟨?_,hs⟩
 have e0:val (l.take j)=0:=by
  rw [zFG oO]
  have:sm (lm l) j=sm (lm l) 0:=zCO (tK _) fun i _ hi=>hz i hi
  rw [this];rfl
 have e1:=j7 l j oO
 rw [e0,Nat.zero_add,zBq hj,hx,zFE] at e1
 obtain ⟨y,hy⟩: ∃y,val (l.drop (j+1))=y:=⟨_,rfl⟩
 rw [hy,show BB=2^s*(2*2^(31 - s)) from by rw [<-Nat.pow_succ', <-Nat.pow_add,show s+(31 - s+1)=32 from by omega];rfl,zVx, <-Nat.mul_add, <-zVx, <-Nat.pow_add] at e1
 refine ⟨x / 2+2^(31 - s)*y, ?_⟩
 rw [e1]
 congr 1
 rw [Nat.mul_add, <-zVx]
 omega
end Lb
namespace Go.Proofs.Wd
open Tryz
open Go.RowKit Lb
theorem zM4 (A:Wl Addr) (n c:Nat) (l:List Nat) (w:Wi) (h:Rd w A n c l) (ht:Lt l) (h0:0<val l) (hn:n<=2000):
  ∃q t:Nat,TZ (val l) (32*q+t)/\t<=31/\q<n/\Calls prog 103 #[.slice A n c] w fun e w'=>e= .returned (.int .i64 ((32*q+t:Nat):Int))/\w'=w:=by
 obtain ⟨j,hjn,hjz,hj0⟩: ∃j,j<n/\(∀i,i<j->lm l i=0)/\lm l j≠0:=by
  have hex: ∃j,lm l j≠0:=by
   refine zVK fun hc=> ?_
   have hz: ∀i,lm l i=0:=fun i=>zVK fun e=>hc ⟨i,e⟩
   have:sm (lm l) l.length=sm (lm l) 0:=zCO (tK _) fun i _ _=>hz i
   have e:val l=sm (lm l) l.length:=rfl
   rw [e,this] at h0
   simp [sm] at h0
  have hmin: ∀k,(∃j,j<=k/\lm l j≠0)-> ∃j,(∀i,i<j->lm l i=0)/\lm l j≠0:=by
   intro k
   induction k with
   |zero=>rintro ⟨j,hj,e⟩;exact ⟨j,fun i hi=>by omega,e⟩
   |succ k ih=>
    rintro ⟨j,hj,e⟩
    by_cases hk: ∃j,j<=k/\lm l j≠0
    ·exact ih hk
    ·exact ⟨j,fun i hi=>zVK fun e'=>hk ⟨i,by omega,e'⟩,e⟩
  obtain ⟨j0,hj0⟩:=hex
  obtain ⟨j,h1,h2⟩:=hmin j0 ⟨j0,tN _,hj0⟩
  refine ⟨j, ?_,h1,h2⟩
  rw [<-h.len]
  exact Nat.lt_of_not_le fun e=>h2 (zDr e)
 obtain ⟨s,hs⟩:=vK (lm l j) oO
 obtain ⟨m,hm⟩:=hs
 obtain ⟨htz,hs32⟩:=zRp ht (s:=s) (x:=2*m+1) (by rw [h.len];exact hjn) hjz hm oO
 refine ⟨j,s,htz,by omega,hjn, ?_⟩
 have hb:=qJ ht j
 have hle:=h.le;have hcap:=h.cap
 have HJZ:=hid hjz;have HM:=hid hm;have HB:=hid hb
 obtain ⟨d,hd⟩: ∃d:Nat->Nat,d=fun i=>2^(s - i)*(2*m+1):=⟨_,rfl⟩
 have hd0:d 0=lm l j:=by rw [hd,hm];rfl
 have hds:d s % 2=1:=by rw [hd];simp
 have hdi: ∀i,i<s->d i % 2=0/\d i / 2=d (i+1):=fun i hi=>by
  rw [hd]
  show 2^(s - i)*(2*m+1) % 2=0/\2^(s - i)*(2*m+1) / 2=2^(s - (i+1))*(2*m+1)
  rw [show s - i=(s - (i+1))+1 from by omega,Nat.pow_succ',zVx]
  omega
 have hdl: ∀i,d i<=d 0:=fun i=>by
  rw [hd]
  exact Nat.mul_le_mul_right _ (tQ oO oO)
 have HD0:=hid hd0;have HDS:=hid hds;have HDI:=hid hdi;have HDL:=hid hdl
 clear hd hd0 hds hdi hdl
 have HL:Hid (∀i,lm l i<4294967296):=hid fun i=>qJ ht i
 clear hjz hm htz hb h0
 go_enter func103,ntmps103
 go_wp2
 go_loopw [3,4] (fun t i wr=> ∃k:Nat,k<=j/\i= .int .i64 k/\t= .int .i64 ((32*k:Nat):Int)/\wr=w) (fun _ i _=>j - (intOf i).toNat)
 case atStart=>exact ⟨0,tK _,rfl,rfl,rfl⟩
 case round=>
  obtain ⟨k,hk,rfl,rfl,rfl⟩:=hrel
  obtain ⟨b,o,rfl,hc⟩:=h.cells k oO
  by_cases hkj:k<j
  ·have hz:=HJZ.out k hkj
   rw [hz] at hc
   clear hz
   go_wp2
   go_roundw
   case rel=>exact ⟨k+1,by omega,by go_num,by go_num,trivial⟩
   case measure=>simp [intOf];omega
  ·obtain rfl:k=j:=by omega
   have hlk:=HL.out k
   obtain ⟨x,hx⟩: ∃x,lm l k=x:=⟨_,rfl⟩
   rw [hx] at hc hj0 hlk
   have HX:=hid hx
   clear hx
   have e1:((32*k:Nat):Int).tdiv 32=(k:Int):=by rw [zVL oO];omega
   have e2:(((32*k:Nat):Int) / 32)=(k:Int):=by omega
   have hx2:((x:Int)==0)=false:=by simpa using hj0
   go_wp2
   go_loopw [3,5] (fun t y wr2=> ∃i:Nat,i<=s/\t= .int .i64 ((32*k+i:Nat):Int)/\y= .int .u32 (d i:Nat)/\wr2=wr) (fun t _ _=>32*k+s - (intOf t).toNat)
   case atStart=>exact ⟨0,tK _,rfl,by rw [HD0.out,HX.out],rfl⟩
   case round=>
    obtain ⟨i,hi,rfl,rfl,rfl⟩:=hrel
    have hdx:=HDL.out i
    rw [HD0.out,HX.out] at hdx
    by_cases his:i<s
    ·obtain ⟨q1,q2⟩:=HDI.out i his
     obtain ⟨y,hy⟩: ∃y,d i=y:=⟨_,rfl⟩
     rw [hy] at q1 q2 hdx ⊢
     have HY:=hid q2
     clear q2 hy
     go_wp2
     go_roundw
     case rel=>exact ⟨i+1,by omega,by go_num,by rw [<-HY.out];go_num,trivial⟩
     case measure=>simp [intOf];omega
    ·obtain rfl:i=s:=by omega
     have q1:=HDS.out
     obtain ⟨y,hy⟩: ∃y,d i=y:=⟨_,rfl⟩
     rw [hy] at q1 hdx ⊢
     clear hy
     go_wp2
     go_ret
     exact ⟨rfl,rfl⟩
theorem zKP {W:Wi} {m:Nat} {v v':Wj} {a b:Nat} (h:LV W m v a) (h':LV W m v' b) (hm:m<=100000):Calls prog 53 #[v,v'] W (zMO W (a*b)):=by
 obtain ⟨A,n,c,l,rfl,h1,h2,h3,rfl⟩:=h
 obtain ⟨A',n',c',l',rfl,h1',h2',h3',rfl⟩:=h'
 exact (zIQ A n c l A' n' c' l' W h1 h1' h2 h2' oO oO).mono fun _ _=>jL.v
theorem zDJ {W:Wi} {m:Nat} {v:Wj} {a:Nat} (h:LV W m v a) (hm:m<=100000):Calls prog 24 #[v] W (zMO W a):=by
 obtain ⟨A,n,c,l,rfl,h1,h2,h3,rfl⟩:=h
 exact (jQ A n c l W h1 h2 oO).mono fun _ _=>jL.v
theorem qH.open {W:Wi} {v:Wj} {x:Nat} (h:qH W v x): ∃A n c,v= .slice A n c/\(x=0->n=0)/\(0<x->0<n)/\n<=c/\c<=9223372036854775807/\qH W (.slice A n c) x:=by
 obtain ⟨A,n,c,l,rfl,h1,h2⟩:=h
 have h3:=h1.zero_iff;have h4:=h1.pos_iff
 rw [h2.len] at h3 h4
 exact ⟨A,n,c,rfl,h3.1,h4.1,h2.le,h2.cap,⟨A,n,c,l,rfl,h1,h2⟩⟩
end Go.Proofs.Wd

namespace Lb
set_option maxHeartbeats 2000000
theorem zPe {x k:Nat} (h:TZ x k):x / 2^k % 2=1/\x / 2^k<=x/\0<x / 2^k:=by
 have:=h.part.2
 exact ⟨this,tM _ _,Nat.pos_of_ne_zero fun e=>by rw [e] at this;simp at this⟩
def Bin (G x y:Nat):Prop:=0<y/\(x=0->y=G)/\ ∀i j,TZ x i->TZ y j->Nat.gcd (x / 2^i) (y / 2^j)=G
theorem Bin.start {a b i j:Nat} (hi:TZ a i) (hj:TZ b j):Bin (Nat.gcd (a / 2^i) (b / 2^j)) a b:=
 ⟨hj.pos,fun e=>by have:=hi.pos;omega,fun i' j' h1 h2=>by rw [h1.unique hi,h2.unique hj]⟩
theorem Bin.turn {G x y:Nat} (hx:x % 2=1) (hy:y % 2=1) (hg:Nat.gcd x y=G) (hle:y<=x):Bin G (x - y) y:=by
 refine ⟨by omega,fun e=> ?_,fun i j h1 h2=> ?_⟩
 ·have:x=y:=by omega
  rw [<-hg,this,Nat.gcd_self]
 ·have hj:j=0:=h2.unique (wV hy)
  rw [hj,Nat.pow_zero,Nat.div_one,Nat.gcd_comm,vC hy h1,Nat.gcd_comm,zGk hle,hg]
end Lb
namespace Go.Proofs.Wd
open Tryz
open Go.RowKit Lb
theorem zKS {W:Wi} {m:Nat} {A:Wl Addr} {n c:Nat} {x q t:Nat} (h:qH W (.slice A n c) x) (hx:x<BB^m) (hm:m<=2000) (htt:t<=31) (hq:q<n):Calls prog 104 #[.slice A n c, .int .i64 ((32*q+t:Nat):Int)] W (zMO W (x / 2^(32*q+t))):=by
 obtain ⟨A1,n1,c1,l1,e1,h1,h2⟩:=h
 cases e1
 have hn:n<=m:=zHi h1 h2 hx
 have:=zKT A n c l1 q t W h2 h1.lt htt oO oO oO
 rw [h1.val] at this
 exact this.mono fun _ _=>jL.v
theorem zTo {W:Wi} {m:Nat} {A:Wl Addr} {n c:Nat} {x q t:Nat} (h:LV W m (.slice A n c) x) (hm:m<=2000) (htt:t<=31) (hq:q<=2000):Calls prog 107 #[.slice A n c, .int .i64 ((32*q+t:Nat):Int)] W (zMO W (x*2^(32*q+t))):=by
 obtain ⟨A1,n1,c1,l1,e1,h1,h2,h3,rfl⟩:=h
 cases e1
 exact (zKH A n c l1 q t W h1 h2 htt oO oO).mono fun _ _=>jL.v
def zUz (w:Wi) (x:Nat):Ending->Wi->Prop:=fun e w'=> ∃v,e= .returned (.tuple #[v, .int .i64 0])/\qH w' v x/\Below w.heap.size w w'
theorem zOZ {W:Wi} {m:Nat} {v v':Wj} {a b:Nat} (h:LV W m v a) (h':LV W m v' b) (hm:m<=2000) (hab:b<=a):Calls prog 106 #[v,v'] W (zUz W (a - b)):=by
 obtain ⟨A,n,c,l,rfl,h1,h2,h3,rfl⟩:=h
 obtain ⟨A',n',c',l',rfl,h1',h2',h3',rfl⟩:=h'
 refine (zFU A n c l A' n' c' l' W h1 h1' h2 h2' hab oO).mono ?_
 rintro e w' ⟨A1,n1,c1,l1,rfl,i1,r1,hb⟩
 exact ⟨_,rfl,⟨A1,n1,c1,l1,rfl,i1,r1⟩,hb⟩
theorem zIz {W:Wi} {m:Nat} {A:Wl Addr} {n c:Nat} {x:Nat} (h:qH W (.slice A n c) x) (hx:x<BB^m) (hm:m<=2000) (h0:0<x):
  ∃q t:Nat,TZ x (32*q+t)/\t<=31/\q<n/\n<=m/\Calls prog 103 #[.slice A n c] W fun e w'=>e= .returned (.int .i64 ((32*q+t:Nat):Int))/\w'=W:=by
 obtain ⟨A1,n1,c1,l1,e1,h1,h2⟩:=h
 cases e1
 have hn:n<=m:=zHi h1 h2 hx
 obtain ⟨q,t,k1,k2,k3,k4⟩:=zM4 A n c l1 W h2 h1.lt (by rw [h1.val];exact h0) oO
 rw [h1.val] at k1
 exact ⟨q,t,k1,k2,k3,hn,k4⟩
theorem qH.rdv {W:Wi} {v:Wj} {x:Nat} (h:qH W v x):rdv W v=x:=by
 obtain ⟨A1,n1,c1,l1,rfl,h1,h2⟩:=h
 exact h2.rdv h1
def RgI (w:Wi) (m G:Nat) (u v:Wj) (W:Wi):Prop:= ∃A n c A' n' c' x y,u= .slice A n c/\v= .slice A' n' c'/\qH W (.slice A n c) x/\qH W (.slice A' n' c') y/\x<BB^m/\y<BB^m/\Bin G x y/\Below w.heap.size w W
theorem zQm {W:Wi} {m:Nat} {v v':Wj} {a b:Nat} (h:LV W m v a) (h':LV W m v' b) (hm:m<=2000):Calls prog 78 #[v,v'] W (zMO W (Nat.gcd a b)):=by
 have hla:=h.bound;have hlb:=h'.bound
 obtain ⟨A0,n0,c0,rfl,-,k1,k2,h⟩:=h.open
 obtain ⟨B0,m0,d0,rfl,-,k3,k4,h'⟩:=h'.open
 go_enter func78,ntmps78
 go_wp2_with fail
 refine (zDJ h oO).mono ?_
 rintro e w1 ⟨va,rfl,ha,b1⟩
 obtain ⟨A,n,c,rfl,za,pa,ia,ja,ha⟩:=ha.open
 go_wp2_with fail
 refine (zDJ (h'.below b1) oO).mono ?_
 rintro e w2 ⟨vb,rfl,hb,b2⟩
 obtain ⟨A',n',c',rfl,zb,pb,ib,jb,hb⟩:=hb.open
 have b02:=b1.trans (b2.mono b1.size)
 have ha2:=ha.below b2
 clear h h' ha b1 b2 k1 k2 k3 k4
 by_cases h0:a=0∨b=0
 ·have hg:Nat.gcd a b=a+b:=by
   rcases h0 with e|e
   ·rw [e];simp
   ·rw [e];simp
  have h00:n=0∨(0<n/\n'=0):=by
   rcases tY n with e|e
   ·exact .inl e
   ·refine .inr ⟨e,zb (h0.resolve_left fun e'=> ?_)⟩
    have:=za e';omega
  have HG:=hid hg
  clear za pa zb pb h0 hg
  have ad:=zQa (ha2.lv hla) (hb.lv hlb) oO 25
  have bS:Below w2.heap.size w2 (w2.alloc (.cells #[.slice A n c, .slice A' n' c'] 25)):=(tJ _ w2).alloc (tN _) _
  have HLA:=hid hla;have HLB:=hid hlb
  clear hla hlb
  rcases h00 with rfl|⟨e1,rfl⟩
  all_goals
   go_wp2_with fail
   refine ad.mono ?_
   rintro e w4 ⟨vs,rfl,hs,b4⟩
   go_wp2_with fail
   go_ret
   exact ⟨vs,rfl,by rw [HG.out];exact hs,b02.trans ((bS.trans (b4.mono bS.size)).mono b02.size)⟩
 ·have hn0:0<n:=pa oO
  have hn0':0<n':=pb oO
  have hnb:((n:Int)==0)=false:=by simp;omega
  have hnb':((n':Int)==0)=false:=by simp;omega
  obtain ⟨q,t,hz,ht,hq,hnm,htw⟩:=zIz ha2 hla hm oO
  obtain ⟨q',t',hz',ht',hq',hnm',htw'⟩:=zIz hb hlb hm oO
  have hgcd:=hz.gcd hz'
  have hbin:=Bin.start hz hz'
  have hG0:Nat.gcd (a / 2^(32*q+t)) (b / 2^(32*q'+t'))<BB^m:=zPj (tE (tM _ _) hla) (tE (tM _ _) hlb)
  obtain ⟨G,hG⟩: ∃G,Nat.gcd (a / 2^(32*q+t)) (b / 2^(32*q'+t'))=G:=⟨_,rfl⟩
  rw [hG] at hgcd hbin hG0
  obtain ⟨p,s,hs,hps,hpq⟩: ∃p s:Nat,s<=31/\p<=2000/\min (32*q+t) (32*q'+t')=32*p+s:=by
   rcases Nat.le_total (32*q+t) (32*q'+t') with e|e
   ·exact ⟨q,t,ht,by omega,by omega⟩
   ·exact ⟨q',t',ht',by omega,by omega⟩
  rw [hpq] at hgcd
  have hmin:min ((32*q+t:Nat):Int) ((32*q'+t':Nat):Int)=((32*p+s:Nat):Int):=by omega
  have HGC:=hid hgcd;have HBI:=hid hbin;have HG0:=hid hG0
  obtain ⟨k,hk⟩: ∃k,32*q+t=k:=⟨_,rfl⟩
  obtain ⟨k',hk'⟩: ∃k,32*q'+t'=k:=⟨_,rfl⟩
  rw [hk] at htw hmin
  rw [hk'] at htw' hmin
  obtain ⟨K,hK⟩: ∃K,32*p+s=K:=⟨_,rfl⟩
  rw [hK] at hmin
  have HK:=hid hK
  have hK2:K<=64500:=by omega
  have hk2:k<=64500:=by omega
  have hk2':k'<=64500:=by omega
  have HLA:=hid hla;have HLB:=hid hlb
  clear hgcd hbin hG0 hz hz' hG hpq hk hk' hK za pa zb pb hq hq' ht ht' hnm hnm' h0 hla hlb
  go_wp2_with fail
  refine htw.mono ?_
  rintro e w3 ⟨rfl,rfl⟩
  go_wp2_with fail
  refine htw'.mono ?_
  rintro e w3 ⟨rfl,rfl⟩
  go_wp2
  go_loopw [0,1] (RgI W m G) (fun u v wr=>rdv wr u+rdv wr v)
  case atStart=>exact ⟨A,n,c,A',n',c',a,b,rfl,rfl,ha2,hb,HLA.out,HLB.out,HBI.out,b02⟩
  case round=>
   clear ha2 hb b02 hn0 hn0' hnb hnb' htw htw' ia ja ib jb hmin
   obtain ⟨A1,n1,c1,A2,n2,c2,x,y,rfl,rfl,hx,hy,hxl,hyl,hbn,hB⟩:=hrel
   obtain ⟨_,_,_,e1,zx,px,ix,jx,_⟩:=hx.open
   cases e1
   obtain ⟨_,_,_,e1,zy,py,iy,jy,_⟩:=hy.open
   cases e1
   have hy0:=hbn.1
   have HBN:=hid hbn
   have HXL:=hid hxl;have HYL:=hid hyl
   rcases tY n1 with h0|h0
   ·have hx0:x=0:=by
     rcases tY x with e|e
     ·exact e
     ·have:=px e;omega
    have hyG:=hbn.2.1 hx0
    have HYG:=hid hyG
    have hup:=zTo (q:=p) (t:=s) (hy.lv hyl) hm hs hps
    rw [HK.out] at hup
    subst h0
    clear hbn hxl hyl hx0 hyG zx px zy py
    go_wp2_with fail
    refine hup.mono ?_
    rintro e w5 ⟨v5,rfl,hv5,hb5⟩
    go_wp2_with fail
    go_ret
    exact ⟨v5,rfl,by rw [HGC.out,HK.out, <-HYG.out,Nat.mul_comm];exact hv5,hB.trans (hb5.mono hB.size)⟩
   ·have hx0:0<x:=Nat.pos_of_ne_zero fun e=>by have:=zx e;omega
    obtain ⟨q1,t1,z1,ht1,hq1,hnm1,htw1⟩:=zIz hx hxl hm hx0
    have hd1:=zKS hx hxl hm ht1 hq1
    obtain ⟨o1,o2,o3⟩:=zPe z1
    obtain ⟨k1,hk1⟩: ∃k,32*q1+t1=k:=⟨_,rfl⟩
    have hk1l:k1<=64500:=by omega
    rw [hk1] at htw1 hd1 z1 o1 o2 o3
    have Z1:=hid z1
    obtain ⟨X,hX⟩: ∃X,x / 2^k1=X:=⟨_,rfl⟩
    have HX:=hid hX
    rw [hX] at hd1 o1 o2 o3
    clear z1 hX hk1 ht1 hq1 hnm1 hbn zx px zy py
    have HO1:=hid o1
    have hrx:=hx.rdv;have hry:=hy.rdv
    have HRX:=hid hrx;have HRY:=hid hry
    clear hrx hry o1
    go_wp2_with fail
    refine htw1.mono ?_
    rintro e w5 ⟨rfl,rfl⟩
    go_wp2_with fail
    refine hd1.mono ?_
    rintro e w6 ⟨v6,rfl,h6,b6⟩
    obtain ⟨A6,n6,c6,rfl,z6,p6,i6,j6,h6⟩:=h6.open
    have hy6:=hy.below b6
    obtain ⟨q2,t2,z2,ht2,hq2,hnm2,htw2⟩:=zIz hy6 hyl hm hy0
    have hd2:=zKS hy6 hyl hm ht2 hq2
    obtain ⟨o4,o5,o6⟩:=zPe z2
    obtain ⟨k2,hk2⟩: ∃k,32*q2+t2=k:=⟨_,rfl⟩
    have hk2l:k2<=64500:=by omega
    rw [hk2] at htw2 hd2 z2 o4 o5 o6
    have Z2:=hid z2
    obtain ⟨Y,hY⟩: ∃Y,y / 2^k2=Y:=⟨_,rfl⟩
    have HY:=hid hY
    rw [hY] at hd2 o4 o5 o6
    clear z2 hY hk2 ht2 hq2 hnm2 htw1 hd1 z6 p6
    have HO4:=hid o4
    clear o4
    go_wp2_with fail
    refine htw2.mono ?_
    rintro e w7 ⟨rfl,rfl⟩
    go_wp2_with fail
    refine hd2.mono ?_
    rintro e w8 ⟨v8,rfl,h8,b8⟩
    obtain ⟨A8,n8,c8,rfl,z8,p8,i8,j8,h8⟩:=h8.open
    have h68:=h6.below b8
    have b68:=b6.trans (b8.mono b6.size)
    have hB8:=hB.trans (b68.mono hB.size)
    have hXl:X<BB^m:=tE o2 HXL.out
    have hYl:Y<BB^m:=tE o5 HYL.out
    have hXY:Nat.gcd X Y=G:=by rw [<-HX.out, <-HY.out];exact HBN.out.2.2 _ _ Z1.out Z2.out
    have HXY:=hid hXY
    obtain ⟨cz,hcz⟩: ∃cz,zAB X Y=cz:=⟨_,rfl⟩
    have hc1:=zRM (h68.lv hXl) (h8.lv hYl)
    have hcl:cz<0↔X<Y:=by
     rw [<-hcz]
     unfold zAB
     split
     ·exact ⟨fun _=>by assumption,fun _=>by omega⟩
     ·split
      ·exact ⟨fun h=>by omega,fun h=>by omega⟩
      ·exact ⟨fun h=>by omega,fun h=>by omega⟩
    rw [hcz] at hc1
    clear htw2 hd2 z8 p8 h6 hy6 hx hy hXY hcz hxl hyl
    have HXl:=hid hXl;have HYl:=hid hYl
    clear hXl hYl
    rcases Nat.lt_or_ge X Y with hlt|hge
    ·have hcz:cz<0:=hcl.2 hlt
     have hsb:=zOZ (h8.lv HYl.out) (h68.lv HXl.out) hm (zVu hlt)
     have hbt:=Bin.turn (G:=G) HO4.out HO1.out (by rw [Nat.gcd_comm];exact HXY.out) (zVu hlt)
     have HBT:=hid hbt
     clear hbt hcl
     go_wp2_with fail
     refine hc1.mono ?_
     rintro e w9 ⟨rfl,rfl⟩
     go_wp2_with fail
     refine hsb.mono ?_
     rintro e w10 ⟨v10,rfl,h10,b10⟩
     obtain ⟨A10,n10,c10,rfl,z10,p10,i10,j10,h10⟩:=h10.open
     clear z10 p10
     go_wp2_with fail
     refine ⟨⟨A10,n10,c10,A6,n6,c6,Y - X,X,rfl,rfl,h10,h68.below b10,tE (Nat.sub_le _ _) HYl.out,HXl.out,HBT.out,hB8.trans (b10.mono hB8.size)⟩, ?_⟩
     show rdv _ _+rdv _ _<rdv _ _+rdv _ _
     rw [h10.rdv,(h68.below b10).rdv,HRX.out,HRY.out]
     omega
    ·have hcz: ¬cz<0:=fun e=>by have:=hcl.1 e;omega
     have hsb:=zOZ (h68.lv HXl.out) (h8.lv HYl.out) hm hge
     have hbt:=Bin.turn (G:=G) HO1.out HO4.out HXY.out hge
     have HBT:=hid hbt
     clear hbt hcl
     go_wp2_with fail
     refine hc1.mono ?_
     rintro e w9 ⟨rfl,rfl⟩
     go_wp2_with fail
     refine hsb.mono ?_
     rintro e w10 ⟨v10,rfl,h10,b10⟩
     obtain ⟨A10,n10,c10,rfl,z10,p10,i10,j10,h10⟩:=h10.open
     clear z10 p10
     go_wp2_with fail
     refine ⟨⟨A10,n10,c10,A8,n8,c8,X - Y,Y,rfl,rfl,h10,h8.below b10,tE (Nat.sub_le _ _) HXl.out,HYl.out,HBT.out,hB8.trans (b10.mono hB8.size)⟩, ?_⟩
     show rdv _ _+rdv _ _<rdv _ _+rdv _ _
     rw [h10.rdv,(h8.below b10).rdv,HRX.out,HRY.out]
     omega
theorem zRS {W:Wi} {u:Wj} (k:Int) (hu:u= .int .i64 k) (h: -9223372036854775808<=k/\k<=9223372036854775807):Calls prog 30 #[u] W (zGA W k):=by
 subst hu
 exact zRT k h
end Go.Proofs.Wd

namespace Go.Proofs.Wd
open Tryz
set_option maxRecDepth 100000
open Go.RowKit Lb
def zMg:Nat:=10000
theorem zSe {x:Nat} (h:x<18446744073709551616) (m:Nat) (hm:2<=m):x<BB^m:=tF h (tI (show 18446744073709551616<=BB^2 by decide) (tQ y8 hm))
theorem zGW {W:Wi} {m:Nat} {v:Wj} {x:Nat} (h:LV W m v x) (hm:m<=100000):Calls prog 76 #[v] W (Ret W (zAu (UF.eq (.int .u64 ((zL x:Nat):Int))) (fB (y4 x))).tS):=by
 obtain ⟨A,n,c,l,rfl,h1,h2,h3,rfl⟩:=h
 refine (zJA A n c l W h1 h2 oO).mono ?_
 rintro e w' ⟨rfl,hb⟩
 exact ⟨_,rfl,⟨_,_,rfl,rfl,rfl⟩,hb⟩
theorem zO2 {W:Wi} {v:Wj} (x:Nat) (hx:x<18446744073709551616) (hv:v= .int .u64 (x:Int)):Calls prog 54 #[v] W (Ret W (qW x).tS):=by
 subst hv
 exact (zHP x hx W).mono fun _ _ h=>jL.v h
theorem zAN (x:Nat):zL x<18446744073709551616:=by unfold zL;split<;>omega
theorem zLt {F:Fence} {m:Nat} {P:Program} {w0:Wi} {ops:Array Oper} {G:Nat->SF} {d:Tmp} {ty:Wk} {pos:String} {aft:Array Edge} {t:Wk} {x y:Operand} {t':Wk} (k:IntKind) (u v r:Int) (hx: ∀q W,(fct G x).p q W->q= .int k u) (hy: ∀q W,(fct G y).p q W->q= .int k v) (hv:v≠0) (hr:k.wrap (u.tdiv v)=r) (hd: ∀W,(G d).p (.int k r) W:=by exact fun _=>rfl):qP F m P w0 ops G ⟨some d, .binOp .quo t x y t',ty,pos,aft,none⟩:=
 zD0 (.int k u) (.int k v) (.int k r) hx hy (fun W=>by simp [eqGuard]) (fun W=>by simp [binOp,Op.intDiv,hv,hr]) hd
theorem zRl (u:Int) (r:Nat) (h:u=r) (hr:r<18446744073709551616):IntKind.u64.wrap u=r:=by
 subst h
 rw [IntKind.wrap_u64]
 omega
theorem zI0 {W:Wi} {v:Wj} {x:Nat} (h:qH W v x):Calls prog 29 #[v] W (Ret W (fNV (x:Int)).tS):=by
 refine z5 [(qW x).tS] func29 rfl kH ⟨h,trivial⟩ fun a s=> ?_
 refine tC ?_
 refine zB 0 [] hmix s kH
  zD fun a w1 s=> ?_
 refine zU (CU.len 2) (cs:= [.bool false, .slice none 0 0]) kH rfl s kH (fun W=>rfl) rfl fun b2 a w s=> ?_
 refine zA rfl ?_
 refine tC ?_
 refine zB 2 ((3, .Z (qW x))::(4, .u (fNV (x:Int))):: []) hmix s kH
  (oc zC<|oc (zCp (fun u W (hu:qH W u x)=>zMC hu))<|zD) fun a w2 s=> ?_
 refine zN (CU.agg (fNV (x:Int))) ((fNV (x:Int)).tS) rfl s kH rfl rfl rfl iiz iiz zF8 fun a w s=> ?_
 refine zA rfl ?_
 refine tD ?_
 exact wJ s (CU.agg (fNV (x:Int))) rfl kH rfl rfl (zPf _) (fun cs W h=>h)
theorem zB8 {W:Wi} {v:Wj} (z:Int) (hv:v= .int .i64 z) (hz: -9223372036854775808<=z/\z<=9223372036854775807):Calls prog 10 #[v] W (Ret W (fQN (z:Rat)).tS):=by
 refine z5 [(fI z).tS] func10 rfl kH ⟨hv,trivial⟩ fun a s=> ?_
 refine tC ?_
 refine zB 0 [] hmix s kH
  zD fun a w1 s=> ?_
 refine zU (CU.len 3) (cs:=zR3) kH rfl s kH (fun W=>rfl) rfl fun b2 a w s=> ?_
 refine zA rfl ?_
 refine tC ?_
 refine zB 4 ((3, .Z (uI z))::(4, .Z (fNV z))::(5, .Z (qW 1))::(6, .u (fQN (z:Rat))):: []) hmix s kH
  (oc zC<|oc (zH zE zUb (fun u0 W hb (h0:u0= .int .i64 z)=>zRS z h0 hz))<|oc (zAe (fun u W (hu:u= .int .u32 1)=>zOX hu))<|oc (yY (fun u v W (hu:NV W u z) (hv:qH W v 1)=>zHw (q:=(z:Rat)) hu hv))<|zD) fun a w2 s=> ?_
 refine zN (CU.agg (fQN (z:Rat))) ((fQN (z:Rat)).tS) rfl s kH rfl rfl rfl iiz iiz zV fun a w s=> ?_
 refine zA rfl ?_
 refine tD ?_
 exact wJ s (CU.agg (fQN (z:Rat))) rfl kH rfl rfl (yO _) (fun cs W h=>h)
theorem zD1 (k:Int) (d:Nat) (h:0<d):(if decide (k<0) then -((k.natAbs / Nat.gcd k.natAbs d:Nat):Int) else ((k.natAbs / Nat.gcd k.natAbs d:Nat):Int))=(mkRat k d).num:=by
 have h1:=zDq k d h
 have h2:=zB3 k d h
 rw [<-h1, <-h2]
 by_cases hs:(mkRat k d).num<0
 ·rw [tV hs,if_pos rfl]
  omega
 ·rw [tW hs,if_neg dA]
  omega
theorem zQd {W:Wi} {m:Nat} {v v':Wj} {k:Int} {d:Nat} (h:UV W m v k) (h':LV W m v' d) (hm:m<=2000) (hd:d=0):Calls prog 50 #[v,v'] W (Ret W (zAu (fQN (mkRat k d)) (fI 30)).tS):=by
 have bk:k.natAbs<BB^m:=h.bound
 have hz:true=decide (d=0):=(tV hd).symm
 have hq0:mkRat k d=((0:Int):Rat):=by rw [hd,zVy];rfl
 refine z5 [(fUV m k).tS,(fLV m d).tS] func50 rfl kH ⟨h,h',trivial⟩ fun a s=> ?_
 refine tC ?_
 refine zB 0 [] hmix s kH
  zD fun a w1 s=> ?_
 refine yN (CU.agg (fUV m k)) rfl s kH (fun v W h=>zIw h) fun b2 a w s=> ?_
 refine zU (CU.len 3) (cs:=zR3) kH rfl s kH (fun W=>rfl) rfl fun b4 a w s=> ?_
 refine yV (uI 0) rfl s kH iiz fun a w s=> ?_
 refine zA rfl ?_
 refine tC ?_
 refine tC ?_
 refine zB 4 ((18, .Z (fLV m d))::(19, .Z (qW d))::(20, .s (zPl d))::(21, .u (uB true)):: []) hmix s kH
  (oc zC<|oc (zH zE zOq (fun u0 W hb (h0:LV W m u0 d)=>(zDJ h0 oO)))<|oc (zDN kH iiz)<|oc (zDO hz)<|zD) fun a w2 s=> ?_
 refine zA rfl ?_
 refine StS.cond s true iiz (fun e=> ?_) (fun e=>by cases e)
 refine tC ?_
 replace s:=s.drop [5]
 refine zB 1 ((22, .u (fQN ((0:Int):Rat))):: []) hmix s kH
  (oc (zH zE zEa (fun u0 W hb (h0:u0= .int .i64 0)=>zB8 0 h0 dA))<|zD) fun a w3 s=> ?_
 refine zN (CU.agg (fQN ((0:Int):Rat))) ((fQN ((0:Int):Rat)).tS) rfl s kH rfl rfl rfl iiz iiz zV fun a w s=> ?_
 refine yV (uI 30) rfl s kH iiz fun a w s=> ?_
 refine zA rfl ?_
 refine tD ?_
 exact wQ s (CU.agg (fQN ((0:Int):Rat))) rfl kH rfl rfl (yO _) (fun cs v W h1 h2=>⟨_,_,rfl,by rw [hq0];exact h1,h2⟩)
theorem zK3 {W:Wi} {m:Nat} {v v':Wj} {k:Int} {d:Nat} (h:UV W m v k) (h':LV W m v' d) (hm:m<=2000) (hd0:0<d):Calls prog 50 #[v,v'] W (Ret W (zAu (fQN (mkRat k d)) (fI 0)).tS):=by
 have bk:k.natAbs<BB^m:=h.bound
 have hz:false=decide (d=0):=(tW oO).symm
 have hdiv: ∀W u0 u1 x,LV W m u0 x->qH W u1 (Nat.gcd k.natAbs d)->Calls prog 79 #[u0,u1] W (Ret W (zC2 (qW (x / (Nat.gcd k.natAbs d))) (qW (x % (Nat.gcd k.natAbs d))) (fI 0)).tS):=fun W u0 u1 x h1 h2=>by
  refine (zRL h1 (qH.lv (m:=m) h2 (tE (Nat.gcd_le_right _ hd0) h'.bound)) oO (zVP _ hd0)).mono ?_
  rintro e w' ⟨v1,v2,rfl,h3,h4,hb⟩
  exact ⟨_,rfl,⟨v1,v2,_,rfl,h3,h4,rfl⟩,hb⟩
 refine z5 [(fUV m k).tS,(fLV m d).tS] func50 rfl kH ⟨h,h',trivial⟩ fun a s=> ?_
 refine tC ?_
 refine zB 0 [] hmix s kH
  zD fun a w1 s=> ?_
 refine yN (CU.agg (fUV m k)) rfl s kH (fun v W h=>zIw h) fun b2 a w s=> ?_
 refine zU (CU.len 3) (cs:=zR3) kH rfl s kH (fun W=>rfl) rfl fun b4 a w s=> ?_
 refine yV (uI 0) rfl s kH iiz fun a w s=> ?_
 refine zA rfl ?_
 refine tC ?_
 refine tC ?_
 refine zB 4 ((18, .Z (fLV m d))::(19, .Z (qW d))::(20, .s (zPl d))::(21, .u (uB false)):: []) hmix s kH
  (oc zC<|oc (zH zE zOq (fun u0 W hb (h0:LV W m u0 d)=>(zDJ h0 oO)))<|oc (zDN kH iiz)<|oc (zDO hz)<|zD) fun a w2 s=> ?_
 refine zA rfl ?_
 refine StS.cond s false iiz (fun e=>by cases e) (fun e=> ?_)
 refine tH ?_
 refine tC ?_
 refine zB 2 ((23, .Z (fUV m k))::(24, .u (fNV k)):: []) hmix s kH
  (oc (zI (f:=fUV m k) 2 kH (hz:=zIv _ _))<|oc (zH zE zQ1 (fun u0 W hb (h0:UV W m u0 k)=>zFZ h0 oO))<|zD) fun a w3 s=> ?_
 refine zN (CU.agg (fNV k)) ((fNV k).tS) rfl s kH rfl rfl rfl (zIv _ _) iiz zF8 fun a w s=> ?_
 refine zA rfl ?_
 refine tC ?_
 refine zB 8 ((26, .X (fNV k) 1)::(27, .Z (qW ((k).natAbs)))::(28, .Z (zAu (UF.eq (.int .u64 ((zL ((k).natAbs):Nat):Int))) (uB (y4 ((k).natAbs)))))::(25, .Z (zAu (UF.eq (.int .u64 ((zL ((k).natAbs):Nat):Int))) (uB (y4 ((k).natAbs)))))::(29, .Z (UF.eq (.int .u64 ((zL ((k).natAbs):Nat):Int))))::(30, .Z (uB (y4 ((k).natAbs))))::(6, .u (UF.eq (.int .u64 ((zL ((k).natAbs):Nat):Int))))::(7, .u (uB (y4 ((k).natAbs)))):: []) hmix s kH
  (oc (zO (C:=cg (fNV k)) 1 kH)<|oc (jD (C:=cg (fNV k)) (k:=1) kH (h:=zG8))<|oc (zH zE zSv (fun u0 W hb (h0:qH W u0 ((k).natAbs))=>zGW (qH.lv (m:=m) h0 bk) oO))<|oc zC<|oc (zA1 (A:=(UF.eq (.int .u64 ((zL ((k).natAbs):Nat):Int))).tS) (B:=(uB (y4 ((k).natAbs))).tS) iiz)<|oc (zA0 (A:=(UF.eq (.int .u64 ((zL ((k).natAbs):Nat):Int))).tS) (B:=(uB (y4 ((k).natAbs))).tS) iiz)<|oc zG<|oc zG<|zD) fun a w4 s=> ?_
 refine zA rfl ?_
 refine tC ?_
 refine zB 7 ((32, .Z (fLV m d))::(33, .Z (zAu (UF.eq (.int .u64 ((zL d:Nat):Int))) (uB (y4 d))))::(31, .Z (zAu (UF.eq (.int .u64 ((zL d:Nat):Int))) (uB (y4 d))))::(34, .Z (UF.eq (.int .u64 ((zL d:Nat):Int))))::(35, .Z (uB (y4 d)))::(8, .u (UF.eq (.int .u64 ((zL d:Nat):Int))))::(9, .u (uB (y4 d))):: []) hmix s kH
  (oc zC<|oc (zH zE zSv (fun u0 W hb (h0:LV W m u0 d)=>zGW h0 oO))<|oc zC<|oc (zA1 (A:=(UF.eq (.int .u64 ((zL d:Nat):Int))).tS) (B:=(uB (y4 d)).tS) iiz)<|oc (zA0 (A:=(UF.eq (.int .u64 ((zL d:Nat):Int))).tS) (B:=(uB (y4 d)).tS) iiz)<|oc zG<|oc zG<|zD) fun a w5 s=> ?_
 refine zA rfl ?_
 refine tC ?_
 refine tC ?_
 refine zB 4 ((36, .Z (uB (y4 ((k).natAbs))))::(37, .Z (uB (y4 ((k).natAbs))))::(38, .s (SF.imp ((y4 ((k).natAbs))=true) ((uB (y4 d)).tS)))::(39, .u (uB ((y4 ((k).natAbs))&&(y4 d)))):: []) hmix s kH
  (oc zC<|oc zC<|oc (zF 37 (y4 ((k).natAbs)) kH iiz (fun e=>yG [] ((uB (y4 d)).tS) fnz (fun _ _ h _=>h) kH zC) fL)<|oc (yM (y4 ((k).natAbs)) iiz (fun e v W h=>zBJ (zT e h) e) (fun e v W h=>zBi h e))<|zD) fun a w6 s=> ?_
 refine zA rfl ?_
 refine StS.cond s ((y4 ((k).natAbs))&&(y4 d)) iiz (fun e=> ?_) (fun e=> ?_)
 ·rw [Bool.and_eq_true] at e
  have hs1:zL k.natAbs=k.natAbs:=by have:=e.1;unfold y4 at this;unfold zL;rw [if_pos (tP this)]
  have hs2:zL d=d:=by have:=e.2;unfold y4 at this;unfold zL;rw [if_pos (tP this)]
  have hg0:((Nat.gcd (zL k.natAbs) (zL d):Nat):Int)≠0:=by rw [hs1,hs2];have:=zVP k.natAbs hd0;omega
  have hden:(mkRat k d).den=zL d / (Nat.gcd (zL k.natAbs) (zL d)):=by rw [hs1,hs2];exact zCr k d hd0
  have hlt: ∀x,x<18446744073709551616->x<BB^zMg:=fun x hx=>zSe hx _ dA
  have hnum: ∀W u,UV W zMg u (if decide (k<0) then -(((zL k.natAbs / (Nat.gcd (zL k.natAbs) (zL d))):Nat):Int) else (((zL k.natAbs / (Nat.gcd (zL k.natAbs) (zL d))):Nat):Int))->Calls prog 49 #[u] W (zGA W (mkRat k d).num):=fun W u hu=>by
   have:=zFZ hu dA
   rw [hs1,hs2,zD1 k d hd0] at this
   exact this
  refine tC ?_
  refine zB 4 ((40, .Z (UF.eq (.int .u64 ((zL ((k).natAbs):Nat):Int))))::(41, .Z (UF.eq (.int .u64 ((zL d:Nat):Int))))::(42, .Z (UF.eq (.int .u64 ((Nat.gcd (zL k.natAbs) (zL d):Nat):Int))))::(10, .u (UF.eq (.int .u64 ((Nat.gcd (zL k.natAbs) (zL d):Nat):Int)))):: []) hmix s kH
   (oc zC<|oc zC<|oc (zJ zE zTS (fun u0 u1 W hb (h0:u0= .int .u64 ((zL ((k).natAbs):Nat):Int)) (h1:u1= .int .u64 ((zL d:Nat):Int))=>zK2 _ _ h0 h1 (zAN _) (zAN _)))<|oc zG<|zD) fun a w7 s=> ?_
  refine zA rfl ?_
  refine tC ?_
  replace s:=s.drop [5]
  refine yL [2,3,8,9] 13 ((43, .X (fNV k) 0)::(44, .Z (uB (decide (k<0))))::(45, .Z (UF.eq (.int .u64 ((zL ((k).natAbs):Nat):Int))))::(46, .Z (UF.eq (.int .u64 ((Nat.gcd (zL k.natAbs) (zL d):Nat):Int))))::(47, .Z (UF.eq (.int .u64 ((zL k.natAbs / (Nat.gcd (zL k.natAbs) (zL d)):Nat):Int))))::(48, .Z (qW (zL k.natAbs / (Nat.gcd (zL k.natAbs) (zL d)))))::(49, .Z (fUV zMg (if decide (k<0) then -((zL k.natAbs / (Nat.gcd (zL k.natAbs) (zL d)):Nat):Int) else ((zL k.natAbs / (Nat.gcd (zL k.natAbs) (zL d)):Nat):Int))))::(50, .Z (fNV ((mkRat k d).num)))::(51, .Z (UF.eq (.int .u64 ((zL d:Nat):Int))))::(52, .Z (UF.eq (.int .u64 ((Nat.gcd (zL k.natAbs) (zL d):Nat):Int))))::(53, .Z (UF.eq (.int .u64 ((zL d / (Nat.gcd (zL k.natAbs) (zL d)):Nat):Int))))::(54, .Z (qW (zL d / (Nat.gcd (zL k.natAbs) (zL d)))))::(55, .u (fQN (mkRat k d))):: []) hmix s kH
   (oc (zO (C:=cg (fNV k)) 0 kH)<|oc (jD (C:=cg (fNV k)) (k:=0) kH (h:=zLF))<|oc zC<|oc zC<|oc (zLt .u64 ((zL ((k).natAbs):Nat):Int) ((Nat.gcd (zL k.natAbs) (zL d):Nat):Int) ((zL k.natAbs / (Nat.gcd (zL k.natAbs) (zL d)):Nat):Int) iiz iiz hg0 (zRl _ _ (by rw [zVL oO,Int.natCast_ediv]) (tE (tM _ _) (zAN _))))<|oc (zH zE zSw (fun u0 W hb (h0:u0= .int .u64 ((zL k.natAbs / (Nat.gcd (zL k.natAbs) (zL d)):Nat):Int))=>zO2 _ (tE (tM _ _) (zAN _)) h0))<|oc (yY (fun u v W (hu:u= .bool (decide (k<0))) (hv:qH W v (zL k.natAbs / (Nat.gcd (zL k.natAbs) (zL d))))=>zOB hu hv (hlt _ (by first|exact tE (tM _ _) (zAN _)|exact hk64|exact tE (tM _ _) (tF bk (tQ y8 (tI hm dA)))))))<|oc (zH zE zQ1 (fun u0 W hb (h0:UV W zMg u0 (if decide (k<0) then -((zL k.natAbs / (Nat.gcd (zL k.natAbs) (zL d)):Nat):Int) else ((zL k.natAbs / (Nat.gcd (zL k.natAbs) (zL d)):Nat):Int)))=>hnum W u0 (h0:UV W zMg u0 _)))<|oc zC<|oc zC<|oc (zLt .u64 ((zL d:Nat):Int) ((Nat.gcd (zL k.natAbs) (zL d):Nat):Int) ((zL d / (Nat.gcd (zL k.natAbs) (zL d)):Nat):Int) iiz iiz hg0 (zRl _ _ (by rw [zVL oO,Int.natCast_ediv]) (tE (tM _ _) (zAN _))))<|oc (zH zE zSw (fun u0 W hb (h0:u0= .int .u64 ((zL d / (Nat.gcd (zL k.natAbs) (zL d)):Nat):Int))=>zO2 _ (tE (tM _ _) (zAN _)) h0))<|oc (yY (fun u v W (hu:NV W u ((mkRat k d).num)) (hv:qH W v (zL d / (Nat.gcd (zL k.natAbs) (zL d))))=>zHw (q:=mkRat k d) hu (by first|exact hv|(rw [hden];exact hv))))<|zD) fun Q' hQ a w8 s=> ?_
  refine zN (CU.agg (fQN (mkRat k d))) ((fQN (mkRat k d)).tS) rfl s kH rfl rfl rfl iiz iiz zV fun a w s=> ?_
  refine yV (uI 0) rfl s kH iiz fun a w s=> ?_
  refine zA rfl (hQ _ _ ?_)
  refine tD ?_
  exact wQ s (CU.agg (fQN (mkRat k d))) rfl kH rfl rfl (yO _) (fun cs v W h1 h2=>⟨_,_,rfl,h1,h2⟩)
 ·have hlt: ∀x,x<BB^zMg->x<BB^zMg:=fun x hx=>hx
  have hden:(mkRat k d).den=d / (Nat.gcd k.natAbs d):=zCr k d hd0
  have hnum: ∀W u,UV W zMg u (if decide (k<0) then -((((k).natAbs / (Nat.gcd k.natAbs d)):Nat):Int) else ((((k).natAbs / (Nat.gcd k.natAbs d)):Nat):Int))->Calls prog 49 #[u] W (zGA W (mkRat k d).num):=fun W u hu=>by
   have:=zFZ hu dA
   rw [zD1 k d hd0] at this
   exact this
  refine tH ?_
  refine tC ?_
  refine zB 5 ((56, .X (fNV k) 1)::(57, .Z (qW ((k).natAbs)))::(58, .Z (fLV m d))::(59, .Z (qW (Nat.gcd k.natAbs d)))::(11, .u (qW (Nat.gcd k.natAbs d))):: []) hmix s kH
   (oc (zO (C:=cg (fNV k)) 1 kH)<|oc (jD (C:=cg (fNV k)) (k:=1) kH (h:=zG8))<|oc zC<|oc (zJ zE zTR (fun u0 u1 W hb (h0:qH W u0 ((k).natAbs)) (h1:LV W m u1 d)=>zQm (qH.lv (m:=m) h0 bk) h1 oO))<|oc zG<|zD) fun a w9 s=> ?_
  refine zA rfl ?_
  refine tC ?_
  refine zB 11 ((61, .X (fNV k) 1)::(62, .Z (qW ((k).natAbs)))::(63, .Z (qW (Nat.gcd k.natAbs d)))::(64, .Z (zC2 (qW (((k).natAbs) / (Nat.gcd k.natAbs d))) (qW (((k).natAbs) % (Nat.gcd k.natAbs d))) (uI 0)))::(60, .Z (zC2 (qW (((k).natAbs) / (Nat.gcd k.natAbs d))) (qW (((k).natAbs) % (Nat.gcd k.natAbs d))) (uI 0)))::(65, .Z (qW (((k).natAbs) / (Nat.gcd k.natAbs d))))::(66, .Z (qW (((k).natAbs) % (Nat.gcd k.natAbs d))))::(67, .Z (uI 0))::(12, .u (qW (((k).natAbs) / (Nat.gcd k.natAbs d))))::(13, .Z (qW (((k).natAbs) % (Nat.gcd k.natAbs d))))::(14, .Z (uI 0)):: []) hmix s kH
   (oc (zO (C:=cg (fNV k)) 1 kH)<|oc (jD (C:=cg (fNV k)) (k:=1) kH (h:=zG8))<|oc zC<|oc (zJ zE zSu (fun u0 u1 W hb (h0:qH W u0 ((k).natAbs)) (h1:qH W u1 (Nat.gcd k.natAbs d))=>hdiv W u0 u1 _ (qH.lv (m:=m) h0 bk) h1))<|oc zC<|oc (zDm (A:=(qW (((k).natAbs) / (Nat.gcd k.natAbs d))).tS) (B:=(qW (((k).natAbs) % (Nat.gcd k.natAbs d))).tS) (C:=(uI 0).tS) iiz)<|oc (zDl (A:=(qW (((k).natAbs) / (Nat.gcd k.natAbs d))).tS) (B:=(qW (((k).natAbs) % (Nat.gcd k.natAbs d))).tS) (C:=(uI 0).tS) iiz)<|oc (zDk (A:=(qW (((k).natAbs) / (Nat.gcd k.natAbs d))).tS) (B:=(qW (((k).natAbs) % (Nat.gcd k.natAbs d))).tS) (C:=(uI 0).tS) iiz)<|oc zG<|oc zG<|oc zG<|zD) fun a w10 s=> ?_
  refine zA rfl ?_
  refine tC ?_
  refine zB 10 ((69, .Z (fLV m d))::(70, .Z (qW (Nat.gcd k.natAbs d)))::(71, .Z (zC2 (qW (d / (Nat.gcd k.natAbs d))) (qW (d % (Nat.gcd k.natAbs d))) (uI 0)))::(68, .Z (zC2 (qW (d / (Nat.gcd k.natAbs d))) (qW (d % (Nat.gcd k.natAbs d))) (uI 0)))::(72, .Z (qW (d / (Nat.gcd k.natAbs d))))::(73, .Z (qW (d % (Nat.gcd k.natAbs d))))::(74, .Z (uI 0))::(15, .u (qW (d / (Nat.gcd k.natAbs d))))::(16, .Z (qW (d % (Nat.gcd k.natAbs d))))::(17, .Z (uI 0)):: []) hmix s kH
   (oc zC<|oc zC<|oc (zJ zE zSu (fun u0 u1 W hb (h0:LV W m u0 d) (h1:qH W u1 (Nat.gcd k.natAbs d))=>hdiv W u0 u1 _ h0 h1))<|oc zC<|oc (zDm (A:=(qW (d / (Nat.gcd k.natAbs d))).tS) (B:=(qW (d % (Nat.gcd k.natAbs d))).tS) (C:=(uI 0).tS) iiz)<|oc (zDl (A:=(qW (d / (Nat.gcd k.natAbs d))).tS) (B:=(qW (d % (Nat.gcd k.natAbs d))).tS) (C:=(uI 0).tS) iiz)<|oc (zDk (A:=(qW (d / (Nat.gcd k.natAbs d))).tS) (B:=(qW (d % (Nat.gcd k.natAbs d))).tS) (C:=(uI 0).tS) iiz)<|oc zG<|oc zG<|oc zG<|zD) fun a w11 s=> ?_
  refine zA rfl ?_
  refine tC ?_
  replace s:=s.drop [5]
  refine zB 7 ((75, .X (fNV k) 0)::(76, .Z (uB (decide (k<0))))::(77, .Z (qW (((k).natAbs) / (Nat.gcd k.natAbs d))))::(78, .Z (fUV zMg (if decide (k<0) then -((((k).natAbs) / (Nat.gcd k.natAbs d):Nat):Int) else ((((k).natAbs) / (Nat.gcd k.natAbs d):Nat):Int))))::(79, .Z (fNV ((mkRat k d).num)))::(80, .Z (qW (d / (Nat.gcd k.natAbs d))))::(81, .u (fQN (mkRat k d))):: []) hmix s kH
   (oc (zO (C:=cg (fNV k)) 0 kH)<|oc (jD (C:=cg (fNV k)) (k:=0) kH (h:=zLF))<|oc zC<|oc (yY (fun u v W (hu:u= .bool (decide (k<0))) (hv:qH W v (((k).natAbs) / (Nat.gcd k.natAbs d)))=>zOB hu hv (hlt _ (by first|exact tE (tM _ _) (zAN _)|exact hk64|exact tE (tM _ _) (tF bk (tQ y8 (tI hm dA)))))))<|oc (zH zE zQ1 (fun u0 W hb (h0:UV W zMg u0 (if decide (k<0) then -((((k).natAbs) / (Nat.gcd k.natAbs d):Nat):Int) else ((((k).natAbs) / (Nat.gcd k.natAbs d):Nat):Int)))=>hnum W u0 (h0:UV W zMg u0 _)))<|oc zC<|oc (yY (fun u v W (hu:NV W u ((mkRat k d).num)) (hv:qH W v (d / (Nat.gcd k.natAbs d)))=>zHw (q:=mkRat k d) hu (by first|exact hv|(rw [hden];exact hv))))<|zD) fun a w12 s=> ?_
  refine zN (CU.agg (fQN (mkRat k d))) ((fQN (mkRat k d)).tS) rfl s kH rfl rfl rfl iiz iiz zV fun a w s=> ?_
  refine yV (uI 0) rfl s kH iiz fun a w s=> ?_
  refine zA rfl ?_
  refine tD ?_
  exact wQ s (CU.agg (fQN (mkRat k d))) rfl kH rfl rfl (yO _) (fun cs v W h1 h2=>⟨_,_,rfl,h1,h2⟩)
theorem zHV {W:Wi} {m:Nat} {v v':Wj} {k:Int} {d:Nat} (h:UV W m v k) (h':LV W m v' d) (hm:m<=2000):Calls prog 50 #[v,v'] W (Ret W (zAu (fQN (mkRat k d)) (fI (if d=0 then 30 else 0))).tS):=by
 by_cases hd:d=0
 ·rw [if_pos hd]
  exact zQd h h' hm hd
 ·rw [if_neg hd]
  exact zK3 h h' hm oO
end Go.Proofs.Wd

namespace Go.Proofs.Wd
open Tryz
set_option maxRecDepth 100000
open Go.RowKit Lb
theorem zND {W:Wi} {m:Nat} {v:Wj} {k:Int} {d:Nat} (h:QVp m k d v W) (hm:m<=2000):Calls prog 26 #[v] W (Ret W (fQN (mkRat k d)).tS):=by
 refine z5 [(fQV m k d).tS] func26 rfl kH ⟨h,trivial⟩ fun a s=> ?_
 refine tC ?_
 refine zB 0 [] hmix s kH
  zD fun a w1 s=> ?_
 refine yN (CU.agg (fQV m k d)) rfl s kH (fun v W h=>zDf h) fun b1 a w s=> ?_
 refine zU (CU.len 3) (cs:=zR3) kH rfl s kH (fun W=>rfl) rfl fun b2 a w s=> ?_
 refine zA rfl ?_
 refine tC ?_
 refine zB 8 ((6, .X (fQV m k d) 0)::(7, .Z (fUV m k))::(8, .X (fQV m k d) 2)::(9, .Z (fLV m d))::(10, .Z (zAu (fQN (mkRat k d)) (uI (if d=0 then 30 else 0))))::(5, .Z (zAu (fQN (mkRat k d)) (uI (if d=0 then 30 else 0))))::(11, .u (fQN (mkRat k d)))::(12, .u (uI (if d=0 then 30 else 0))):: []) hmix s kH
  (oc (zO (C:=cg (fQV m k d)) 0 kH)<|oc (yH (C:=cg (fQV m k d)) (k:=0) 2 kH (h:=zLb))<|oc (zO (C:=cg (fQV m k d)) 2 kH)<|oc (jD (C:=cg (fQV m k d)) (k:=2) kH (h:=zGX))<|oc (zJ zE zOl (fun u0 u1 W hb (h0:UV W m u0 k) (h1:LV W m u1 d)=>zHV h0 h1 hm))<|oc zC<|oc (zA1 (A:=(fQN (mkRat k d)).tS) (B:=(uI (if d=0 then 30 else 0)).tS) iiz)<|oc (zA0 (A:=(fQN (mkRat k d)).tS) (B:=(uI (if d=0 then 30 else 0)).tS) iiz)<|zD) fun a w2 s=> ?_
 refine zU (CU.len 3) (cs:=zR3) kH rfl s kH (fun W=>rfl) rfl fun b3 a w s=> ?_
 refine zN (CU.agg (fQN (mkRat k d))) ((fQN (mkRat k d)).tS) rfl s kH rfl rfl rfl iiz iiz zV fun a w s=> ?_
 refine yV (uI (if d=0 then 30 else 0)) rfl s kH iiz fun a w s=> ?_
 refine zA rfl ?_
 refine tC ?_
 refine zB 1 ((13, .u (fQN (mkRat k d))):: []) hmix s kH
  (oc (zI (f:=fQN (mkRat k d)) 3 kH (hz:=yO _))<|zD) fun a w3 s=> ?_
 refine zN (CU.agg (fQN (mkRat k d))) ((fQN (mkRat k d)).tS) rfl s kH rfl rfl rfl iiz iiz zV fun a w s=> ?_
 refine zA rfl ?_
 refine tD ?_
 exact wJ s (CU.agg (fQN (mkRat k d))) rfl kH rfl rfl (yO _) (fun cs W h=>h)
theorem zB0 {W:Wi} {m:Nat} {v:Wj} {q:Rat} (h:RVp m q v W) (hm:m<=2000):Calls prog 26 #[v] W (Ret W (fQN q).tS):=by
 obtain ⟨k,d,h1,rfl⟩:=h
 exact zND h1 hm
theorem zK1 (n:Int) (d:Nat) (hd:0<d):(mkRat n d).num.sign=n.sign:=by
 have h1:=decide_eq_decide.1 (zB3 n d hd)
 have h2:(mkRat n d).num=0↔n=0:=by rw [zVJ,Rat.mkRat_eq_zero oO]
 rcases Int.lt_trichotomy n 0 with h|h|h
 ·rw [zVQ h,zVQ (h1.2 h)]
 ·rw [h2.2 h,h]
 ·rw [zVM h,zVM (by have:=mt h1.1 oO;have:=mt h2.1 oO;omega)]
theorem zNB {W:Wi} {m:Nat} {v:Wj} {k:Int} {d:Nat} (h:QVp m k d v W) (hm:m<=2000) (hd:d=0):Calls prog 8 #[v] W (Ret W (fI 0).tS):=by
 have hz:true=decide (d=0):=(tV hd).symm
 refine z5 [(fQV m k d).tS] func8 rfl kH ⟨h,trivial⟩ fun a s=> ?_
 refine tC ?_
 refine zB 0 [] hmix s kH
  zD fun a w1 s=> ?_
 refine yN (CU.agg (fQV m k d)) rfl s kH (fun v W h=>zDf h) fun b1 a w s=> ?_
 refine yV (uI 0) rfl s kH iiz fun a w s=> ?_
 refine zA rfl ?_
 refine tC ?_
 refine tC ?_
 refine zB 5 ((3, .X (fQV m k d) 2)::(4, .Z (fLV m d))::(5, .Z (qW d))::(6, .s (zPl d))::(7, .u (uB true)):: []) hmix s kH
  (oc (zO (C:=cg (fQV m k d)) 2 kH)<|oc (jD (C:=cg (fQV m k d)) (k:=2) kH (h:=zGX))<|oc (zH zE zOq (fun u0 W hb (h0:LV W m u0 d)=>(zDJ h0 oO)))<|oc (zDN kH iiz)<|oc (zDO hz)<|zD) fun a w2 s=> ?_
 refine zA rfl ?_
 refine StS.cond s true iiz (fun e=> ?_) (fun e=>by cases e)
 refine tC ?_
 replace s:=s.drop [2]
 refine zB 1 ((2, .u (uI 0)):: []) hmix s kH
  (oc zG<|zD) fun a w3 s=> ?_
 refine zA rfl ?_
 refine tD ?_
 exact wH s (t:=2) rfl iiz
theorem zNC {W:Wi} {m:Nat} {v:Wj} {k:Int} {d:Nat} (h:QVp m k d v W) (hm:m<=2000) (hd:0<d):Calls prog 8 #[v] W (Ret W (fI k.sign).tS):=by
 have hz:false=decide (d=0):=(tW oO).symm
 refine z5 [(fQV m k d).tS] func8 rfl kH ⟨h,trivial⟩ fun a s=> ?_
 refine tC ?_
 refine zB 0 [] hmix s kH
  zD fun a w1 s=> ?_
 refine yN (CU.agg (fQV m k d)) rfl s kH (fun v W h=>zDf h) fun b1 a w s=> ?_
 refine yV (uI 0) rfl s kH iiz fun a w s=> ?_
 refine zA rfl ?_
 refine tC ?_
 refine tC ?_
 refine zB 5 ((3, .X (fQV m k d) 2)::(4, .Z (fLV m d))::(5, .Z (qW d))::(6, .s (zPl d))::(7, .u (uB false)):: []) hmix s kH
  (oc (zO (C:=cg (fQV m k d)) 2 kH)<|oc (jD (C:=cg (fQV m k d)) (k:=2) kH (h:=zGX))<|oc (zH zE zOq (fun u0 W hb (h0:LV W m u0 d)=>(zDJ h0 oO)))<|oc (zDN kH iiz)<|oc (zDO hz)<|zD) fun a w2 s=> ?_
 refine zA rfl ?_
 refine StS.cond s false iiz (fun e=>by cases e) (fun e=> ?_)
 refine tH ?_
 refine tC ?_
 replace s:=s.drop [2]
 refine zB 4 ((8, .X (fQV m k d) 0)::(9, .Z (fUV m k))::(10, .Z (uI (k.sign)))::(2, .u (uI (k.sign))):: []) hmix s kH
  (oc (zO (C:=cg (fQV m k d)) 0 kH)<|oc (yH (C:=cg (fQV m k d)) (k:=0) 2 kH (h:=zLb))<|oc (zH zE zSA (fun u0 W hb (h0:UV W m u0 k)=>zEx (zIS h0 oO)))<|oc zG<|zD) fun a w3 s=> ?_
 refine zA rfl ?_
 refine tD ?_
 exact wH s (t:=2) rfl iiz
theorem zFX {W:Wi} {m:Nat} {v:Wj} {q:Rat} (h:RVp m q v W) (hm:m<=2000):Calls prog 8 #[v] W (Ret W (fI q.num.sign).tS):=by
 obtain ⟨k,d,h1,rfl⟩:=h
 by_cases hd:d=0
 ·have:=zNB h1 hm hd
  rw [hd,zVy]
  exact this
 ·rw [zK1 k d oO]
  exact zNC h1 hm oO
theorem zQb {W:Wi} {m:Nat} {u v:Wj} {p q:Rat} (h:QNp p u W) (h':QNp q v W) (hp:QB p m) (hq:QB q m) (hm:m<=990):Calls prog 72 #[u,v] W (Ret W (fQN (p+q)).tS):=by
 have hnew: ∀W u0 u1,NV W u0 (((p).num*((q).den:Int))+((q).num*((p).den:Int)))->qH W u1 ((p).den*(q).den)->Calls prog 50 #[u0,u1] W (Ret W (zAu (fQN (p+q)) UF.any).tS):=fun W u0 u1 h0 h1=>by
  have:=zHV (m:=m+m+1) (h0.uv' (hp.num_add hq)) (h1.lv (tF (hp.den_mul hq) (tQ y8 oO))) oO
  rw [<-Rat.add_def' p q] at this
  exact this.mono fun e w' ⟨v,e1,⟨x,y,e2,h2,_⟩,hb⟩=>⟨v,e1,⟨x,y,e2,h2,trivial⟩,hb⟩
 refine z5 [(fQN p).tS,(fQN q).tS] func72 rfl kH ⟨h,h',trivial⟩ fun a s=> ?_
 refine tC ?_
 refine zB 0 [] hmix s kH
  zD fun a w1 s=> ?_
 refine yN (CU.agg (fQN p)) rfl s kH (fun v W h=>zO6 h) fun b2 a w s=> ?_
 refine yN (CU.agg (fQN q)) rfl s kH (fun v W h=>zO6 h) fun b3 a w s=> ?_
 refine zU (CU.len 3) (cs:=zR3) kH rfl s kH (fun W=>rfl) rfl fun b4 a w s=> ?_
 refine zA rfl ?_
 refine tC ?_
 have so:=s.old;have sg:=s.gr
 refine jT (fun i=> [24].contains i) [⟨25,5,29, [.bool false, .slice none 0 0, .slice none 0 0],wF w 29 (CU.len 3)⟩] 26 ((8, .X (fQN p) 0)::(9, .Z (fNV ((p).num)))::(10, .X (fQN q) 2)::(11, .Z (qW ((q).den)))::(12, .Z (fNV ((q).den:Int)))::(13, .s (zJh (m+m) [(p).num,((q).den:Int)]))::(14, .Z (fNV ((p).num*((q).den:Int))))::(15, .X (fQN q) 0)::(16, .Z (fNV ((q).num)))::(17, .X (fQN p) 2)::(18, .Z (qW ((p).den)))::(19, .Z (fNV ((p).den:Int)))::(20, .s (zJh (m+m) [(q).num,((p).den:Int)]))::(21, .Z (fNV ((q).num*((p).den:Int))))::(22, .s (zJh (m+m) [((p).num*((q).den:Int)),((q).num*((p).den:Int))]))::(23, .Z (fNV (((p).num*((q).den:Int))+((q).num*((p).den:Int)))))::(24, .X (fQN p) 2)::(25, .Z (qW ((p).den)))::(26, .X (fQN q) 2)::(27, .Z (qW ((q).den)))::(28, .Z (qW ((p).den*(q).den)))::(29, .Z (zAu (fQN (p+q)) (UF.any)))::(7, .Z (zAu (fQN (p+q)) (UF.any)))::(30, .u (fQN (p+q)))::(5, .s (wF w 29 (CU.len 3))):: []) hmix s (fmz ⟨⟨by show 25<26;decide, .tail _ (.tail _ (.tail _ (.tail _ (.tail _ (.tail _ (.tail _ (.tail _ (.tail _ zCQ)))))))),⟨_,_,_,rfl⟩,by kernel_rfl,qT (fun _=>rfl) rfl⟩,fnz⟩) kH
  (oc (zO (C:=cg (fQN p)) 0 kH)<|oc (yH (C:=cg (fQN p)) (k:=0) 2 kH (h:=zBh))<|oc (zO (C:=cg (fQN q)) 2 kH)<|oc (jD (C:=cg (fQN q)) (k:=2) kH (h:=zAP))<|oc (zH zE zOp (fun u0 W hb (h0:qH W u0 ((q).den))=>zI0 h0))<|oc (yI (fun u v W (hu:NV W u ((p).num)) (hv:NV W v ((q).den:Int))=>zAW (NV.uv' hu (Bd.mono (hp).1 (m':=(m+m)) (by first|omega|decide))) (NV.uv' hv (Bd.mono (jU hq.2) (m':=(m+m)) (by first|omega|decide)))))<|oc (zH zE zJ4 (fun u0 W hb (h0:ISV W (m+m) u0 [(p).num,((q).den:Int)])=>zDL h0 (by show (m+m)*2+(m+m)+1<=40000;omega) fM fM))<|oc (zO (C:=cg (fQN q)) 0 kH)<|oc (yH (C:=cg (fQN q)) (k:=0) 2 kH (h:=zBh))<|oc (zO (C:=cg (fQN p)) 2 kH)<|oc (jD (C:=cg (fQN p)) (k:=2) kH (h:=zAP))<|oc (zH zE zOp (fun u0 W hb (h0:qH W u0 ((p).den))=>zI0 h0))<|oc (yI (fun u v W (hu:NV W u ((q).num)) (hv:NV W v ((p).den:Int))=>zAW (NV.uv' hu (Bd.mono (hq).1 (m':=(m+m)) (by first|omega|decide))) (NV.uv' hv (Bd.mono (jU hp.2) (m':=(m+m)) (by first|omega|decide)))))<|oc (zH zE zJ4 (fun u0 W hb (h0:ISV W (m+m) u0 [(q).num,((p).den:Int)])=>zDL h0 (by show (m+m)*2+(m+m)+1<=40000;omega) fM fM))<|oc (yI (fun u v W (hu:NV W u ((p).num*((q).den:Int))) (hv:NV W v ((q).num*((p).den:Int)))=>zAW (NV.uv' hu (Bd.mul (hp).1 (jU hq.2))) (NV.uv' hv (Bd.mul (hq).1 (jU hp.2)))))<|oc (zH zE zT3 (fun u0 W hb (h0:ISV W (m+m) u0 [((p).num*((q).den:Int)),((q).num*((p).den:Int))])=>zQk h0 oO fM fM))<|oc (zO (C:=cg (fQN p)) 2 kH)<|oc (jD (C:=cg (fQN p)) (k:=2) kH (h:=zAP))<|oc (zO (C:=cg (fQN q)) 2 kH)<|oc (jD (C:=cg (fQN q)) (k:=2) kH (h:=zAP))<|oc (zJ zE zQ0 (fun u0 u1 W hb (h0:qH W u0 ((p).den)) (h1:qH W u1 ((q).den))=>zKP (qH.lv (m:=m) h0 hp.2) (qH.lv (m:=m) h1 hq.2) oO))<|oc (zJ zE zOl (fun u0 u1 W hb (h0:NV W u0 (((p).num*((q).den:Int))+((q).num*((p).den:Int)))) (h1:qH W u1 ((p).den*(q).den))=>hnew W u0 u1 h0 h1))<|oc zC<|oc (zA1 (A:=(fQN (p+q)).tS) (B:=(UF.any).tS) iiz)<|oc (zA0 (A:=(fQN (p+q)).tS) (B:=(UF.any).tS) iiz)<|oc (zAi (cs:=zR3) kH (qT (fun _=>rfl) rfl))<|zD) fun Q' hQ a w2 s hr hd=> ?_
 obtain ⟨b5,_,e5,s⟩:=s.adoptA false 5 (hr (_,_) (.tail _ (.tail _ (.tail _ (.tail _ (.tail _ (.tail _ (.tail _ (.tail _ (.tail _ zCQ)))))))))) sg (fun y hy=> .inl (so y hy))
 refine zN (CU.agg (fQN (p+q))) ((fQN (p+q)).tS) rfl s kH rfl rfl rfl iiz iiz zV fun a w s=> ?_
 refine yV UF.any rfl s kH (fun _ _ _=>trivial) fun a w s=> ?_
 refine zA rfl (hQ _ _ ?_)
 refine tC ?_
 refine zB 1 ((32, .u (fQN (p+q))):: []) hmix s kH
  (oc (zI (f:=fQN (p+q)) 3 kH (hz:=yO _))<|zD) fun a w3 s=> ?_
 refine zN (CU.agg (fQN (p+q))) ((fQN (p+q)).tS) rfl s kH rfl rfl rfl iiz iiz zV fun a w s=> ?_
 refine zA rfl ?_
 refine tD ?_
 exact wJ s (CU.agg (fQN (p+q))) rfl kH rfl rfl (yO _) (fun cs W h=>h)
theorem zQe {W:Wi} {m:Nat} {v:Wj} {q:Rat} (h:RVp m q v W) (hm:m<=990) (hm0:0<m):Calls prog 87 #[v] W (Ret W (fQN (-q)).tS):=by
 have hq:QB q m:=h.qb hm0
 refine z5 [(fRV m q).tS] func87 rfl kH ⟨h,trivial⟩ fun a s=> ?_
 refine tC ?_
 refine zB 0 [] hmix s kH
  zD fun a w1 s=> ?_
 refine yN (CU.agg (fRV m q)) rfl s kH (fun v W h=>zAc h) fun b1 a w s=> ?_
 refine zU (CU.len 3) (cs:=zR3) kH rfl s kH (fun W=>rfl) rfl fun b2 a w s=> ?_
 refine zA rfl ?_
 refine tC ?_
 refine zB 2 ((3, .Z (fRV m q))::(4, .u (fQN q)):: []) hmix s kH
  (oc (zI (f:=fRV m q) 3 kH (hz:=yW _ _))<|oc (zH zE zIm (fun u0 W hb (h0:RVp m q u0 W)=>zB0 h0 oO))<|zD) fun a w2 s=> ?_
 refine zN (CU.agg (fQN q)) ((fQN q).tS) rfl s kH rfl rfl rfl (yW _ _) iiz zV fun a w s=> ?_
 refine zA rfl ?_
 refine tC ?_
 refine yL [] 6 ((5, .X (fQN q) 0)::(6, .Z (fNV ((q).num)))::(7, .Z (fNV (-(q).num)))::(8, .X (fQN q) 2)::(9, .Z (qW ((q).den)))::(10, .u (fQN (-q))):: []) hmix s kH
  (oc (zO (C:=cg (fQN q)) 0 kH)<|oc (yH (C:=cg (fQN q)) (k:=0) 2 kH (h:=zBh))<|oc (zH zE zT2 (fun u0 W hb (h0:NV W u0 ((q).num))=>zQi (NV.uv' h0 (hq).1) oO))<|oc (zO (C:=cg (fQN q)) 2 kH)<|oc (jD (C:=cg (fQN q)) (k:=2) kH (h:=zAP))<|oc (yY (fun u v W (hu:NV W u (-(q).num)) (hv:qH W v ((q).den))=>zHw (q:= -q) hu hv))<|zD) fun Q' hQ a w3 s=> ?_
 refine zN (CU.agg (fQN (-q))) ((fQN (-q)).tS) rfl s kH rfl rfl rfl iiz iiz zV fun a w s=> ?_
 refine zA rfl (hQ _ _ ?_)
 refine tD ?_
 exact wJ s (CU.agg (fQN (-q))) rfl kH rfl rfl (yO _) (fun cs W h=>h)
theorem zCk {W:Wi} {m:Nat} {u v:Wj} {p q:Rat} (h:RVp m p u W) (h':RVp m q v W) (hm:m<=990) (hm0:0<m):Calls prog 9 #[u,v] W (Ret W (fI (qsg p q)).tS):=by
 have hp:QB p m:=h.qb hm0
 have hq:QB q m:=h'.qb hm0
 refine z5 [(fRV m p).tS,(fRV m q).tS] func9 rfl kH ⟨h,h',trivial⟩ fun a s=> ?_
 refine tC ?_
 refine zB 0 [] hmix s kH
  zD fun a w1 s=> ?_
 refine yN (CU.agg (fRV m p)) rfl s kH (fun v W h=>zAc h) fun b2 a w s=> ?_
 refine yN (CU.agg (fRV m q)) rfl s kH (fun v W h=>zAc h) fun b3 a w s=> ?_
 refine yV (uI 0) rfl s kH iiz fun a w s=> ?_
 refine zA rfl ?_
 refine tC ?_
 refine yL [] 4 ((5, .Z (fRV m p))::(6, .u (fQN p))::(7, .Z (fRV m q))::(8, .u (fQN q)):: []) hmix s kH
  (oc (zI (f:=fRV m p) 3 kH (hz:=yW _ _))<|oc (zH zE zIm (fun u0 W hb (h0:RVp m p u0 W)=>zB0 h0 oO))<|oc (zI (f:=fRV m q) 3 kH (hz:=yW _ _))<|oc (zH zE zIm (fun u0 W hb (h0:RVp m q u0 W)=>zB0 h0 oO))<|zD) fun Q' hQ a w2 s=> ?_
 refine zN (CU.agg (fQN p)) ((fQN p).tS) rfl s kH rfl rfl rfl (yW _ _) iiz zV fun a w s=> ?_
 refine zN (CU.agg (fQN q)) ((fQN q).tS) rfl s kH rfl rfl rfl (yW _ _) iiz zV fun a w s=> ?_
 refine zA rfl (hQ _ _ ?_)
 refine tC ?_
 replace s:=s.drop [4]
 refine zB 17 ((9, .X (fQN p) 0)::(10, .Z (fNV ((p).num)))::(11, .X (fQN q) 2)::(12, .Z (qW ((q).den)))::(13, .Z (fNV ((q).den:Int)))::(14, .s (zJh (m+m) [(p).num,((q).den:Int)]))::(15, .Z (fNV ((p).num*((q).den:Int))))::(16, .X (fQN q) 0)::(17, .Z (fNV ((q).num)))::(18, .X (fQN p) 2)::(19, .Z (qW ((p).den)))::(20, .Z (fNV ((p).den:Int)))::(21, .s (zJh (m+m) [(q).num,((p).den:Int)]))::(22, .Z (fNV ((q).num*((p).den:Int))))::(23, .Z (fNV (((p).num*((q).den:Int)) - ((q).num*((p).den:Int)))))::(24, .Z (uI (qsg p q)))::(4, .u (uI (qsg p q))):: []) hmix s kH
  (oc (zO (C:=cg (fQN p)) 0 kH)<|oc (yH (C:=cg (fQN p)) (k:=0) 2 kH (h:=zBh))<|oc (zO (C:=cg (fQN q)) 2 kH)<|oc (jD (C:=cg (fQN q)) (k:=2) kH (h:=zAP))<|oc (zH zE zOp (fun u0 W hb (h0:qH W u0 ((q).den))=>zI0 h0))<|oc (yI (fun u v W (hu:NV W u ((p).num)) (hv:NV W v ((q).den:Int))=>zAW (NV.uv' hu (Bd.mono (hp).1 (m':=(m+m)) (by first|omega|decide))) (NV.uv' hv (Bd.mono (jU hq.2) (m':=(m+m)) (by first|omega|decide)))))<|oc (zH zE zJ4 (fun u0 W hb (h0:ISV W (m+m) u0 [(p).num,((q).den:Int)])=>zDL h0 (by show (m+m)*2+(m+m)+1<=40000;omega) fM fM))<|oc (zO (C:=cg (fQN q)) 0 kH)<|oc (yH (C:=cg (fQN q)) (k:=0) 2 kH (h:=zBh))<|oc (zO (C:=cg (fQN p)) 2 kH)<|oc (jD (C:=cg (fQN p)) (k:=2) kH (h:=zAP))<|oc (zH zE zOp (fun u0 W hb (h0:qH W u0 ((p).den))=>zI0 h0))<|oc (yI (fun u v W (hu:NV W u ((q).num)) (hv:NV W v ((p).den:Int))=>zAW (NV.uv' hu (Bd.mono (hq).1 (m':=(m+m)) (by first|omega|decide))) (NV.uv' hv (Bd.mono (jU hp.2) (m':=(m+m)) (by first|omega|decide)))))<|oc (zH zE zJ4 (fun u0 W hb (h0:ISV W (m+m) u0 [(q).num,((p).den:Int)])=>zDL h0 (by show (m+m)*2+(m+m)+1<=40000;omega) fM fM))<|oc (zJ zE zUc (fun u0 u1 W hb (h0:NV W u0 ((p).num*((q).den:Int))) (h1:NV W u1 ((q).num*((p).den:Int)))=>zQh (NV.uv' h0 (Bd.mul (hp).1 (jU hq.2))) (NV.uv' h1 (Bd.mul (hq).1 (jU hp.2))) oO))<|oc (zH zE zSA (fun u0 W hb (h0:NV W u0 (((p).num*((q).den:Int)) - ((q).num*((p).den:Int))))=>zEx (zIS (NV.uv' h0 (Bd.sub (Bd.mul (hp).1 (jU hq.2)) (Bd.mul (hq).1 (jU hp.2)))) oO)))<|oc zG<|zD) fun a w3 s=> ?_
 refine zA rfl ?_
 refine tD ?_
 exact wH s (t:=4) rfl iiz
theorem zFY {W:Wi} {m:Nat} {u v:Wj} {p q:Rat} (h:RVp m p u W) (h':RVp m q v W) (hm:m<=990) (hm0:0<m):Calls prog 18 #[u,v] W (Ret W (fB (qsg p q==0)).tS):=by
 refine z5 [(fRV m p).tS,(fRV m q).tS] func18 rfl kH ⟨h,h',trivial⟩ fun a s=> ?_
 refine tC ?_
 refine zB 0 [] hmix s kH
  zD fun a w1 s=> ?_
 refine yN (CU.agg (fRV m p)) rfl s kH (fun v W h=>zAc h) fun b2 a w s=> ?_
 refine yN (CU.agg (fRV m q)) rfl s kH (fun v W h=>zAc h) fun b3 a w s=> ?_
 refine yV (uB false) rfl s kH iiz fun a w s=> ?_
 refine zA rfl ?_
 refine tC ?_
 replace s:=s.drop [4]
 refine zB 5 ((5, .Z (fRV m p))::(6, .Z (fRV m q))::(7, .Z (uI (qsg p q)))::(8, .Z (uB ((qsg p q)==0)))::(4, .u (uB ((qsg p q)==0))):: []) hmix s kH
  (oc (zI (f:=fRV m p) 3 kH (hz:=yW _ _))<|oc (zI (f:=fRV m q) 3 kH (hz:=yW _ _))<|oc (zJ zE zPn (fun u0 u1 W hb (h0:RVp m p u0 W) (h1:RVp m q u1 W)=>zCk h0 h1 hm hm0))<|oc (zR .i64 (qsg p q) 0 ((qsg p q)==0) iiz iiz rfl rfl)<|oc zG<|zD) fun a w2 s=> ?_
 refine zA rfl ?_
 refine tD ?_
 exact wH s (t:=4) rfl iiz
theorem zQc {W:Wi} {m:Nat} {u v:Wj} {p q:Rat} (h:RVp m p u W) (h':RVp m q v W) (hm:m<=990) (hm0:0<m):Calls prog 43 #[u,v] W (Ret W (zAu (fQN (p / q)) (fI (if q=0 then 30 else 0))).tS):=by
 have hp:QB p m:=h.qb hm0
 have hq:QB q m:=h'.qb hm0
 have bk2:Bd (if decide ((q).num<0) then -((q).den:Int) else ((q).den:Int)) m:=by split;exact (jU hq.2).neg;exact jU hq.2
 have hval:mkRat ((p).num*(if decide ((q).num<0) then -((q).den:Int) else ((q).den:Int))) ((p).den*(q).num.natAbs)=p / q:=zKV p q
 have herr:((p).den*(q).num.natAbs=0)=(q=0):=by rw [Nat.mul_eq_zero,Int.natAbs_eq_zero,zVJ];have:=p.den_pos;simp;omega
 have hnew: ∀W u0 u1,NV W u0 ((p).num*(if decide ((q).num<0) then -((q).den:Int) else ((q).den:Int)))->qH W u1 ((p).den*(q).num.natAbs)->Calls prog 50 #[u0,u1] W (Ret W (zAu (fQN (p / q)) (fI (if q=0 then 30 else 0))).tS):=fun W u0 u1 h0 h1=>by
  have:=zHV (m:=m+m) (h0.uv' (Bd.mul hp.1 bk2)) (h1.lv (zCI hp.2 hq.1)) oO
  simp only [hval,herr] at this
  exact this
 refine z5 [(fRV m p).tS,(fRV m q).tS] func43 rfl kH ⟨h,h',trivial⟩ fun a s=> ?_
 refine tC ?_
 refine zB 0 [] hmix s kH
  zD fun a w1 s=> ?_
 refine yN (CU.agg (fRV m p)) rfl s kH (fun v W h=>zAc h) fun b2 a w s=> ?_
 refine yN (CU.agg (fRV m q)) rfl s kH (fun v W h=>zAc h) fun b3 a w s=> ?_
 refine zU (CU.len 3) (cs:=zR3) kH rfl s kH (fun W=>rfl) rfl fun b4 a w s=> ?_
 refine yV (uI 0) rfl s kH iiz fun a w s=> ?_
 refine zA rfl ?_
 refine tC ?_
 refine yL [] 4 ((6, .Z (fRV m p))::(7, .u (fQN p))::(8, .Z (fRV m q))::(9, .u (fQN q)):: []) hmix s kH
  (oc (zI (f:=fRV m p) 3 kH (hz:=yW _ _))<|oc (zH zE zIm (fun u0 W hb (h0:RVp m p u0 W)=>zB0 h0 oO))<|oc (zI (f:=fRV m q) 3 kH (hz:=yW _ _))<|oc (zH zE zIm (fun u0 W hb (h0:RVp m q u0 W)=>zB0 h0 oO))<|zD) fun Q' hQ a w2 s=> ?_
 refine zN (CU.agg (fQN p)) ((fQN p).tS) rfl s kH rfl rfl rfl (yW _ _) iiz zV fun a w s=> ?_
 refine zN (CU.agg (fQN q)) ((fQN q).tS) rfl s kH rfl rfl rfl (yW _ _) iiz zV fun a w s=> ?_
 refine zA rfl (hQ _ _ ?_)
 refine tC ?_
 replace s:=s.drop [5]
 refine yL [] 19 ((10, .X (fQN p) 0)::(11, .Z (fNV ((p).num)))::(12, .X (fQN q) 0)::(13, .X (fQN q) 0)::(14, .Z (uB (decide ((q).num<0))))::(15, .X (fQN q) 2)::(16, .Z (qW ((q).den)))::(17, .Z (fUV m (if decide ((q).num<0) then -((q).den:Int) else ((q).den:Int))))::(18, .s (zJh (m+m) [(p).num,(if decide ((q).num<0) then -((q).den:Int) else ((q).den:Int))]))::(19, .Z (fNV ((p).num*(if decide ((q).num<0) then -((q).den:Int) else ((q).den:Int)))))::(20, .X (fQN p) 2)::(21, .Z (qW ((p).den)))::(22, .X (fQN q) 0)::(23, .X (fQN q) 1)::(24, .Z (qW ((q).num.natAbs)))::(25, .Z (qW ((p).den*(q).num.natAbs)))::(26, .Z (zAu (fQN (p / q)) (uI (if q=0 then 30 else 0))))::(27, .u (fQN (p / q)))::(28, .u (uI (if q=0 then 30 else 0))):: []) hmix s kH
  (oc (zO (C:=cg (fQN p)) 0 kH)<|oc (yH (C:=cg (fQN p)) (k:=0) 2 kH (h:=zBh))<|oc (zO (C:=cg (fQN q)) 0 kH)<|oc (yZ (C:=cg (fQN q)) 0 0 kH)<|oc (jD (C:=cg (fQN q)) (k:=0) kH (h:=zO5))<|oc (zO (C:=cg (fQN q)) 2 kH)<|oc (jD (C:=cg (fQN q)) (k:=2) kH (h:=zAP))<|oc (yY (fun u v W (hu:u= .bool (decide ((q).num<0))) (hv:qH W v ((q).den))=>zOB hu hv hq.2))<|oc (yI (fun u v W (hu:NV W u ((p).num)) (hv:UV W m v (if decide ((q).num<0) then -((q).den:Int) else ((q).den:Int)))=>zAW (NV.uv' hu (Bd.mono (hp).1 (m':=(m+m)) (by first|omega|decide))) (UV.mono hv (m':=(m+m)) (by first|omega|decide))))<|oc (zH zE zJ4 (fun u0 W hb (h0:ISV W (m+m) u0 [(p).num,(if decide ((q).num<0) then -((q).den:Int) else ((q).den:Int))])=>zDL h0 (by show (m+m)*2+(m+m)+1<=40000;omega) fM fM))<|oc (zO (C:=cg (fQN p)) 2 kH)<|oc (jD (C:=cg (fQN p)) (k:=2) kH (h:=zAP))<|oc (zO (C:=cg (fQN q)) 0 kH)<|oc (yZ (C:=cg (fQN q)) 0 1 kH)<|oc (jD (C:=cg (fQN q)) (k:=1) kH (h:=zO7))<|oc (zJ zE zQ0 (fun u0 u1 W hb (h0:qH W u0 ((p).den)) (h1:qH W u1 ((q).num.natAbs))=>zKP (qH.lv (m:=m) h0 hp.2) (qH.lv (m:=m) h1 hq.1) oO))<|oc (zJ zE zOl (fun u0 u1 W hb (h0:NV W u0 ((p).num*(if decide ((q).num<0) then -((q).den:Int) else ((q).den:Int)))) (h1:qH W u1 ((p).den*(q).num.natAbs))=>hnew W u0 u1 h0 h1))<|oc (zA1 (A:=(fQN (p / q)).tS) (B:=(uI (if q=0 then 30 else 0)).tS) iiz)<|oc (zA0 (A:=(fQN (p / q)).tS) (B:=(uI (if q=0 then 30 else 0)).tS) iiz)<|zD) fun Q' hQ a w3 s=> ?_
 refine zN (CU.agg (fQN (p / q))) ((fQN (p / q)).tS) rfl s kH rfl rfl rfl iiz iiz zV fun a w s=> ?_
 refine yV (uI (if q=0 then 30 else 0)) rfl s kH iiz fun a w s=> ?_
 refine zA rfl (hQ _ _ ?_)
 refine tD ?_
 exact wQ s (CU.agg (fQN (p / q))) rfl kH rfl rfl (yO _) (fun cs v W h1 h2=>⟨_,_,rfl,h1,h2⟩)
end Go.Proofs.Wd

namespace Go.Proofs.Wd
open Tryz
set_option maxRecDepth 100000
open Go.RowKit Lb
theorem zLN {W:Wi} {b o:Nat} {cs ds:List Wj} (k:Nat) (h:Mem W b o cs) (hd: ∀j u,ds[j]?=some u->cs[k+j]?=some u):Mem W b (o+k) ds:=fun j u hj=>by
 have:=h (k+j) u (hd j u hj)
 rwa [<-Nat.add_assoc] at this
abbrev rvs (m:Nat) (qs:List Rat):List CU:=qs.map fun q=>CU.agg (fRV m q)
theorem zKG {m:Nat} {qs:List Rat} {k:Nat} (h:k<qs.length):(rvs m qs)[k]?=some (CU.agg (fRV m (qAt qs k))):=by
 rw [List.getElem?_map,zGj h]
 simp [qAt,h]
theorem zLh {qs:List Rat} {k:Nat} (h:k<qs.length):qAt qs k∈qs:=by
 simp [qAt,h]
theorem zIN {m:Nat} {q:Rat} {v:Wj} {W:Wi} (h:RVp m q v W): ∃s A n c D i j,v= .agg #[.bool s, .slice A n c, .slice D i j]:=by
 obtain ⟨k,d,h1,_⟩:=h
 exact zCl h1
theorem zDX {u v:Wj} {W:Wi} {m:Nat} {p q:Rat} (hu:RVp m p u W) (hv:RVp m q v W): ∃e cs,yD prog 54 2 [(0,u),(1,v)]=some (e,cs)/\(SF.row 3 (rvs m [p,q])).p (.slice (some ⟨W.heap.size,0,none⟩) 2 2) (W.alloc (.cells cs e)):=by
 obtain ⟨s,A,n,c,D,i,j,rfl⟩:=zIN hu
 obtain ⟨s',A',n',c',D',i',j',rfl⟩:=zIN hv
 refine ⟨_,_,zOY s s' A A' D D' n n' c c' i i' j j',some ⟨W.heap.size,0,none⟩,2,rfl,tN _,by decide,fun e=>(by cases e),fun x C hx=> ?_⟩
 have hb:=zB7 W (.cells #[.bool s, .slice A n c, .slice D i j, .bool s', .slice A' n' c', .slice D' i' j'] 29)
 have hm:=zBf W #[.bool s, .slice A n c, .slice D i j, .bool s', .slice A' n' c', .slice D' i' j'] 29
 rcases (by have:=(zVw.1 hx).1;simp at this;omega:x=0∨x=1) with rfl|rfl
 ·obtain rfl:CU.agg (fRV m p)=C:=by simpa using hx
  exact ⟨W.heap.size,0, [.bool s, .slice A n c, .slice D i j],rfl,zLN 0 hm (fun j u hj=>by match j with|0=>exact hj|1=>exact hj|2=>exact hj|j+3=>simp at hj),(fRV m p).tS.st _ _ _ hu hb⟩
 ·obtain rfl:CU.agg (fRV m q)=C:=by simpa using hx
  exact ⟨W.heap.size,0, [.bool s', .slice A' n' c', .slice D' i' j'],rfl,zLN 3 hm (fun j u hj=>by match j with|0=>exact hj|1=>exact hj|2=>exact hj|j+3=>simp at hj),(fRV m q).tS.st _ _ _ hv hb⟩
theorem zQg {W:Wi} {m:Nat} {v:Wj} {qs:List Rat} (M:Nat) (h:(SF.row 3 (rvs m qs)).p v W) (_hm0:0<m) (hmM:m<=M) (hM:M<=990) (hl:qs.length<=1000000) (hq: ∀q,q∈qs->QB q m) (hp: ∀k,k<qs.length->QB (zC4 qs k) M):Calls prog 44 #[v] W (Ret W (fQN (zC4 qs qs.length)).tS):=by
 refine z5 [SF.row 3 (rvs m qs)] func44 rfl kH ⟨h,trivial⟩ fun a s=> ?_
 refine tC ?_
 refine zB 0 [] hmix s kH
  zD fun a w1 s=> ?_
 refine zU (CU.len 3) (cs:=zR3) kH rfl s kH (fun W=>rfl) rfl fun b2 a w s=> ?_
 refine zA rfl ?_
 refine tC ?_
 refine zB 1 ((5, .u (fQN ((0:Int):Rat))):: []) hmix s kH
  (oc (zH zE zEa (fun u0 W hb (h0:u0= .int .i64 0)=>zB8 0 h0 dA))<|zD) fun a w2 s=> ?_
 refine zU (CU.len 3) (cs:=zR3) kH rfl s kH (fun W=>rfl) rfl fun b3 a w s=> ?_
 refine zN (CU.agg (fQN ((0:Int):Rat))) ((fQN ((0:Int):Rat)).tS) rfl s kH rfl rfl rfl iiz iiz zV fun a w s=> ?_
 refine zA rfl ?_
 refine tC ?_
 refine tC ?_
 refine zB 1 ((4, .u (uI 0)):: []) hmix s kH
  (oc zG<|zD) fun a w3 s=> ?_
 refine zA rfl ?_
 refine tG ?_
 refine zDa 3 (fun p=>CU.agg (fQN (zC4 qs p))) (fun p=>p<=qs.length) (fun p=> [(0, .o (SF.row 3 (rvs m qs))),(4, .u (fI ((p:Nat):Int)))]) (fun p=>qs.length - p) (0:Nat) (tK _) (s.keepK _ (fmz ⟨mz2,fmz ⟨.head _,fnz⟩⟩)) rfl fun p a w hx s=> ?_
 refine tC ?_
 refine tC ?_
 refine zB 4 ((6, .Z (fI (p:Int)))::(7, .s (SF.row 3 (rvs m qs)))::(8, .Z (uI ((rvs m qs).length:Int)))::(9, .u (uB (decide ((p:Int)<((rvs m qs).length:Int))))):: []) hmix s kH
  (oc zC<|oc zC<|oc (zBk (z:=3) (Cs:=rvs m qs) kH iiz (fun _=>rfl))<|oc (zR .i64 (p:Int) ((rvs m qs).length:Int) (decide ((p:Int)<((rvs m qs).length:Int))) iiz iiz rfl rfl)<|zD) fun a w4 s=> ?_
 refine zA rfl ?_
 refine StS.cond s (decide ((p:Int)<((rvs m qs).length:Int))) iiz (fun e=> ?_) (fun e=> ?_)
 ·have hk1:p+1<=qs.length:=by have:=tP e;rw [tU] at this;omega
  have hx2:=zKG (m:=m) (k:=p) hk1
  have hqp:=hq _ (zLh (k:=p) hk1)
  refine tH ?_
  refine tC ?_
  refine tG ?_
  refine yL [1,2] 7 ((12, .Z (fQN (zC4 qs p)))::(13, .s (SF.row 3 (rvs m qs)))::(14, .Z (fI (p:Int)))::(15, .Y (fRV m (qAt qs p)))::(16, .Z (fRV m (qAt qs p)))::(17, .Z (fQN (qAt qs p)))::(18, .u (fQN (zC4 qs p+qAt qs p))):: []) hmix s kH
   (oc (zI (f:=fQN (zC4 qs p)) 3 kH (hz:=yO _))<|oc zC<|oc zC<|oc (zAZ (z:=3) (Cs:=rvs m qs) (i:=p) (C:=CU.agg (fRV m (qAt qs p))) kH hx2 iiz iiz)<|oc (zI (f:=fRV m (qAt qs p)) 3 kH (hz:=yW _ _))<|oc (zH zE zIm (fun u0 W hb (h0:RVp m (qAt qs p) u0 W)=>zB0 h0 oO))<|oc (zJ zE zTT (fun u0 u1 W hb (h0:QNp (zC4 qs p) u0 W) (h1:QNp (qAt qs p) u1 W)=>zQb h0 h1 (hp p hk1) (hqp.mono oO) oO))<|zD) fun Q' hQ a w5 s=> ?_
  refine zN (CU.agg (fQN (zC4 qs p+qAt qs p))) ((fQN (zC4 qs p+qAt qs p)).tS) rfl s kH rfl rfl rfl (yO _) iiz zV fun a w s=> ?_
  refine zA rfl (hQ _ _ ?_)
  refine zZ 2 ((10, .Z (fI (p:Int)))::(11, .u (fI ((p+1:Nat):Int))):: []) s kH
   (oc zC<|oc (yR .i64 (p:Int) 1 ((p+1:Nat):Int) iiz iiz (wrap64 _ _ oO oO))<|zD) fun a w6 s=> ?_
  replace s:=s.drop [4]
  refine yV (fI ((p+1:Nat):Int)) rfl s kH iiz fun a w s=> ?_
  refine zA rfl ?_
  exact ⟨p+1,hk1,(by show qs.length - (p+1)<qs.length - p;omega),s.keepK _ (fmz ⟨mz4,fmz ⟨.head _,fnz⟩⟩)⟩
 ·have hk1:p=qs.length:=by have:=tO e;rw [tU] at this;omega
  refine tR ?_
  refine tC ?_
  refine zB 1 ((19, .u (fQN (zC4 qs p))):: []) hmix s kH
   (oc (zI (f:=fQN (zC4 qs p)) 3 kH (hz:=yO _))<|zD) fun a w7 s=> ?_
  refine zN (CU.agg (fQN (zC4 qs p))) ((fQN (zC4 qs p)).tS) rfl s kH rfl rfl rfl iiz iiz zV fun a w s=> ?_
  refine zA rfl ?_
  refine tD ?_
  exact wJ s (CU.agg (fQN (zC4 qs p))) rfl kH rfl rfl (yO _) (fun cs W h=>by rw [hk1] at h;exact h)
theorem zQf {W:Wi} {m:Nat} {v:Wj} {qs:List Rat} (M:Nat) (h:(SF.row 3 (rvs m qs)).p v W) (_hm0:0<m) (hmM:m<=M) (hM:M<=990) (hl:qs.length<=1000000) (hq: ∀q,q∈qs->QB q m) (hp: ∀k,k<qs.length->QB (q7 qs k) M):Calls prog 59 #[v] W (Ret W (fQN (q7 qs qs.length)).tS):=by
 refine z5 [SF.row 3 (rvs m qs)] func59 rfl kH ⟨h,trivial⟩ fun a s=> ?_
 refine tC ?_
 refine zB 0 [] hmix s kH
  zD fun a w1 s=> ?_
 refine zU (CU.len 3) (cs:=zR3) kH rfl s kH (fun W=>rfl) rfl fun b2 a w s=> ?_
 refine zA rfl ?_
 refine tC ?_
 refine zB 1 ((6, .u (fQN ((1:Int):Rat))):: []) hmix s kH
  (oc (zH zE zEa (fun u0 W hb (h0:u0= .int .i64 1)=>zB8 1 h0 dA))<|zD) fun a w2 s=> ?_
 refine zU (CU.len 3) (cs:=zR3) kH rfl s kH (fun W=>rfl) rfl fun b3 a w s=> ?_
 refine zN (CU.agg (fQN ((1:Int):Rat))) ((fQN ((1:Int):Rat)).tS) rfl s kH rfl rfl rfl iiz iiz zV fun a w s=> ?_
 refine zA rfl ?_
 refine tC ?_
 refine tC ?_
 refine zB 1 ((4, .u (uI 0)):: []) hmix s kH
  (oc zG<|zD) fun a w3 s=> ?_
 refine zA rfl ?_
 refine tG ?_
 refine zDa 3 (fun p=>CU.agg (fQN (q7 qs p))) (fun p=>p<=qs.length) (fun p=> [(0, .o (SF.row 3 (rvs m qs))),(4, .u (fI ((p:Nat):Int)))]) (fun p=>qs.length - p) (0:Nat) (tK _) (s.keepK _ (fmz ⟨mz2,fmz ⟨.head _,fnz⟩⟩)) rfl fun p a w hx s=> ?_
 refine tC ?_
 refine tC ?_
 refine zB 4 ((7, .Z (fI (p:Int)))::(8, .s (SF.row 3 (rvs m qs)))::(9, .Z (uI ((rvs m qs).length:Int)))::(10, .u (uB (decide ((p:Int)<((rvs m qs).length:Int))))):: []) hmix s kH
  (oc zC<|oc zC<|oc (zBk (z:=3) (Cs:=rvs m qs) kH iiz (fun _=>rfl))<|oc (zR .i64 (p:Int) ((rvs m qs).length:Int) (decide ((p:Int)<((rvs m qs).length:Int))) iiz iiz rfl rfl)<|zD) fun a w4 s=> ?_
 refine zA rfl ?_
 refine StS.cond s (decide ((p:Int)<((rvs m qs).length:Int))) iiz (fun e=> ?_) (fun e=> ?_)
 ·have hk1:p+1<=qs.length:=by have:=tP e;rw [tU] at this;omega
  have hx2:=zKG (m:=m) (k:=p) hk1
  have hqp:=hq _ (zLh (k:=p) hk1)
  have hnew: ∀W u0 u1,NV W u0 ((q7 qs p).num*(qAt qs p).num)->qH W u1 ((q7 qs p).den*(qAt qs p).den)->Calls prog 50 #[u0,u1] W (Ret W (zAu (fQN (q7 qs p*qAt qs p)) (fI 0)).tS):=fun W u0 u1 h0 h1=>by
   have:=zK3 (m:=M+m) (h0.uv' (Bd.mul (hp p hk1).1 hqp.1)) (h1.lv (zCI (hp p hk1).2 hqp.2)) oO (Nat.mul_pos (Rat.den_pos _) (Rat.den_pos _))
   rw [<-Rat.mul_def'] at this
   exact this
  refine tH ?_
  refine tC ?_
  refine tG ?_
  refine tC ?_
  refine zB 5 ((13, .s (SF.row 3 (rvs m qs)))::(14, .Z (fI (p:Int)))::(15, .Y (fRV m (qAt qs p)))::(16, .Z (fRV m (qAt qs p)))::(17, .u (fQN (qAt qs p))):: []) hmix s kH
   (oc zC<|oc zC<|oc (zAZ (z:=3) (Cs:=rvs m qs) (i:=p) (C:=CU.agg (fRV m (qAt qs p))) kH hx2 iiz iiz)<|oc (zI (f:=fRV m (qAt qs p)) 3 kH (hz:=yW _ _))<|oc (zH zE zIm (fun u0 W hb (h0:RVp m (qAt qs p) u0 W)=>zB0 h0 oO))<|zD) fun a w5 s=> ?_
  refine zU (CU.len 3) (cs:=zR3) kH rfl s kH (fun W=>rfl) rfl fun b5 a w s=> ?_
  refine zN (CU.agg (fQN (qAt qs p))) ((fQN (qAt qs p)).tS) rfl s kH rfl rfl rfl iiz iiz zV fun a w s=> ?_
  refine zA rfl ?_
  refine jT (fun i=> [14].contains i) [] 15 ((19, .X (fQN (q7 qs p)) 0)::(20, .Z (fNV ((q7 qs p).num)))::(21, .X (fQN (qAt qs p)) 0)::(22, .Z (fNV ((qAt qs p).num)))::(23, .s (zJh (M+m) [(q7 qs p).num,(qAt qs p).num]))::(24, .Z (fNV ((q7 qs p).num*(qAt qs p).num)))::(25, .X (fQN (q7 qs p)) 2)::(26, .Z (qW ((q7 qs p).den)))::(27, .X (fQN (qAt qs p)) 2)::(28, .Z (qW ((qAt qs p).den)))::(29, .Z (qW ((q7 qs p).den*(qAt qs p).den)))::(30, .Z (zAu (fQN (q7 qs p*qAt qs p)) (uI 0)))::(18, .Z (zAu (fQN (q7 qs p*qAt qs p)) (uI 0)))::(31, .u (fQN (q7 qs p*qAt qs p)))::(32, .Z (uI 0)):: []) hmix s fnz kH
   (oc (zO (C:=cg (fQN (q7 qs p))) 0 kH)<|oc (yH (C:=cg (fQN (q7 qs p))) (k:=0) 2 kH (h:=zBh))<|oc (zO (C:=cg (fQN (qAt qs p))) 0 kH)<|oc (yH (C:=cg (fQN (qAt qs p))) (k:=0) 2 kH (h:=zBh))<|oc (yI (fun u v W (hu:NV W u ((q7 qs p).num)) (hv:NV W v ((qAt qs p).num))=>zAW (NV.uv' hu (Bd.mono (hp p hk1).1 (m':=(M+m)) (by first|omega|decide))) (NV.uv' hv (Bd.mono (hqp).1 (m':=(M+m)) (by first|omega|decide)))))<|oc (zH zE zJ4 (fun u0 W hb (h0:ISV W (M+m) u0 [(q7 qs p).num,(qAt qs p).num])=>zDL h0 (by show (M+m)*2+(M+m)+1<=40000;omega) fM fM))<|oc (zO (C:=cg (fQN (q7 qs p))) 2 kH)<|oc (jD (C:=cg (fQN (q7 qs p))) (k:=2) kH (h:=zAP))<|oc (zO (C:=cg (fQN (qAt qs p))) 2 kH)<|oc (jD (C:=cg (fQN (qAt qs p))) (k:=2) kH (h:=zAP))<|oc (zJ zE zQ0 (fun u0 u1 W hb (h0:qH W u0 ((q7 qs p).den)) (h1:qH W u1 ((qAt qs p).den))=>zKP (qH.lv (m:=M+m) h0 (tF (hp p hk1).2 (tQ y8 oO))) (qH.lv (m:=M+m) h1 (tF hqp.2 (tQ y8 oO))) oO))<|oc (zJ zE zOl (fun u0 u1 W hb (h0:NV W u0 ((q7 qs p).num*(qAt qs p).num)) (h1:qH W u1 ((q7 qs p).den*(qAt qs p).den))=>hnew W u0 u1 h0 h1))<|oc zC<|oc (zA1 (A:=(fQN (q7 qs p*qAt qs p)).tS) (B:=(uI 0).tS) iiz)<|oc (zA0 (A:=(fQN (q7 qs p*qAt qs p)).tS) (B:=(uI 0).tS) iiz)<|zD) fun Q' hQ a w6 s hr hd=> ?_
  refine zN (CU.agg (fQN (q7 qs p*qAt qs p))) ((fQN (q7 qs p*qAt qs p)).tS) rfl s kH rfl rfl rfl (yO _) iiz zV fun a w s=> ?_
  refine zA rfl (hQ _ _ ?_)
  refine zZ 2 ((11, .Z (fI (p:Int)))::(12, .u (fI ((p+1:Nat):Int))):: []) s kH
   (oc zC<|oc (yR .i64 (p:Int) 1 ((p+1:Nat):Int) iiz iiz (wrap64 _ _ oO oO))<|zD) fun a w7 s=> ?_
  replace s:=s.drop [4]
  refine yV (fI ((p+1:Nat):Int)) rfl s kH iiz fun a w s=> ?_
  refine zA rfl ?_
  replace s:=s.popB
  exact ⟨p+1,hk1,(by show qs.length - (p+1)<qs.length - p;omega),s.keepK _ (fmz ⟨mz5,fmz ⟨.head _,fnz⟩⟩)⟩
 ·have hk1:p=qs.length:=by have:=tO e;rw [tU] at this;omega
  refine tR ?_
  refine tC ?_
  refine zB 1 ((33, .u (fQN (q7 qs p))):: []) hmix s kH
   (oc (zI (f:=fQN (q7 qs p)) 3 kH (hz:=yO _))<|zD) fun a w8 s=> ?_
  refine zN (CU.agg (fQN (q7 qs p))) ((fQN (q7 qs p)).tS) rfl s kH rfl rfl rfl iiz iiz zV fun a w s=> ?_
  refine zA rfl ?_
  refine tD ?_
  exact wJ s (CU.agg (fQN (q7 qs p))) rfl kH rfl rfl (yO _) (fun cs W h=>by rw [hk1] at h;exact h)
theorem zEi {W:Wi} {m:Nat} {v:Wj} {p q:Rat} (h:(SF.row 3 (rvs m [p,q])).p v W) (hp:QB p m) (hq:QB q m) (hm:m<=990):Calls prog 44 #[v] W (Ret W (fQN (p+q)).tS):=by
 have:=zQg m h hp.pos lr hm fM (fun x hx=>by simp at hx;rcases hx with rfl|rfl;exact hp;exact hq) (fun k hk=>by
  rcases (by simp at hk;omega:k=0∨k=1) with rfl|rfl
  ·exact QB.zero hp.pos
  ·show QB (0+p) _
   rw [Rat.zero_add]
   exact hp)
 rw [show ([p,q]:List Rat).length=2 from rfl,zQo] at this
 exact this
theorem zEh {W:Wi} {m:Nat} {v:Wj} {p q:Rat} (h:(SF.row 3 (rvs m [p,q])).p v W) (hp:QB p m) (hq:QB q m) (hm:m<=990):Calls prog 59 #[v] W (Ret W (fQN (p*q)).tS):=by
 have hm0:=hp.pos
 have:=zQf m h hm0 lr hm fM (fun x hx=>by simp at hx;rcases hx with rfl|rfl;exact hp;exact hq) (fun k hk=>by
  rcases (by simp at hk;omega:k=0∨k=1) with rfl|rfl
  ·exact QB.one hp.pos
  ·show QB (1*p) _
   rw [Rat.one_mul]
   exact hp)
 rw [show ([p,q]:List Rat).length=2 from rfl,zLd] at this
 exact this
theorem zBs {m:Nat} {q:Rat} (v:Wj) (W:Wi) (h:(fRV m q).p v W): ∃vs:List Wj,v= .agg vs.toArray/\vs.length=3/\(∀u,u∈vs->u.oneCell'=true)/\vs.all zY=true/\(CU.agg (fRV m q)).p vs W:=by
 obtain ⟨k,d,h1,h2⟩:=h
 obtain ⟨vs,e,hl,h3,h4,h5⟩:=zNI v W h1
 exact ⟨vs,e,hl,h3,h4,k,d,h5,h2⟩
theorem zF4 {F:Fence} {m:Nat} {P:Program} {w0:Wi} {ops:Array Oper} {G:Nat->SF} {d:Tmp} {ty:Wk} {pos:String} {aft:Array Edge} {t:Wk} {x y:Operand} {t':Wk} (k:IntKind) (u v r:Int) (hx: ∀q W,(fct G x).p q W->q= .int k u) (hy: ∀q W,(fct G y).p q W->q= .int k v) (hr:k.wrap (u - v)=r) (hd: ∀W,(G d).p (.int k r) W:=by exact fun _=>rfl):qP F m P w0 ops G ⟨some d, .binOp .sub t x y t',ty,pos,aft,none⟩:=
 zD0 (.int k u) (.int k v) (.int k r) hx hy (fun W=>by simp [eqGuard]) (fun W=>by simp [binOp,Op.intArith,hr]) hd
theorem zHU {W:Wi} {m:Nat} {u v:Wj} {p q:Rat} (h:RVp m p u W) (h':RVp m q v W) (hm:m<=990) (hm0:0<m):Calls prog 60 #[u,v] W (Ret W (fQN (p - q)).tS):=by
 have hp:QB p m:=h.qb hm0
 have hq:QB q m:=h'.qb hm0
 refine z5 [(fRV m p).tS,(fRV m q).tS] func60 rfl kH ⟨h,h',trivial⟩ fun a s=> ?_
 refine tC ?_
 refine zB 0 [] hmix s kH
  zD fun a w1 s=> ?_
 refine yN (CU.agg (fRV m p)) rfl s kH (fun v W h=>zAc h) fun b2 a w s=> ?_
 refine yN (CU.agg (fRV m q)) rfl s kH (fun v W h=>zAc h) fun b3 a w s=> ?_
 refine zU (CU.len 3) (cs:=zR3) kH rfl s kH (fun W=>rfl) rfl fun b4 a w s=> ?_
 refine zA rfl ?_
 refine tC ?_
 refine yL [] 5 ((5, .Z (fRV m p))::(6, .Z (fRV m q))::(7, .Z (fQN (-q)))::(8, .s (SF.row 3 (rvs m [p,(-q)])))::(9, .u (fQN (p+ -q))):: []) hmix s kH
  (oc (zI (f:=fRV m p) 3 kH (hz:=yW _ _))<|oc (zI (f:=fRV m q) 3 kH (hz:=yW _ _))<|oc (zH zE zTL (fun u0 W hb (h0:RVp m q u0 W)=>zQe h0 oO hm0))<|oc (yI (fun u v W (hu:RVp m p u W) (hv:QNp (-q) v W)=>zDX hu (wD hv hq.neg)))<|oc (zH zE zOn (fun u0 W hb (h0:(SF.row 3 (rvs m [p,(-q)])).p u0 W)=>zEi h0 hp hq.neg oO))<|zD) fun Q' hQ a w2 s=> ?_
 refine zN (CU.agg (fQN (p+ -q))) ((fQN (p+ -q)).tS) rfl s kH rfl rfl rfl iiz iiz zV fun a w s=> ?_
 refine zA rfl (hQ _ _ ?_)
 refine tD ?_
 exact wJ s (CU.agg (fQN (p+ -q))) rfl kH rfl rfl (yO _) (fun cs W h=>by rw [Rat.sub_eq_add_neg];exact h)
theorem zHW {W:Wi} {m:Nat} {u v:Wj} {p q:Rat} (h:RVp m p u W) (h':RVp m q v W) (hm:m<=490) (hm0:0<m):Calls prog 16 #[u,v] W (Ret W (fQN ((p+q) / 2)).tS):=by
 have hp:QB p m:=h.qb hm0
 have hq:QB q m:=h'.qb hm0
 have hq2:QB ((2:Int):Rat) (m+m+1):=QB.mono (m:=1) ⟨by unfold Bd BB;decide+kernel,by unfold BB;decide+kernel⟩ oO
 refine z5 [(fRV m p).tS,(fRV m q).tS] func16 rfl kH ⟨h,h',trivial⟩ fun a s=> ?_
 refine tC ?_
 refine zB 0 [] hmix s kH
  zD fun a w1 s=> ?_
 refine yN (CU.agg (fRV m p)) rfl s kH (fun v W h=>zAc h) fun b2 a w s=> ?_
 refine yN (CU.agg (fRV m q)) rfl s kH (fun v W h=>zAc h) fun b3 a w s=> ?_
 refine zU (CU.len 3) (cs:=zR3) kH rfl s kH (fun W=>rfl) rfl fun b4 a w s=> ?_
 refine zA rfl ?_
 refine tC ?_
 refine zB 9 ((8, .Z (fRV m p))::(9, .Z (fRV m q))::(10, .s (SF.row 3 (rvs m [p,q])))::(11, .Z (fQN (p+q)))::(12, .Z (fQN ((2:Int):Rat)))::(13, .Z (zAu (fQN ((p+q) / ((2:Int):Rat))) (UF.any)))::(7, .Z (zAu (fQN ((p+q) / ((2:Int):Rat))) (UF.any)))::(14, .u (fQN ((p+q) / ((2:Int):Rat)))):: []) hmix s kH
  (oc (zI (f:=fRV m p) 3 kH (hz:=yW _ _))<|oc (zI (f:=fRV m q) 3 kH (hz:=yW _ _))<|oc (yI (fun u v W (hu:RVp m p u W) (hv:RVp m q v W)=>zDX hu hv))<|oc (zH zE zOn (fun u0 W hb (h0:(SF.row 3 (rvs m [p,q])).p u0 W)=>zEi h0 hp hq oO))<|oc (zH zE zEa (fun u0 W hb (h0:u0= .int .i64 2)=>zB8 2 h0 dA))<|oc (zJ zE zT5 (fun u0 u1 W hb (h0:QNp (p+q) u0 W) (h1:QNp ((2:Int):Rat) u1 W)=>(zQc (wD h0 (hp.add hq)) (wD h1 hq2) oO oO).mono (fun e w' ⟨v,e1,⟨x,y,e2,h2,_⟩,hb⟩=>⟨v,e1,⟨x,y,e2,h2,trivial⟩,hb⟩)))<|oc zC<|oc (zA1 (A:=(fQN ((p+q) / ((2:Int):Rat))).tS) (B:=(UF.any).tS) iiz)<|oc (zA0 (A:=(fQN ((p+q) / ((2:Int):Rat))).tS) (B:=(UF.any).tS) iiz)<|zD) fun a w2 s=> ?_
 refine zU (CU.len 3) (cs:=zR3) kH rfl s kH (fun W=>rfl) rfl fun b5 a w s=> ?_
 refine zN (CU.agg (fQN ((p+q) / ((2:Int):Rat)))) ((fQN ((p+q) / ((2:Int):Rat))).tS) rfl s kH rfl rfl rfl iiz iiz zV fun a w s=> ?_
 refine yV UF.any rfl s kH (fun _ _ _=>trivial) fun a w s=> ?_
 refine zA rfl ?_
 refine tC ?_
 refine zB 1 ((16, .u (fQN ((p+q) / ((2:Int):Rat)))):: []) hmix s kH
  (oc (zI (f:=fQN ((p+q) / ((2:Int):Rat))) 3 kH (hz:=yO _))<|zD) fun a w3 s=> ?_
 refine zN (CU.agg (fQN ((p+q) / ((2:Int):Rat)))) ((fQN ((p+q) / ((2:Int):Rat))).tS) rfl s kH rfl rfl rfl iiz iiz zV fun a w s=> ?_
 refine zA rfl ?_
 refine tD ?_
 exact wJ s (CU.agg (fQN ((p+q) / ((2:Int):Rat)))) rfl kH rfl rfl (yO _) (fun cs W h=>h)
abbrev QX.q (x:QX):Rat:=mkRat x.k x.d
theorem zK8 {n n':Nat} {k:Int} {d:Nat} {v:Wj} {W:Wi} (h:(fQX n n' k d).p v W): ∃s A c A' c',v= .agg #[.bool s, .slice A n c, .slice A' n' c']:=by
 obtain ⟨b,s,t,rfl,⟨sg,A,c,l,e1,_⟩,A',c',l',rfl,_⟩:=h
 have:=tX Array.toList (jJ e1)
 simp at this
 rw [this.1,this.2]
 exact ⟨_,_,_,_,_,rfl⟩
theorem zRU {n n':Nat} {k:Int} {d:Nat} {v:Wj} {W:Wi} (h:(fQX n n' k d).p v W):(CU.agg (fQX n n' k d)).p v.cells.toList W/\v.cells.toList.all zY=true:=by
 obtain ⟨sg,A,c,A',c',rfl⟩:=zK8 h
 exact ⟨h,rfl⟩
theorem zRg {n n' m:Nat} {k:Int} {d:Nat} {v:Wj} {W:Wi} (h:QXp n n' k d v W) (h1:n<=m) (h2:n'<=m):RVp m (mkRat k d) v W:=⟨k,d,zTs h h1 h2,rfl⟩
theorem QXp.qb {x:QX} {v:Wj} {W:Wi} (h:QXp x.n x.n' x.k x.d v W) (hg:x.n<=40/\x.n'<=40):QB x.q 40:=(zRg h hg.1 hg.2).qb oO
theorem zN2 {W:Wi} {b o:Nat} {cs ds:List Wj} (k:Nat) (h:Mem W b o cs) (hd: ∀j u,ds[j]?=some u->cs[k+j]?=some u):Mem W b (o+k) ds:=fun j u hj=>by
 have:=h (k+j) u (hd j u hj)
 rwa [<-Nat.add_assoc] at this
theorem zHN {W:Wi} {v:Wj} (z:Int) (hv:v= .int .i64 z) (hz: -9223372036854775808<=z/\z<=9223372036854775807):Calls prog 39 #[v] W (Ret W (fQN (z:Rat)).tS):=by
 subst hv
 exact zNu z hz
theorem zPV (s0:Bool) (A0 D0:Wl Addr) (n0 c0 i0 j0:Nat):yD prog 54 1 [(0, .agg #[.bool s0, .slice A0 n0 c0, .slice D0 i0 j0])]=some (29,#[.bool s0, .slice A0 n0 c0, .slice D0 i0 j0]):=by kernel_rfl
theorem zRD {u:Wj} {W:Wi} {a:QX} (h0:(fQX a.n a.n' a.k a.d).p u W): ∃e cs,yD prog 54 1 [(0,u)]=some (e,cs)/\(SF.row 3 ([a].map QX.cu)).p (.slice (some ⟨W.heap.size,0,none⟩) 1 1) (W.alloc (.cells cs e)):=by
 obtain ⟨s0,A0,c0,D0,j0,rfl⟩:=zK8 h0
 refine ⟨_,_,zPV s0 A0 D0 a.n c0 a.n' j0,some ⟨W.heap.size,0,none⟩,1,rfl,tN _,by decide,fun e=>(by cases e),fun x C hx=> ?_⟩
 have hb:=zB7 W (.cells #[.bool s0, .slice A0 a.n c0, .slice D0 a.n' j0] 29)
 have hm:=zBf W #[.bool s0, .slice A0 a.n c0, .slice D0 a.n' j0] 29
 rcases (by have:=(zVw.1 hx).1;simp at this;omega:x=0) with rfl
 ·obtain rfl:QX.cu a=C:=by simpa using hx
  exact ⟨W.heap.size,0, [.bool s0, .slice A0 a.n c0, .slice D0 a.n' j0],rfl,zN2 0 hm (fun j u hj=>by match j with|0=>exact hj|1=>exact hj|2=>exact hj|j+3=>simp at hj),(fQX a.n a.n' a.k a.d).tS.st _ _ _ h0 hb⟩
end Go.Proofs.Wd

namespace Go.Proofs.Wd
open Tryz
set_option maxRecDepth 100000
set_option maxHeartbeats 1000000
open Go.RowKit Lb
theorem zFr {W:Wi} {u v:Wj} {x y:Int} (hu:u= .int .i64 x) (hv:v= .int .i64 y) (hx: -9223372036854775808<=x/\x<=9223372036854775807) (hy: -9223372036854775808<=y/\y<=9223372036854775807):Calls prog 32 #[u,v] W (Ret W (fPN (((x:Int):Rat),((y:Int):Rat))).tS):=by
 refine z5 [(uI x).tS,(uI y).tS] func32 rfl kH ⟨hu,hv,trivial⟩ fun a s=> ?_
 refine tC ?_
 refine zB 0 [] hmix s kH
  zD fun a w1 s=> ?_
 refine zU (CU.len 6) (cs:=zP6) kH rfl s kH (fun W=>rfl) rfl fun b4 a w s=> ?_
 refine zA rfl ?_
 refine tC ?_
 refine zB 5 ((5, .Z (uI x))::(6, .Z (fQN ((x:Int):Rat)))::(7, .Z (uI y))::(8, .Z (fQN ((y:Int):Rat)))::(9, .u (fPN (((x:Int):Rat),((y:Int):Rat)))):: []) hmix s kH
  (oc zC<|oc (zH zE zEa (fun u0 W hb (h0:u0= .int .i64 x)=>zB8 x h0 hx))<|oc zC<|oc (zH zE zEa (fun u0 W hb (h0:u0= .int .i64 y)=>zB8 y h0 hy))<|oc (yY (fun u v W (hu:QNp ((x:Int):Rat) u W) (hv:QNp ((y:Int):Rat) v W)=>zSZ (zAz _) (zAz _) hu hv))<|zD) fun a w2 s=> ?_
 refine zN (CU.agg (fPN (((x:Int):Rat),((y:Int):Rat)))) ((fPN (((x:Int):Rat),((y:Int):Rat))).tS) rfl s kH rfl rfl rfl iiz iiz qK fun a w s=> ?_
 refine zA rfl ?_
 refine tD ?_
 exact wJ s (CU.agg (fPN (((x:Int):Rat),((y:Int):Rat)))) rfl kH rfl rfl (zX _ _) (fun cs W h=>h)
theorem zK0 {m:Nat} {W:Wi} {u v:Wj} {p q:V2} (h1:(fPV m p).p u W) (h2:(fPV m q).p v W) (hp:QB p.1 m/\QB p.2 m) (hq:QB q.1 m/\QB q.2 m) (hm:m<=990):Calls prog 21 #[u,v] W (Ret W (fPN (p.1+q.1,p.2+q.2)).tS):=by
 refine z5 [(fPV m p).tS,(fPV m q).tS] func21 rfl kH ⟨h1,h2,trivial⟩ fun a s=> ?_
 refine tC ?_
 refine zB 0 [] hmix s kH
  zD fun a w1 s=> ?_
 refine yN (CU.agg (fPV m p)) rfl s kH (fun v W h=>qC h) fun b2 a w s=> ?_
 refine yN (CU.agg (fPV m q)) rfl s kH (fun v W h=>qC h) fun b3 a w s=> ?_
 refine zU (CU.len 6) (cs:=zP6) kH rfl s kH (fun W=>rfl) rfl fun b4 a w s=> ?_
 refine zA rfl ?_
 refine tC ?_
 refine yL [] 13 ((5, .X (fPV m p) 0)::(6, .Z (fRV m ((p).1)))::(7, .X (fPV m q) 0)::(8, .Z (fRV m ((q).1)))::(9, .s (SF.row 3 (rvs m [(p).1,(q).1])))::(10, .Z (fQN ((p).1+(q).1)))::(11, .X (fPV m p) 3)::(12, .Z (fRV m ((p).2)))::(13, .X (fPV m q) 3)::(14, .Z (fRV m ((q).2)))::(15, .s (SF.row 3 (rvs m [(p).2,(q).2])))::(16, .Z (fQN ((p).2+(q).2)))::(17, .u (fPN (p.1+q.1,p.2+q.2))):: []) hmix s kH
  (oc (zO (C:=cg (fPV m p)) 0 kH)<|oc (yH (C:=cg (fPV m p)) (k:=0) 3 kH (h:=zFg))<|oc (zO (C:=cg (fPV m q)) 0 kH)<|oc (yH (C:=cg (fPV m q)) (k:=0) 3 kH (h:=zFg))<|oc (yI (fun u v W (hu:RVp m ((p).1) u W) (hv:RVp m ((q).1) v W)=>zDX hu hv))<|oc (zH zE zOn (fun u0 W hb (h0:(SF.row 3 (rvs m [(p).1,(q).1])).p u0 W)=>zEi h0 hp.1 hq.1 hm))<|oc (zO (C:=cg (fPV m p)) 3 kH)<|oc (yH (C:=cg (fPV m p)) (k:=3) 3 kH (h:=zFf))<|oc (zO (C:=cg (fPV m q)) 3 kH)<|oc (yH (C:=cg (fPV m q)) (k:=3) 3 kH (h:=zFf))<|oc (yI (fun u v W (hu:RVp m ((p).2) u W) (hv:RVp m ((q).2) v W)=>zDX hu hv))<|oc (zH zE zOn (fun u0 W hb (h0:(SF.row 3 (rvs m [(p).2,(q).2])).p u0 W)=>zEi h0 hp.2 hq.2 hm))<|oc (yY (fun u v W (hu:QNp ((p).1+(q).1) u W) (hv:QNp ((p).2+(q).2) v W)=>zSZ (zAz _) (zAz _) hu hv))<|zD) fun Q' hQ a w2 s=> ?_
 refine zN (CU.agg (fPN (p.1+q.1,p.2+q.2))) ((fPN (p.1+q.1,p.2+q.2)).tS) rfl s kH rfl rfl rfl iiz iiz qK fun a w s=> ?_
 refine zA rfl (hQ _ _ ?_)
 refine tD ?_
 exact wJ s (CU.agg (fPN (p.1+q.1,p.2+q.2))) rfl kH rfl rfl (zX _ _) (fun cs W h=>h)
theorem zHT {m:Nat} {W:Wi} {u v:Wj} {p q:V2} (h1:(fPV m p).p u W) (h2:(fPV m q).p v W) (hm:m<=990) (hm0:0<m):Calls prog 38 #[u,v] W (Ret W (fPN (p.1 - q.1,p.2 - q.2)).tS):=by
 refine z5 [(fPV m p).tS,(fPV m q).tS] func38 rfl kH ⟨h1,h2,trivial⟩ fun a s=> ?_
 refine tC ?_
 refine zB 0 [] hmix s kH
  zD fun a w1 s=> ?_
 refine yN (CU.agg (fPV m p)) rfl s kH (fun v W h=>qC h) fun b2 a w s=> ?_
 refine yN (CU.agg (fPV m q)) rfl s kH (fun v W h=>qC h) fun b3 a w s=> ?_
 refine zU (CU.len 6) (cs:=zP6) kH rfl s kH (fun W=>rfl) rfl fun b4 a w s=> ?_
 refine zA rfl ?_
 refine tC ?_
 refine yL [] 11 ((5, .X (fPV m p) 0)::(6, .Z (fRV m ((p).1)))::(7, .X (fPV m q) 0)::(8, .Z (fRV m ((q).1)))::(9, .Z (fQN ((p).1 - (q).1)))::(10, .X (fPV m p) 3)::(11, .Z (fRV m ((p).2)))::(12, .X (fPV m q) 3)::(13, .Z (fRV m ((q).2)))::(14, .Z (fQN ((p).2 - (q).2)))::(15, .u (fPN (p.1 - q.1,p.2 - q.2))):: []) hmix s kH
  (oc (zO (C:=cg (fPV m p)) 0 kH)<|oc (yH (C:=cg (fPV m p)) (k:=0) 3 kH (h:=zFg))<|oc (zO (C:=cg (fPV m q)) 0 kH)<|oc (yH (C:=cg (fPV m q)) (k:=0) 3 kH (h:=zFg))<|oc (zJ zE zQZ (fun u0 u1 W hb (h0:RVp m ((p).1) u0 W) (h1:RVp m ((q).1) u1 W)=>zHU h0 h1 hm hm0))<|oc (zO (C:=cg (fPV m p)) 3 kH)<|oc (yH (C:=cg (fPV m p)) (k:=3) 3 kH (h:=zFf))<|oc (zO (C:=cg (fPV m q)) 3 kH)<|oc (yH (C:=cg (fPV m q)) (k:=3) 3 kH (h:=zFf))<|oc (zJ zE zQZ (fun u0 u1 W hb (h0:RVp m ((p).2) u0 W) (h1:RVp m ((q).2) u1 W)=>zHU h0 h1 hm hm0))<|oc (yY (fun u v W (hu:QNp ((p).1 - (q).1) u W) (hv:QNp ((p).2 - (q).2) v W)=>zSZ (zAz _) (zAz _) hu hv))<|zD) fun Q' hQ a w2 s=> ?_
 refine zN (CU.agg (fPN (p.1 - q.1,p.2 - q.2))) ((fPN (p.1 - q.1,p.2 - q.2)).tS) rfl s kH rfl rfl rfl iiz iiz qK fun a w s=> ?_
 refine zA rfl (hQ _ _ ?_)
 refine tD ?_
 exact wJ s (CU.agg (fPN (p.1 - q.1,p.2 - q.2))) rfl kH rfl rfl (zX _ _) (fun cs W h=>h)
theorem zLg {m:Nat} (hm:0<m):QB ((0:Int):Rat) m:=QB.int (by unfold Bd;exact Nat.pow_pos y8) hm
theorem zKX {m:Nat} {W:Wi} {u v:Wj} {p:V2} {t:Rat} (h1:(fPV m p).p u W) (h2:RVp m t v W) (hp:QB p.1 m/\QB p.2 m) (ht:QB t m) (hm:m<=990):Calls prog 37 #[u,v] W (Ret W (fPN (p.1*t,p.2*t)).tS):=by
 refine z5 [(fPV m p).tS,(fRV m t).tS] func37 rfl kH ⟨h1,h2,trivial⟩ fun a s=> ?_
 refine tC ?_
 refine zB 0 [] hmix s kH
  zD fun a w1 s=> ?_
 refine yN (CU.agg (fPV m p)) rfl s kH (fun v W h=>qC h) fun b2 a w s=> ?_
 refine yN (CU.agg (fRV m t)) rfl s kH (fun v W h=>zAc h) fun b3 a w s=> ?_
 refine zU (CU.len 6) (cs:=zP6) kH rfl s kH (fun W=>rfl) rfl fun b4 a w s=> ?_
 refine zA rfl ?_
 refine tC ?_
 refine yL [] 11 ((5, .X (fPV m p) 0)::(6, .Z (fRV m ((p).1)))::(7, .Z (fRV m t))::(8, .s (SF.row 3 (rvs m [(p).1,t])))::(9, .Z (fQN ((p).1*t)))::(10, .X (fPV m p) 3)::(11, .Z (fRV m ((p).2)))::(12, .Z (fRV m t))::(13, .s (SF.row 3 (rvs m [(p).2,t])))::(14, .Z (fQN ((p).2*t)))::(15, .u (fPN (p.1*t,p.2*t))):: []) hmix s kH
  (oc (zO (C:=cg (fPV m p)) 0 kH)<|oc (yH (C:=cg (fPV m p)) (k:=0) 3 kH (h:=zFg))<|oc (zI (f:=fRV m t) 3 kH (hz:=yW _ _))<|oc (yI (fun u v W (hu:RVp m ((p).1) u W) (hv:RVp m t v W)=>zDX hu hv))<|oc (zH zE zOk (fun u0 W hb (h0:(SF.row 3 (rvs m [(p).1,t])).p u0 W)=>zEh h0 hp.1 ht oO))<|oc (zO (C:=cg (fPV m p)) 3 kH)<|oc (yH (C:=cg (fPV m p)) (k:=3) 3 kH (h:=zFf))<|oc (zI (f:=fRV m t) 3 kH (hz:=yW _ _))<|oc (yI (fun u v W (hu:RVp m ((p).2) u W) (hv:RVp m t v W)=>zDX hu hv))<|oc (zH zE zOk (fun u0 W hb (h0:(SF.row 3 (rvs m [(p).2,t])).p u0 W)=>zEh h0 hp.2 ht oO))<|oc (yY (fun u v W (hu:QNp ((p).1*t) u W) (hv:QNp ((p).2*t) v W)=>zSZ (zAz _) (zAz _) hu hv))<|zD) fun Q' hQ a w2 s=> ?_
 refine zN (CU.agg (fPN (p.1*t,p.2*t))) ((fPN (p.1*t,p.2*t)).tS) rfl s kH rfl rfl rfl iiz iiz qK fun a w s=> ?_
 refine zA rfl (hQ _ _ ?_)
 refine tD ?_
 exact wJ s (CU.agg (fPN (p.1*t,p.2*t))) rfl kH rfl rfl (zX _ _) (fun cs W h=>h)
theorem zKY {m:Nat} {W:Wi} {u v:Wj} {p q:V2} (h1:(fPV m p).p u W) (h2:(fPV m q).p v W) (hp:QB p.1 m/\QB p.2 m) (hq:QB q.1 m/\QB q.2 m) (hm:m<=495) (hm0:0<m):Calls prog 135 #[u,v] W (Ret W (fQN (p.1*q.2 - p.2*q.1)).tS):=by
 refine z5 [(fPV m p).tS,(fPV m q).tS] func135 rfl kH ⟨h1,h2,trivial⟩ fun a s=> ?_
 refine tC ?_
 refine zB 0 [] hmix s kH
  zD fun a w1 s=> ?_
 refine yN (CU.agg (fPV m p)) rfl s kH (fun v W h=>qC h) fun b2 a w s=> ?_
 refine yN (CU.agg (fPV m q)) rfl s kH (fun v W h=>qC h) fun b3 a w s=> ?_
 refine zU (CU.len 3) (cs:=zR3) kH rfl s kH (fun W=>rfl) rfl fun b4 a w s=> ?_
 refine zA rfl ?_
 refine tC ?_
 refine yL [] 13 ((5, .X (fPV m p) 0)::(6, .Z (fRV m ((p).1)))::(7, .X (fPV m q) 3)::(8, .Z (fRV m ((q).2)))::(9, .s (SF.row 3 (rvs m [(p).1,(q).2])))::(10, .Z (fQN ((p).1*(q).2)))::(11, .X (fPV m p) 3)::(12, .Z (fRV m ((p).2)))::(13, .X (fPV m q) 0)::(14, .Z (fRV m ((q).1)))::(15, .s (SF.row 3 (rvs m [(p).2,(q).1])))::(16, .Z (fQN ((p).2*(q).1)))::(17, .u (fQN (((p).1*(q).2) - ((p).2*(q).1)))):: []) hmix s kH
  (oc (zO (C:=cg (fPV m p)) 0 kH)<|oc (yH (C:=cg (fPV m p)) (k:=0) 3 kH (h:=zFg))<|oc (zO (C:=cg (fPV m q)) 3 kH)<|oc (yH (C:=cg (fPV m q)) (k:=3) 3 kH (h:=zFf))<|oc (yI (fun u v W (hu:RVp m ((p).1) u W) (hv:RVp m ((q).2) v W)=>zDX hu hv))<|oc (zH zE zOk (fun u0 W hb (h0:(SF.row 3 (rvs m [(p).1,(q).2])).p u0 W)=>zEh h0 hp.1 hq.2 oO))<|oc (zO (C:=cg (fPV m p)) 3 kH)<|oc (yH (C:=cg (fPV m p)) (k:=3) 3 kH (h:=zFf))<|oc (zO (C:=cg (fPV m q)) 0 kH)<|oc (yH (C:=cg (fPV m q)) (k:=0) 3 kH (h:=zFg))<|oc (yI (fun u v W (hu:RVp m ((p).2) u W) (hv:RVp m ((q).1) v W)=>zDX hu hv))<|oc (zH zE zOk (fun u0 W hb (h0:(SF.row 3 (rvs m [(p).2,(q).1])).p u0 W)=>zEh h0 hp.2 hq.1 oO))<|oc (zJ zE zQZ (fun u0 u1 W hb (h0:QNp ((p).1*(q).2) u0 W) (h1:QNp ((p).2*(q).1) u1 W)=>zHU (wD h0 (hp.1.mul hq.2)) (wD h1 (hp.2.mul hq.1)) oO oO))<|zD) fun Q' hQ a w2 s=> ?_
 refine zN (CU.agg (fQN (((p).1*(q).2) - ((p).2*(q).1)))) ((fQN (((p).1*(q).2) - ((p).2*(q).1))).tS) rfl s kH rfl rfl rfl iiz iiz zV fun a w s=> ?_
 refine zA rfl (hQ _ _ ?_)
 refine tD ?_
 exact wJ s (CU.agg (fQN (p.1*q.2 - p.2*q.1))) rfl kH rfl rfl (yO _) (fun cs W h=>h)
theorem zKZ {m k:Nat} (M:Nat) {W:Wi} {u v x:Wj} {p q:V2} {t:Rat} (h1:(fPV m p).p u W) (h2:(fPV m q).p v W) (h3:RVp k t x W) (hp:QB p.1 m/\QB p.2 m) (hq:QB q.1 m/\QB q.2 m) (ht:QB t k) (hm0:0<m) (hM:m+m+1+k<=M) (hM2:M<=990):Calls prog 13 #[u,v,x] W (Ret W (fPN (seg p q t)).tS):=by
 refine z5 [(fPV m p).tS,(fPV m q).tS,(fRV k t).tS] func13 rfl kH ⟨h1,h2,h3,trivial⟩ fun a s=> ?_
 refine tC ?_
 refine zB 0 [] hmix s kH
  zD fun a w1 s=> ?_
 refine yN (CU.agg (fPV m p)) rfl s kH (fun v W h=>qC h) fun b3 a w s=> ?_
 refine yN (CU.agg (fPV m q)) rfl s kH (fun v W h=>qC h) fun b4 a w s=> ?_
 refine yN (CU.agg (fRV k t)) rfl s kH (fun v W h=>zAc h) fun b5 a w s=> ?_
 refine zU (CU.len 6) (cs:=zP6) kH rfl s kH (fun W=>rfl) rfl fun b6 a w s=> ?_
 refine zA rfl ?_
 refine tC ?_
 refine yL [] 7 ((7, .Z (fPV m p))::(8, .Z (fPV m q))::(9, .Z (fPV m p))::(10, .Z (fPN ((q).1 - (p).1,(q).2 - (p).2)))::(11, .Z (fRV k t))::(12, .Z (fPN (((q).1 - (p).1)*t,((q).2 - (p).2)*t)))::(13, .u (fPN (seg p q t))):: []) hmix s kH
  (oc (zI (f:=fPV m p) 6 kH (hz:=zX _ _))<|oc (zI (f:=fPV m q) 6 kH (hz:=zX _ _))<|oc (zI (f:=fPV m p) 6 kH (hz:=zX _ _))<|oc (zJ zE zQ2 (fun u0 u1 W hb (h0:(fPV m q).p u0 W) (h1:(fPV m p).p u1 W)=>zHT (p:=q) (q:=p) h0 h1 oO hm0))<|oc (zI (f:=fRV k t) 3 kH (hz:=yW _ _))<|oc (zJ zE zT8 (fun u0 u1 W hb (h0:(fPN ((q).1 - (p).1,(q).2 - (p).2)).p u0 W) (h1:RVp k t u1 W)=>zKX (p:=((q).1 - (p).1,(q).2 - (p).2)) (zCa (p:=((q).1 - (p).1,(q).2 - (p).2)) (m:=M) ((show QB _ _/\QB _ _ from ⟨hq.1.sub hp.1,hq.2.sub hp.2⟩).1.mono (by first|omega|decide)) ((show QB _ _/\QB _ _ from ⟨hq.1.sub hp.1,hq.2.sub hp.2⟩).2.mono (by first|omega|decide)) h0) (RVp.mono h1 oO) ⟨(show QB _ _/\QB _ _ from ⟨hq.1.sub hp.1,hq.2.sub hp.2⟩).1.mono oO,(show QB _ _/\QB _ _ from ⟨hq.1.sub hp.1,hq.2.sub hp.2⟩).2.mono oO⟩ (ht.mono oO) oO))<|oc (zJ zE zSB (fun u0 u1 W hb (h0:(fPV m p).p u0 W) (h1:(fPN (((q).1 - (p).1)*t,((q).2 - (p).2)*t)).p u1 W)=>zK0 (p:=p) (q:=(((q).1 - (p).1)*t,((q).2 - (p).2)*t)) (jB (m':=M) oO h0) (zCa (p:=(((q).1 - (p).1)*t,((q).2 - (p).2)*t)) (m:=M) ((show QB _ _/\QB _ _ from ⟨(hq.1.sub hp.1).mul ht,(hq.2.sub hp.2).mul ht⟩).1.mono (by first|omega|decide)) ((show QB _ _/\QB _ _ from ⟨(hq.1.sub hp.1).mul ht,(hq.2.sub hp.2).mul ht⟩).2.mono (by first|omega|decide)) h1) ⟨hp.1.mono oO,hp.2.mono oO⟩ ⟨(show QB _ _/\QB _ _ from ⟨(hq.1.sub hp.1).mul ht,(hq.2.sub hp.2).mul ht⟩).1.mono oO,(show QB _ _/\QB _ _ from ⟨(hq.1.sub hp.1).mul ht,(hq.2.sub hp.2).mul ht⟩).2.mono oO⟩ oO))<|zD) fun Q' hQ a w2 s=> ?_
 refine zN (CU.agg (fPN (seg p q t))) ((fPN (seg p q t)).tS) rfl s kH rfl rfl rfl iiz iiz qK fun a w s=> ?_
 refine zA rfl (hQ _ _ ?_)
 refine tD ?_
 exact wJ s (CU.agg (fPN (seg p q t))) rfl kH rfl rfl (zX _ _) (fun cs W h=>h)
theorem zU6 (s:Bool) (A A':Wl Addr) (n n' c c':Nat) (s2:Bool) (B B':Wl Addr) (k k' d d':Nat):yD prog 22 1 [(0, .agg #[.bool s, .slice A n c, .slice A' n' c', .bool s2, .slice B k d, .slice B' k' d'])]=some (31,#[.bool s, .slice A n c, .slice A' n' c', .bool s2, .slice B k d, .slice B' k' d']):=by kernel_rfl
theorem zGL {f g:UF} {u:Wj} {W:Wi} (h:(fPT f g).p u W): ∃e cs,yD prog 22 1 [(0,u)]=some (e,cs)/\(SF.row 6 [CU.agg (fPT f g)]).p (.slice (some ⟨W.heap.size,0,none⟩) 1 1) (W.alloc (.cells cs e)):=by
 obtain ⟨s,A,n,c,A',n',c',s2,B,k,d,B',k',d',rfl,h1,h2⟩:=h
 refine ⟨_,_,zU6 s A A' n n' c c' s2 B B' k k' d d',some ⟨W.heap.size,0,none⟩,1,rfl,tN _,by decide,fun e=>(by cases e),fun i C hi=> ?_⟩
 have hb:=zB7 W (.cells #[.bool s, .slice A n c, .slice A' n' c', .bool s2, .slice B k d, .slice B' k' d'] 31)
 have hm:=zBf W #[.bool s, .slice A n c, .slice A' n' c', .bool s2, .slice B k d, .slice B' k' d'] 31
 obtain rfl:i=0:=by have:=(zVw.1 hi).1;simp at this;omega
 obtain rfl:CU.agg (fPT f g)=C:=by simpa using hi
 refine ⟨W.heap.size,0, [.bool s, .slice A n c, .slice A' n' c', .bool s2, .slice B k d, .slice B' k' d'],rfl, ?_,(CU.agg (fPT f g)).us _ _ _ ⟨s,A,n,c,A',n',c',s2,B,k,d,B',k',d',rfl,h1,h2⟩ (zS hb)⟩
 rw [show 0+0*6=0 from rfl]
 exact hm
theorem zG5 (f g:UF): ∀C,C∈ [CU.agg (fPT f g)]->CU.ok 6 C:=fun C hC=>by
 obtain rfl:C=CU.agg (fPT f g):=by simpa using hC
 exact zCM f g
theorem zNO {ps:List V2} {k:Nat} (h:k<ps.length):pns (ps.take (k+1))=pns (ps.take k)++ [CU.agg (fPN (at_ ps k))]:=by
 unfold pns at_
 rw [zVv,List.map_append,zVN,zGj h]
 rfl
end Go.Proofs.Wd

namespace Go.Proofs.Wd
open Tryz
set_option maxRecDepth 100000
set_option maxHeartbeats 1000000
open Go.RowKit Lb
def TB (m:Nat) (g:V2->Bool) (xs:Array Wj) (W:Wi) (R:SF):Prop:= ∃u p,xs=#[u]/\(fPV m p).p u W/\R=(fB (g p)).tS
def zFd {α:Type} (g:α->Bool) (l:List α):Int:=if l.any g then ((l.findIdx g:Nat):Int) else -1
theorem zJd {α:Type} (g:α->Bool) (l:List α):decide (zFd g l≥0)=l.any g:=by
 unfold zFd
 cases h:l.any g with
 |true=>simp
 |false=>simp
theorem zQJ {g:V2->Bool} {l:List V2} {k:Nat} (hk:k<l.length) (h0: ∀j,j<k->g (at_ l j)=false) (h1:g (at_ l k)=true):zFd g l=(k:Int):=by
 have ha:l.any g=true:=zVO.2 ⟨_,qV hk,h1⟩
 unfold zFd
 rw [if_pos ha]
 congr 1
 have ge: ∀j,at_ l j=l.getD j (0,0):=fun _=>rfl
 refine (List.findIdx_eq hk).2 ⟨by have:=h1;unfold at_ at this;rwa [zVN,zGj hk] at this,fun j hj=> ?_⟩
 have:=h0 j hj
 unfold at_ at this
 rwa [zVN,zGj (Nat.lt_trans hj hk)] at this
theorem zL5 {g:V2->Bool} {l:List V2} (h0: ∀j,j<l.length->g (at_ l j)=false):zFd g l= -1:=by
 unfold zFd
 rw [if_neg]
 intro ha
 obtain ⟨p,hp,e⟩:=zVO.1 ha
 obtain ⟨j,hj,rfl⟩:=zFx hp
 rw [h0 j hj] at e
 cases e
theorem zTx {m:Nat} {g:V2->Bool} {W:Wi} {l f:Wj} {ps:List V2} (hl:(SF.row 6 (pvs m ps)).p l W) (hf:(SF.fn prog (TB m g)).p f W) (hn:ps.length<=1000000):Calls prog 145 #[l,f] W (Ret W (fI (zFd g ps)).tS):=by
 refine z5 [SF.row 6 (pvs m ps),SF.fn prog (TB m g)] func145 rfl kH ⟨hl,hf,trivial⟩ fun a s=> ?_
 refine tC ?_
 refine zB 1 ((4, .u (uI 0)):: []) hmix s kH
  (oc zG<|zD) fun a w1 s=> ?_
 refine zA rfl ?_
 refine tC ?_
 refine tC ?_
 refine zB 3 ((6, .s (SF.row 6 (pvs m ps)))::(7, .u (uI ((pvs m ps).length:Int)))::(8, .u (uI 0)):: []) hmix s kH
  (oc zC<|oc (zBk (z:=6) (Cs:=pvs m ps) kH iiz (fun _=>rfl))<|oc zC<|zD) fun a w2 s=> ?_
 refine zA rfl ?_
 refine tG ?_
 refine zAV (fun k=>k<=ps.length/\ ∀j,j<k->g (at_ ps j)=false) (fun k=> [(0, .o (SF.row 6 (pvs m ps))),(1, .o (SF.fn prog (TB m g))),(7, .u (uI ((pvs m ps).length:Int))),(8, .u (uI ((k:Nat):Int)))]) (fun k=>ps.length - k) (0:Nat) (⟨tK _,fun j hj=>absurd hj (Nat.not_lt_zero _)⟩) (s.keepK _ (fmz ⟨mz3,fmz ⟨mz4,fmz ⟨.head _,fmz ⟨mz1,fnz⟩⟩⟩⟩)) fun k a w hx s=> ?_
 refine tC ?_
 refine zB 1 ((9, .u (uB (decide ((k:Int)<((pvs m ps).length:Int))))):: []) hmix s kH
  (oc (zR .i64 (k:Int) ((pvs m ps).length:Int) (decide ((k:Int)<((pvs m ps).length:Int))) iiz iiz rfl rfl)<|zD) fun a w3 s=> ?_
 refine zA rfl ?_
 refine tC ?_
 refine StS.cond s (decide ((k:Int)<((pvs m ps).length:Int))) iiz (fun e=> ?_) (fun e=> ?_)
 ·have hk:k<ps.length:=by have:=tP e;simp at this;omega
  refine tH ?_
  refine tC ?_
  refine tG ?_
  refine tC ?_
  refine zB 2 ((10, .Z (uI (k:Int)))::(5, .u (uI (k:Int))):: []) hmix s kH
   (oc zC<|oc zG<|zD) fun a w4 s=> ?_
  refine zA rfl ?_
  refine tC ?_
  refine zB 6 ((11, .s (SF.fn prog (TB m g)))::(12, .s (SF.row 6 (pvs m ps)))::(13, .Z (uI (k:Int)))::(14, .Y (fPV m (at_ ps k)))::(15, .Z (fPV m (at_ ps k)))::(16, .u (uB (g (at_ ps k)))):: []) hmix s kH
   (oc zC<|oc zC<|oc zC<|oc (zAZ (z:=6) (Cs:=pvs m ps) (i:=k) (C:=CU.agg (fPV m (at_ ps k))) kH (jA hk) iiz iiz)<|oc (zI (f:=fPV m (at_ ps k)) 6 kH (hz:=zX _ _))<|oc (zPc (TB m g) zE iiz (fun u W hb (h:(fPV m (at_ ps k)).p u W)=>⟨u,_,rfl,h,rfl⟩))<|zD) fun a w5 s=> ?_
  refine zA rfl ?_
  refine StS.cond s (g (at_ ps k)) iiz (fun e=> ?_) (fun e=> ?_)
  ·refine tC ?_
   refine zB 2 ((17, .Z (uI (k:Int)))::(4, .u (uI (k:Int))):: []) hmix s kH
    (oc zC<|oc zG<|zD) fun a w6 s=> ?_
   refine zA rfl ?_
   refine tD ?_
   exact wH s (t:=4) rfl (fun v W h=>by rw [zQJ hk hx.2 e];exact h)
  ·refine tH ?_
   refine zZ 1 ((18, .u (uI ((k+1:Nat):Int))):: []) s kH
    (oc (yR .i64 (k:Int) 1 ((k+1:Nat):Int) iiz iiz (wrap64 _ _ oO oO))<|zD) fun a w7 s=> ?_
   replace s:=s.drop [8]
   refine zCD (uI ((k+1:Nat):Int)) rfl s kH zC kH fun a w s=> ?_
   refine zA rfl ?_
   exact ⟨k+1,⟨hk,fun j hj=>by rcases Nat.lt_or_eq_of_le (Nat.le_of_lt_succ hj) with h|h;exact hx.2 j h;rw [h];exact e⟩,(by show ps.length - (k+1)<ps.length - k;omega),s.keepK _ (fmz ⟨mz5,fmz ⟨mz6,fmz ⟨mz7,fmz ⟨.head _,fnz⟩⟩⟩⟩)⟩
 ·have hk:k=ps.length:=by have h7:=tO e;have h8:=hx.1;simp at h7;omega
  refine tR ?_
  refine tC ?_
  refine zB 1 ((4, .u (uI (-1))):: []) hmix s kH
   (oc zG<|zD) fun a w8 s=> ?_
  refine zA rfl ?_
  refine tD ?_
  exact wH s (t:=4) rfl (fun v W h=>by rw [zL5 (fun j hj=>hx.2 j oO)];exact h)
theorem zVg {m:Nat} {g:V2->Bool} {W:Wi} {l f:Wj} {ps:List V2} (hl:(SF.row 6 (pvs m ps)).p l W) (hf:(SF.fn prog (TB m g)).p f W) (hn:ps.length<=1000000):Calls prog 133 #[l,f] W (Ret W (fB (ps.any g)).tS):=by
 refine z5 [SF.row 6 (pvs m ps),SF.fn prog (TB m g)] func133 rfl kH ⟨hl,hf,trivial⟩ fun a s=> ?_
 refine tC ?_
 refine zB 1 ((4, .u (uB false)):: []) hmix s kH
  (oc zG<|zD) fun a w1 s=> ?_
 refine zA rfl ?_
 refine tC ?_
 replace s:=s.drop [4]
 refine zB 5 ((5, .s (SF.row 6 (pvs m ps)))::(6, .s (SF.fn prog (TB m g)))::(7, .Z (uI (zFd g ps)))::(8, .Z (uB (decide (zFd g ps≥0))))::(4, .u (uB (decide (zFd g ps≥0)))):: []) hmix s kH
  (oc zC<|oc zC<|oc (zJ zE zSC (fun u0 u1 W hb (h0:(SF.row 6 (pvs m ps)).p u0 W) (h1:(SF.fn prog (TB m g)).p u1 W)=>zTx h0 h1 hn))<|oc (zR .i64 (zFd g ps) 0 (decide (zFd g ps≥0)) iiz iiz rfl rfl)<|oc zG<|zD) fun a w2 s=> ?_
 refine zA rfl ?_
 refine tD ?_
 exact wH s (t:=4) rfl (fun v W h=>by rw [<-zJd];exact h)
theorem zFO (q:Rat):decide (q.num.sign>0)=decide (0<q):=by
 have h0:0<q↔0<q.num:=by rw [Rat.lt_iff];simp
 rw [decide_eq_decide,h0]
 constructor
 ·intro h;exact Int.sign_eq_one_iff_pos.1 (by have:=Int.sign_trichotomy q.num;omega)
 ·intro h;rw [zVM h];decide
theorem zLo {m:Nat} {W:Wi} {u v x:Wj} {y z p:V2} (h1:(fPV m p).p u W) (h2:(wB (cg (fPN (z.1 - y.1,z.2 - y.2)))).p v W) (h3:(wB (cg (fPV m y))).p x W) (hp:QB p.1 m/\QB p.2 m) (hy:QB y.1 m/\QB y.2 m) (hz:QB z.1 m/\QB z.2 m) (hm:m<=60) (hm0:0<m) (hT:Tab W):Calls prog 134 #[u,v,x] W (Ret W (fB (decide (0<crs y z p))).tS):=by
 have hd:QB (z.1 - y.1) (2*m+1)/\QB (z.2 - y.2) (2*m+1):=⟨(hz.1.sub hy.1).mono oO,(hz.2.sub hy.2).mono oO⟩
 have hs:QB (p.1 - y.1) (2*m+1)/\QB (p.2 - y.2) (2*m+1):=⟨(hp.1.sub hy.1).mono oO,(hp.2.sub hy.2).mono oO⟩
 refine z5 [(fPV m p).tS,wB (cg (fPN (z.1 - y.1,z.2 - y.2))),wB (cg (fPV m y))] func134 rfl kH ⟨h1,h2,h3,trivial⟩ fun a s=> ?_
 refine tC ?_
 refine zB 0 [] hmix s kH
  zD fun a w1 s=> ?_
 refine yN (CU.agg (fPV m p)) rfl s kH (fun v W h=>qC h) fun b3 a w s=> ?_
 refine yV (uB false) rfl s kH iiz fun a w s=> ?_
 refine zA rfl ?_
 refine tC ?_
 replace s:=s.drop [4]
 refine zB 8 ((5, .Z (fPN (z.1 - y.1,z.2 - y.2)))::(6, .Z (fPV m p))::(7, .Z (fPV m y))::(8, .Z (fPN (p.1 - y.1,p.2 - y.2)))::(9, .Z (fQN ((z.1 - y.1)*(p.2 - y.2) - (z.2 - y.2)*(p.1 - y.1))))::(10, .Z (uI (((z.1 - y.1)*(p.2 - y.2) - (z.2 - y.2)*(p.1 - y.1)).num.sign)))::(11, .Z (uB (decide (((z.1 - y.1)*(p.2 - y.2) - (z.2 - y.2)*(p.1 - y.1)).num.sign>0))))::(4, .u (uB (decide (((z.1 - y.1)*(p.2 - y.2) - (z.2 - y.2)*(p.1 - y.1)).num.sign>0)))):: []) hmix s kH
  (oc (zI (f:=fPN (z.1 - y.1,z.2 - y.2)) 6 kH (hz:=zX _ _))<|oc (zI (f:=fPV m p) 6 kH (hz:=zX _ _))<|oc (zI (f:=fPV m y) 6 kH (hz:=zX _ _))<|oc (zJ zE zOo (fun u0 u1 W hb (h0:(fPV m p).p u0 W) (h1:(fPV m y).p u1 W)=>zIu (p:=p) (q:=y) h0 h1 oO hm0 (hT.below (s.up hb))))<|oc (zJ zE zMk (fun u0 u1 W hb (h0:(fPN (z.1 - y.1,z.2 - y.2)).p u0 W) (h1:(fPN (p.1 - y.1,p.2 - y.2)).p u1 W)=>zC6 (p:=(z.1 - y.1,z.2 - y.2)) (q:=(p.1 - y.1,p.2 - y.2)) (zCa (p:=(z.1 - y.1,z.2 - y.2)) (m:=(2*m+1)) (hd.1.mono (by first|omega|decide)) (hd.2.mono (by first|omega|decide)) h0) (zCa (p:=(p.1 - y.1,p.2 - y.2)) (m:=(2*m+1)) (hs.1.mono (by first|omega|decide)) (hs.2.mono (by first|omega|decide)) h1) hd hs oO oO (hT.below (s.up hb))))<|oc (zH zE zQW (fun u0 W hb (h0:QNp ((z.1 - y.1)*(p.2 - y.2) - (z.2 - y.2)*(p.1 - y.1)) u0 W)=>zHS (wD (m:=2*(2*m+1)+2*(2*m+1)+1) h0 (((hd.1.mul hs.2).sub (hd.2.mul hs.1)).mono oO)) oO oO (hT.below (s.up hb))))<|oc (zR .i64 (((z.1 - y.1)*(p.2 - y.2) - (z.2 - y.2)*(p.1 - y.1)).num.sign) 0 (decide (((z.1 - y.1)*(p.2 - y.2) - (z.2 - y.2)*(p.1 - y.1)).num.sign>0)) iiz iiz rfl rfl)<|oc zG<|zD) fun a w2 s=> ?_
 refine zA rfl ?_
 refine tD ?_
 exact wH s (t:=4) rfl (fun v W h=>by rw [show decide (0<crs y z p)=decide (((z.1 - y.1)*(p.2 - y.2) - (z.2 - y.2)*(p.1 - y.1)).num.sign>0) from (zFO _).symm];exact h)
theorem zA7 {m:Nat} (hm0:0<m) {p:V2} {v:Wj} {W:Wi} (h:(fPV m p).p v W):QB p.1 m/\QB p.2 m:=by
 obtain ⟨_,_,_,_,_,_,_,_,_,_,_,_,_,_,_,h1,h2⟩:=h
 exact ⟨h1.qb hm0,h2.qb hm0⟩
theorem zLn (y z:V2) (ps:List V2):jH y z ps= !(ps.any fun p=>decide (0<crs y z p)):=by
 unfold jH
 induction ps with
 |nil=>rfl
 |cons p ps ih=>rw [List.all_cons,List.any_cons,ih,Bool.not_or]
theorem zOH {m:Nat} {W:Wi} {u v l:Wj} {y z:V2} {ps:List V2} (h1:(fPV m y).p u W) (h2:(fPV m z).p v W) (hl:(SF.row 6 (pvs m ps)).p l W) (hm:m<=60) (hm0:0<m) (hn:ps.length<=1000000) (hT:Tab W):Calls prog 111 #[u,v,l] W (Ret W (fB (jH y z ps)).tS):=by
 have hy:=zA7 hm0 h1
 have hz:=zA7 hm0 h2
 refine z5 [(fPV m y).tS,(fPV m z).tS,SF.row 6 (pvs m ps)] func111 rfl kH ⟨h1,h2,hl,trivial⟩ fun a s=> ?_
 refine tC ?_
 refine zB 0 [] hmix s kH
  zD fun a w1 s=> ?_
 refine yN (CU.agg (fPV m y)) rfl s kH (fun v W h=>qC h) fun b3 a w s=> ?_
 refine yN (CU.agg (fPV m z)) rfl s kH (fun v W h=>qC h) fun b4 a w s=> ?_
 refine yV (uB false) rfl s kH iiz fun a w s=> ?_
 refine zA rfl ?_
 refine tC ?_
 refine zB 3 ((8, .Z (fPV m z))::(9, .Z (fPV m y))::(10, .u (fPN (z.1 - y.1,z.2 - y.2))):: []) hmix s kH
  (oc (zI (f:=fPV m z) 6 kH (hz:=zX _ _))<|oc (zI (f:=fPV m y) 6 kH (hz:=zX _ _))<|oc (zJ zE zOo (fun u0 u1 W hb (h0:(fPV m z).p u0 W) (h1:(fPV m y).p u1 W)=>zIu (p:=z) (q:=y) h0 h1 oO hm0 (hT.below (s.up hb))))<|zD) fun a w2 s=> ?_
 refine zU (CU.len 6) (cs:=zP6) kH rfl s kH (fun W=>rfl) rfl fun b7 a w s=> ?_
 refine zN (CU.agg (fPN (z.1 - y.1,z.2 - y.2))) ((fPN (z.1 - y.1,z.2 - y.2)).tS) rfl s kH rfl rfl rfl iiz iiz qK fun a w s=> ?_
 refine zA rfl ?_
 refine tC ?_
 replace s:=s.drop [6]
 refine zB 5 ((11, .s (SF.row 6 (pvs m ps)))::(12, .s (SF.fn prog (TB m (fun p=>decide (0<crs y z p)))))::(13, .Z (uB (ps.any (fun p=>decide (0<crs y z p)))))::(14, .Z (uB (!(ps.any (fun p=>decide (0<crs y z p))))))::(6, .u (uB (!(ps.any (fun p=>decide (0<crs y z p)))))):: []) hmix s kH
  (oc zC<|oc (zNW (fun u v W hb (h:(wE b7 (cg (fPN (z.1 - y.1,z.2 - y.2)))).p u W) (h':(wE b3 (cg (fPV m y))).p v W)=>zFz (enters_of func134 kH rfl) (fun W' hb' args R ⟨u1,p,e,h1,hR⟩=>by subst e hR;simpa using zLo h1 ((wB _).st _ _ _ h.2 hb') ((wB _).st _ _ _ h'.2 hb') (zA7 hm0 h1) hy hz hm hm0 ((hT.below (s.up hb)).below hb'))))<|oc (zJ zE zSE (fun u0 u1 W hb (h0:(SF.row 6 (pvs m ps)).p u0 W) (h1:(SF.fn prog (TB m (fun p=>decide (0<crs y z p)))).p u1 W)=>zVg h0 h1 hn))<|oc (zAy (ps.any (fun p=>decide (0<crs y z p))) iiz (fun _=>rfl))<|oc zG<|zD) fun a w3 s=> ?_
 refine zA rfl ?_
 refine tD ?_
 exact wH s (t:=6) rfl (fun v W h=>by rw [show jH y z ps= !(ps.any (fun p=>decide (0<crs y z p))) from zLn y z ps];exact h)
theorem zG0 {ps:List V2} {t:V2} {k:Nat} (h:k<ps.length):pns ((yS ps t).take (k+1))=pns ((yS ps t).take k)++ [CU.agg (fPN (zMU (at_ ps k) t))]:=by
 rw [zNO (by rw [zAC];exact h),zGs h]
theorem zOD {m:Nat} {W:Wi} {l v:Wj} {t:V2} {ps:List V2} (hl:(SF.row 6 (pvs m ps)).p l W) (h1:(fPV m t).p v W) (hm:m<=60) (hm0:0<m) (hps:ps.length<=1000000) (hT:Tab W):Calls prog 81 #[l,v] W (Ret W (wL W 31 6 (pns (yS ps t)))):=by
 refine z5 [(UF.eq l).tS,(fPV m t).tS] func81 rfl kH ⟨rfl,h1,trivial⟩ fun a s=> ?_
 replace s:=s.renew [(0, .u (UF.eq l)),(1, .u (fPV m t))] (fmz ⟨.inr ⟨_,rfl, .head _⟩,fmz ⟨.inr ⟨_,rfl,mz1⟩,fnz⟩⟩)
 refine tC ?_
 refine zB 0 [] hmix s kH
  zD fun a w1 s=> ?_
 refine yN (CU.agg (fPV m t)) rfl s kH (fun v W h=>qC h) fun b3 a w s=> ?_
 refine yV (UF.eq (.slice none 0 0)) rfl s kH iiz fun a w s=> ?_
 refine zA rfl ?_
 refine tC ?_
 refine tC ?_
 refine zB 3 ((7, .u (UF.eq l))::(8, .u (uI ((pvs m ps).length:Int)))::(9, .u (uI 0)):: []) hmix s kH
  (oc zC<|oc (jC (z:=6) (Cs:=pvs m ps) kH (fun v W hb h=>(yK hl h (s.up hb))) (fun _=>rfl))<|oc zC<|zD) fun a w2 s=> ?_
 refine zA rfl ?_
 refine tG ?_
 replace s:StS _ _ _ [⟨3,31,CU.agg (fPV m t),b3,true⟩] _ _ _ _:=s.freeze
 obtain ⟨base,hbase⟩: ∃b,b=w2.heap.size:=⟨_,rfl⟩
 have hb3:b3<base:=by rw [hbase];exact s.old _ (.head _)
 have hb0:W.heap.size<=base:=by rw [hbase];exact s.gr.size
 have hsz0:base<=w2.heap.size:=by rw [hbase];exact tN _
 refine zDH (fun (p:Nat×Wj) w=>p.1<=ps.length/\base<=w.heap.size/\zBS w base 31 6 p.2 (pns ((yS ps t).take p.1))) (fun p=> [(0, .u (UF.eq l)),(7, .u (UF.eq l)),(8, .u (uI ((pvs m ps).length:Int))),(4, .u (UF.eq (p.2))),(9, .u (uI (p.1:Int)))]) (fun p=>ps.length - p.1) (0, .slice none 0 0) (⟨tK _,hsz0,zBS.nil _ _ _ _⟩) (s.keepK _ (fmz ⟨mz4,fmz ⟨.head _,fmz ⟨mz1,fmz ⟨mz3,fmz ⟨mz2,fnz⟩⟩⟩⟩⟩)) fun p a w hI s=> ?_
 have s0:=s
 have hlw:=(SF.row 6 (pvs m ps)).st _ _ _ hl s0.below
 have hT0:=hT
 have hT:=hT0.below s0.below
 replace s:=s.reb rfl [(0, .u (UF.eq l)),(7, .u (UF.eq l)),(8, .u (uI ((pvs m ps).length:Int))),(4, .u (UF.eq (p.2))),(9, .u (uI (p.1:Int)))] (fmz ⟨.inl (.head _),fmz ⟨.inl mz1,fmz ⟨.inl mz2,fmz ⟨.inl mz3,fmz ⟨.inl mz4,fnz⟩⟩⟩⟩⟩)
 refine tC ?_
 refine zB 1 ((10, .u (uB (decide ((p.1:Int)<((pvs m ps).length:Int))))):: []) hmix s kH
  (oc (zR .i64 (p.1:Int) ((pvs m ps).length:Int) (decide ((p.1:Int)<((pvs m ps).length:Int))) iiz iiz rfl rfl)<|zD) fun a w3 s=> ?_
 refine zA rfl ?_
 refine tC ?_
 refine StS.cond s (decide ((p.1:Int)<((pvs m ps).length:Int))) iiz (fun e=> ?_) (fun e=> ?_)
 ·have hk:p.1<ps.length:=by have:=tP e;simp at this;omega
  refine tH ?_
  refine tC ?_
  refine tG ?_
  refine tC ?_
  refine zB 2 ((11, .Y (fPV m (at_ ps p.1)))::(12, .u (fPV m (at_ ps p.1))):: []) hmix s kH
   (oc (yP (z:=6) (Cs:=pvs m ps) (i:=p.1) (C:=CU.agg (fPV m (at_ ps p.1))) kH (jA hk) (fun v W hb h=>(yK hlw h (s.up hb))) iiz)<|oc (zI (f:=fPV m (at_ ps p.1)) 6 kH (hz:=zX _ _))<|zD) fun a w4 s=> ?_
  refine zU (CU.len 6) (cs:=zP6) kH rfl s kH (fun W=>rfl) rfl fun b6 a w s=> ?_
  refine zN (CU.agg (fPV m (at_ ps p.1))) ((fPV m (at_ ps p.1)).tS) rfl s kH rfl rfl rfl iiz iiz qK fun a w s=> ?_
  refine zA rfl ?_
  refine zBZ 5 ((13, .u (UF.eq (p.2)))::(14, .Z (fPV m (at_ ps p.1)))::(15, .Z (fPV m t))::(16, .Z (fPN ((at_ ps p.1).1+t.1,(at_ ps p.1).2+t.2)))::(17, .s (SF.row 6 [CU.agg (fPN ((at_ ps p.1).1+t.1,(at_ ps p.1).2+t.2))])):: []) s kH
   (oc zC<|oc (zI (f:=fPV m (at_ ps p.1)) 6 kH (hz:=zX _ _))<|oc (zI (f:=fPV m t) 6 kH (hz:=zX _ _))<|oc (zJ zE zSP (fun u0 u1 W hb (h0:(fPV m (at_ ps p.1)).p u0 W) (h1:(fPV m t).p u1 W)=>zRo (p:=at_ ps p.1) (q:=t) h0 h1 oO hm0 (hT.below (s.up hb))))<|oc (zAe (fun u W (hu:(fPN ((at_ ps p.1).1+t.1,(at_ ps p.1).2+t.2)).p u W)=>zGL hu))<|zD) fun a w5 s hr=> ?_
  refine zJy ([CU.agg (fPN ((at_ ps p.1).1+t.1,(at_ ps p.1).2+t.2))]) s0 (s.keepK [(13, .u (UF.eq (p.2))),(12, .u (fPV m (at_ ps p.1))),(10, .u (uB (decide ((p.1:Int)<((pvs m ps).length:Int))))),(0, .u (UF.eq l)),(7, .u (UF.eq l)),(8, .u (uI ((pvs m ps).length:Int))),(4, .u (UF.eq (p.2))),(9, .u (uI (p.1:Int)))] (fmz ⟨.head _,fmz ⟨mz1,fmz ⟨mz2,fmz ⟨mz3,fmz ⟨mz4,fmz ⟨mz5,fmz ⟨mz6,fmz ⟨mz7,fnz⟩⟩⟩⟩⟩⟩⟩⟩)) hb0 hI.2 rfl kH kH kH (s.fct (.tmp 13)) (hr (_,_) mz4) (zG5 _ _) (by simp [zAC];omega) (fun q hq hr=>by rcases tL.1 hq with rfl|hq;cases hr;rcases tL.1 hq with rfl|hq;exact hb3;cases hq) fun v' a w hI' s=> ?_
  have s1:=s
  replace s:StS _ _ _ [⟨6,31,CU.agg (fPV m (at_ ps p.1)),b6,true⟩,⟨3,31,CU.agg (fPV m t),b3,true⟩] _ _ _ _:=s.freeze
  replace s:=s.reb rfl [(18, .u (UF.eq v')),(13, .u (UF.eq (p.2))),(12, .u (fPV m (at_ ps p.1))),(10, .u (uB (decide ((p.1:Int)<((pvs m ps).length:Int))))),(0, .u (UF.eq l)),(7, .u (UF.eq l)),(8, .u (uI ((pvs m ps).length:Int))),(4, .u (UF.eq (p.2))),(9, .u (uI (p.1:Int)))] (fmz ⟨.inl (.head _),fmz ⟨.inl mz1,fmz ⟨.inl mz2,fmz ⟨.inl mz3,fmz ⟨.inl mz4,fmz ⟨.inl mz5,fmz ⟨.inl mz6,fmz ⟨.inl mz7,fmz ⟨.inl mz8,fnz⟩⟩⟩⟩⟩⟩⟩⟩⟩)
  replace s:=s.drop [4]
  refine yV (UF.eq v') rfl s kH iiz fun a w s=> ?_
  refine zA rfl ?_
  refine zZ 1 ((19, .u (uI ((p.1+1:Nat):Int))):: []) s kH
   (oc (yR .i64 (p.1:Int) 1 ((p.1+1:Nat):Int) iiz iiz (wrap64 _ _ oO oO))<|zD) fun a w6 s=> ?_
  replace s:=s.drop [9]
  refine zCD (uI ((p.1+1:Nat):Int)) rfl s kH zC kH fun a w s=> ?_
  refine zA rfl ?_
  replace s:=s.popB
  have hbw:=s.below
  replace s:=s1.back (s.keepK [(9, .u (uI ((p.1+1:Nat):Int))),(19, .u (uI ((p.1+1:Nat):Int))),(4, .u (UF.eq v')),(18, .u (UF.eq v')),(13, .u (UF.eq (p.2))),(12, .u (fPV m (at_ ps p.1))),(10, .u (uB (decide ((p.1:Int)<((pvs m ps).length:Int))))),(0, .u (UF.eq l)),(7, .u (UF.eq l)),(8, .u (uI ((pvs m ps).length:Int)))] (fmz ⟨.head _,fmz ⟨mz1,fmz ⟨mz2,fmz ⟨mz3,fmz ⟨mz4,fmz ⟨mz5,fmz ⟨mz6,fmz ⟨mz7,fmz ⟨mz8,fmz ⟨mz9,fnz⟩⟩⟩⟩⟩⟩⟩⟩⟩⟩)) rfl
  exact ⟨(p.1+1,v'),(by show ps.length - (p.1+1)<ps.length - p.1;omega),⟨hk,tI hI'.1 hbw.size,by rw [zG0 hk];exact hI'.2.below hbw⟩,s.keepK _ (fmz ⟨mz7,fmz ⟨mz8,fmz ⟨mz9,fmz ⟨mz2,fmz ⟨.head _,fnz⟩⟩⟩⟩⟩)⟩
 ·have hk:p.1=ps.length:=by have h7:=tO e;have h8:=hI.1;simp at h7;omega
  refine tR ?_
  refine tC ?_
  refine zZ 1 ((20, .u (UF.eq (p.2))):: []) s kH
   (oc zC<|zD) fun a w7 s=> ?_
  replace s:=s.drop [4]
  refine yV (UF.eq (p.2)) rfl s kH iiz fun a w s=> ?_
  refine zA rfl ?_
  refine tD ?_
  exact StS.resN s s0.below rfl (by rw [s.val (.head _)];have:=(hI.2.2.below s.below).mono hb0;rw [hk,List.take_of_length_le (by rw [zAC];exact tN _)] at this;exact this)
end Go.Proofs.Wd

namespace Go.Proofs.Wd
open Tryz
set_option maxRecDepth 100000
set_option maxHeartbeats 1000000
open Go.RowKit Lb
theorem zDu {N:Nat} {w w1:Wi} (hb:Below w.heap.size w w1) (hN:N<=w.heap.size):Itr N w w1:=
 ⟨hb.os,hb.tape,hb.output,hb.size,fun k hk=>hb.block k (tF hk hN),fun k _o ho _=>(hb.block k (zVI.1 ho).1).trans ho,zS hb⟩
theorem zKO {N:Nat} {C:Nat->Prop} {w0 w w1:Wi} (hb:Below w0.heap.size w0 w) (hr:Rnd N C w w1) (hN:w0.heap.size<=N) (hC: ∀k,C k->w0.heap.size<=k):Below w0.heap.size w0 w1:=
 ⟨hr.os.trans hb.os,hr.tape.trans hb.tape,hr.output.trans hb.output,tI hb.size hr.size,fun k hk=>(hr.low k (tF hk hN) (fun h=>by have:=hC k h;omega)).trans (hb.block k hk)⟩
theorem zBA {z:Nat} {Cs:List CU} {v:Wj} {W:Wi} (h:(SF.row z Cs).p v W):v.cells=#[v]/\zY v=true:=by
 obtain ⟨A,c,rfl,_⟩:=h
 exact ⟨rfl,rfl⟩
theorem zOK {W:Wi} {l:Wj} (hlc:l.cells=#[l]/\zY l=true):Calls prog 110 #[l] W (Ret W (zJZ W 132 22 (wC [l]))):=by
 refine z5 [(UF.eq l).tS] func110 rfl kH ⟨rfl,trivial⟩ fun a s=> ?_
 refine tC ?_
 refine zB 0 [] hmix s kH
  zD fun a w1 s=> ?_
 refine yN (wC [l]) rfl s kH (fun v W h=>zL3 h hlc.1 hlc.2) fun b1 a w s=> ?_
 refine yV (UF.eq (.nilFunc)) rfl s kH iiz fun a w s=> ?_
 refine zA rfl ?_
 refine tC ?_
 replace s:=s.drop [2]
 refine zB 2 ((3, .Z (UF.eq (.func (.func 132) #[] #[pO b1 0])))::(2, .u (UF.eq (.func (.func 132) #[] #[pO b1 0]))):: []) hmix s kH
  (oc (zDj (fun u W hb (h:(wE b1 (wC [l]).cf).p u W)=>by rw [h.1];rfl))<|oc zG<|zD) fun a w2 s=> ?_
 refine zA rfl ?_
 refine tD ?_
 obtain ⟨cs,e1,e2,e3⟩:=s.boxAt (c:=1) rfl
 exact StS.resN s (tJ _ _) rfl ⟨b1,cs,s.val (.head _),s.inB_new ⟨_, .head _,rfl,rfl⟩,e1,e2,e3⟩
theorem zHu {S:Nat->Prop} {w0 w w1:Wi} (hb:Below w0.heap.size w0 w) (hr:BlS S w w1) (hC: ∀k,S k->w0.heap.size<=k):Below w0.heap.size w0 w1:=
 ⟨hr.os.trans hb.os,hr.tape.trans hb.tape,hr.output.trans hb.output,tI hb.size hr.size,fun k hk=>(hr.block k (tF hk hb.size) (fun h=>by have:=hC k h;omega)).trans (hb.block k hk)⟩
theorem zOr {w0 w_:Wi} {m b:Nat} {l:Wj} {ps:List V2} {C:Nat->Prop} (hh:w_.heap[b]?=some (.cells #[l] 22 (0,0))) (hl:(SF.row 6 (pvs m ps)).p l w0) (hb0:Below w0.heap.size w0 w_) (hCl: ∀k,C k->k<w_.heap.size) (hC0: ∀k,C k->w0.heap.size<=k) (hCb: ¬C b) (hn:ps.length<=1000000):
  ItC prog 132 #[pO b 0] (fun k=> [fPV m (at_ ps k),fPV m (tn ps k)]) ps.length False C w_:=by
 intro l_ J Z W hwW hbW hkW hJs hZs hend hround hJ0
 have hlc:=zBA hl
 have hw0:w0.heap.size<=w_.heap.size:=hb0.size
 have hbW0:Below w0.heap.size w0 W:=hb0.trans (hbW.mono hb0.size)
 have hlW:=(SF.row 6 (pvs m ps)).st _ _ _ hl hbW0
 have hhW:W.heap[b]?=some (.cells #[l] 22 (0,0)):=(hbW.block b (zVI.1 hh).1).trans hh
 refine zJc func132 rfl ?_
 have s:=zIE (w:=W) (fn:=f132) (args:=#[.func (.yield l_) #[] #[]]++#[pO b 0]) noS [(0,UF.eq (.func (.yield l_) #[] #[]))] [⟨1,22,wC [l],b,true⟩] kH (fun q hq=>by obtain rfl:=tS.1 hq;exact ⟨by simp,rfl⟩) ⟨⟨[l],rfl, .inl rfl,hhW,rfl,by simp [hlc.2],fun y hy=>by cases hy⟩,trivial⟩ (fun x hx=>by obtain rfl:=tS.1 hx;show 1<2;decide)
 generalize ({ tmps:=#[.func (.yield l_) #[] #[]]++#[pO b 0]++Array.replicate (f132.ntmps - (#[.func (.yield l_) #[] #[]]++#[pO b 0]:Array Wj).size) undef,defers:= [] }:Act)=a at s ⊢
 refine tC ?_
 refine zB 3 ((5, .u (UF.eq l))::(6, .u (uI ((pvs m ps).length:Int)))::(7, .u (uI 0)):: []) hmix s kH
  (oc (qY (C:=(wC [l]).cf) kH (fun _ _ h=>h.2) zCR)<|oc (jC (z:=6) (Cs:=pvs m ps) kH (fun v W hb h=>(yK hlW h (s.up hb))) (fun _=>rfl))<|oc zC<|zD) fun a w1 s=> ?_
 refine zA rfl ?_
 refine tG ?_
 have hJw:J 0 w1:=hJs 0 _ _ hJ0 (zDu s.below lr)
 have hBw0:Below w0.heap.size w0 w1:=hbW0.trans (s.below.mono hbW0.size)
 have hW0:=s.gr.size
 replace s:=(s.keepK [(0, .u (UF.eq (.func (.yield l_) #[] #[]))),(5, .u (UF.eq l)),(6, .u (uI ((pvs m ps).length:Int))),(7, .u (uI ((0:Nat):Int)))] (fmz ⟨mz3,fmz ⟨.head _,fmz ⟨mz1,fmz ⟨mz2,fnz⟩⟩⟩⟩)).self (q8 kH)
 refine zCK (fun k a w=>k<=ps.length/\J k w/\Below w0.heap.size w0 w/\W.heap.size<=w.heap.size/\StS (inB [⟨1,22,wC [l],b,true⟩]) w [(0, .u (UF.eq (.func (.yield l_) #[] #[]))),(5, .u (UF.eq l)),(6, .u (uI ((pvs m ps).length:Int))),(7, .u (uI ((k:Nat):Int)))] [⟨1,22,wC [l],b,true⟩] f132.ntmps [] a w) (fun k=>ps.length - k) 0 ⟨tK _,hJw,hBw0,hW0,s⟩ fun k a w ⟨hk,hJ,hBw,hWs,s⟩=> ?_
 have s0:=s
 replace s:=s.toSt (fun q ⟨x,hx,_,hr⟩=>by obtain rfl:=tS.1 hx;cases hr) rfl
 have hlw:=(SF.row 6 (pvs m ps)).st _ _ _ hl hBw
 refine tC ?_
 refine zB 1 ((8, .u (uB (decide ((k:Int)<((pvs m ps).length:Int))))):: []) hmix s kH
  (oc (zR .i64 (k:Int) ((pvs m ps).length:Int) (decide ((k:Int)<((pvs m ps).length:Int))) iiz iiz rfl rfl)<|zD) fun a w2 s=> ?_
 refine zA rfl ?_
 refine tC ?_
 refine StS.cond s (decide ((k:Int)<((pvs m ps).length:Int))) iiz (fun e=> ?_) (fun e=> ?_)
 ·have hkn:k<ps.length:=by have:=tP e;simp at this;omega
  have hkm:(k+1) % ps.length<ps.length:=Nat.mod_lt _ oO
  refine tH ?_
  refine tC ?_
  refine tG ?_
  refine tC ?_
  refine zB 3 ((9, .u (uI (k:Int)))::(10, .Y (fPV m (at_ ps k)))::(11, .u (fPV m (at_ ps k))):: []) hmix s kH
   (oc zC<|oc (yP (z:=6) (Cs:=pvs m ps) (i:=k) (C:=CU.agg (fPV m (at_ ps k))) kH (jA hkn) (fun v W hb h=>(yK hlw h (s.up hb))) iiz)<|oc (zI (f:=fPV m (at_ ps k)) 6 kH (hz:=zX _ _))<|zD) fun a w3 s=> ?_
  refine zU (CU.len 6) (cs:=zP6) kH rfl s kH (fun W=>rfl) rfl fun b4 a w s=> ?_
  refine yV (uI (k:Int)) rfl s kH iiz fun a w s=> ?_
  refine zN (CU.agg (fPV m (at_ ps k))) ((fPV m (at_ ps k)).tS) rfl s kH rfl rfl rfl iiz iiz qK fun a w s=> ?_
  refine zA rfl ?_
  refine tC ?_
  refine yL [0,3] 10 ((12, .u (UF.eq (.func (.yield l_) #[] #[])))::(13, .u (fPV m (at_ ps k)))::(14, .Z (UF.eq l))::(15, .Z (uI (k:Int)))::(16, .Z (uI ((k+1:Nat):Int)))::(17, .Z (UF.eq l))::(18, .Z (uI ((pvs m ps).length:Int)))::(19, .Z (uI (((k+1) % ps.length:Nat):Int)))::(20, .Y (fPV m (tn ps k)))::(21, .u (fPV m (tn ps k))):: []) hmix s kH
   (oc zC<|oc (zI (f:=fPV m (at_ ps k)) 6 kH (hz:=zX _ _))<|oc (qY (C:=(wC [l]).cf) kH (fun _ _ h=>h.2) zCR)<|oc zC<|oc (yR .i64 (k:Int) 1 ((k+1:Nat):Int) iiz iiz (wrap64 _ _ oO oO))<|oc (qY (C:=(wC [l]).cf) kH (fun _ _ h=>h.2) zCR)<|oc (jC (z:=6) (Cs:=pvs m ps) kH (fun v W hb h=>(yK hlw h (s.up hb))) (fun _=>rfl))<|oc (zH6 .i64 ((k+1:Nat):Int) ((pvs m ps).length:Int) (((k+1) % ps.length:Nat):Int) iiz iiz (by simp only [tU];omega) (by simp only [tU];rw [Int.tmod_eq_emod_of_nonneg oO];rfl))<|oc (yP (z:=6) (Cs:=pvs m ps) (i:=((k+1) % ps.length)) (C:=CU.agg (fPV m (tn ps k))) kH (jA hkm) (fun v W hb h=>(yK hlw h (s.up hb))) iiz)<|oc (zI (f:=fPV m (tn ps k)) 6 kH (hz:=zX _ _))<|zD) fun Q' hQ a w4 s=> ?_
  have hJ1:J k w4:=hJs _ _ _ hJ (zDu s.below hWs)
  have hB1:Below w0.heap.size w0 w4:=hBw.trans (s.below.mono hBw.size)
  have hb4:=s.inB_new (q:=b4) ⟨_, .head _,rfl,rfl⟩
  have hws:=s.gr.size
  have hcx: ∀x,x∈([⟨4,31,CU.agg (fPV m (at_ ps k)),b4,false⟩,⟨1,22,wC [l],b,true⟩]:List Bx)-> ¬C x.b:=fun x hx hc=>by
   rcases tL.1 hx with rfl|hx
   ·have:=hCl _ hc;show False;have h9:b4<w_.heap.size:=this;omega
   ·obtain rfl:=tS.1 hx;exact hCb hc
  refine zFL rfl s iiz kH (q8 kH) hcx (hround k _ _ hkn hJ1 ⟨by simp,fun j f hj=> ?_⟩) fun a w bv hr hbv s=> ?_
  ·match j,hj with
   |0,hj=>obtain rfl:=tT hj;rw [zTE];exact s.at.sl 13
   |1,hj=>obtain rfl:=tT hj;rw [zTD];exact s.at.sl 21
  have hB2:=zKO hB1 hr hw0 hC0
  have sy:=s
  refine zCD (uB (!bv)) rfl s kH (zAy bv iiz (fun _=>rfl)) kH fun a w s=> ?_
  refine zA rfl (hQ _ _ ?_)
  have hsz2:=hr.size
  have hitr:=sy.itr_to (N:=W.heap.size) s.gr (fun x hx hr1=>by rcases tL.1 hx with rfl|hx;show W.heap.size<=b4;omega;obtain rfl:=tS.1 hx;cases hr1) oO
  refine StS.cond s (!bv) iiz (fun e=> ?_) (fun e=> ?_)
  ·have hz:=hZs _ _ (by rcases hbv with ⟨e2,_⟩|⟨_,hz⟩;rw [e2] at e;cases e;exact hz) hitr
   refine tD ?_
   exact ⟨s.nd, .tuple #[],by simp [results,results132],⟨_,rfl⟩, .inr hz⟩
  ·have hJ2:=hJs _ _ _ (by rcases hbv with ⟨_,hj⟩|⟨e2,_⟩;exact hj;rw [e2] at e;cases e) hitr
   have hB3:=(tJ w0.heap.size w0).trans (zHu hB2 s.gr (fun q ⟨x,hx,e1,hr1⟩=>by rcases tL.1 hx with rfl|hx;have e1:b4=q:=e1;omega;obtain rfl:=tS.1 hx;cases hr1))
   have hW3:=s.gr.size
   have sx:=s
   replace s:=s.self (q8 kH)
   refine tH ?_
   refine zZ 1 ((24, .u (uI ((k+1:Nat):Int))):: []) s kH
    (oc (yR .i64 (k:Int) 1 ((k+1:Nat):Int) iiz iiz (wrap64 _ _ oO oO))<|zD) fun a w5 s=> ?_
   replace s:=s.drop [7]
   refine zCD (uI ((k+1:Nat):Int)) rfl s kH zC kH fun a w s=> ?_
   refine zA rfl ?_
   have hsz4:=s.gr.size
   have hit2:=sx.itr_to (N:=W.heap.size) s.gr (fun x hx hr1=>by rcases tL.1 hx with rfl|hx;show W.heap.size<=b4;omega;obtain rfl:=tS.1 hx;cases hr1) oO
   have hB4:=zHu hB3 s.gr (fun q ⟨x,hx,e1,hr1⟩=>by rcases tL.1 hx with rfl|hx;have e1:b4=q:=e1;omega;obtain rfl:=tS.1 hx;cases hr1)
   exact ⟨k+1,by show ps.length - (k+1)<ps.length - k;omega,hkn,hJs _ _ _ hJ2 hit2,hB4,by omega,((s.keepK _ (fmz ⟨zH8,fmz ⟨zKd,fmz ⟨zMT,fmz ⟨.head _,fnz⟩⟩⟩⟩)).popB).self (q8 kH)⟩
 ·have hkn:k=ps.length:=by have h7:=tO e;simp at h7;omega
  refine tR ?_
  exact ⟨s.nd, .tuple #[],by simp [results,results132],⟨_,rfl⟩, .inl (by rw [<-hkn];exact hJs _ _ _ hJ (zDu s.below hWs))⟩
end Go.Proofs.Wd

namespace Go.Proofs.Wd
open Tryz
set_option maxRecDepth 100000
set_option maxHeartbeats 1000000
open Go.RowKit Lb
def wG (v:Wj) (P:Prop):CU:=⟨fun cs _=>cs= [v]/\P,fun _ _ _ h _=>h⟩
theorem zDQ {u:Wj} {P:Prop}: ∀cs W,(wG u P).p cs W-> ∃x,cs[0]?=some x/\(UF.eq u).p x W:=fun cs W h=>by
 obtain ⟨rfl,_⟩:=h
 exact ⟨u,rfl,rfl⟩
theorem zCT {b:Bool} {C:CU} {Q:Prop} (hC: ∀cs W,C.p cs W->cs.length=1/\Q) (v:Wj) (W:Wi) (h:(uB b).p v W):v.cells.size=1/\(∀u,u∈v.cells.toList->u.oneCell'=true)/\v.cells.toList.all zY=true/\ ∀cs,C.p cs W->0+1<=cs.length/\(wG (.bool b) Q).p (jW cs 0 v.cells.toList) W:=by
 obtain rfl:v=_:=h
 refine ⟨rfl,fun u hu=>by simp [Value.cells] at hu;rw [hu];rfl,rfl,fun cs hc=> ?_⟩
 obtain ⟨hc',hq⟩:=hC cs W hc
 obtain ⟨c,rfl⟩:=List.length_eq_one_iff.1 hc'
 exact ⟨by simp,rfl,hq⟩
theorem zGf {u:Wj} {P:Prop}: ∀cs W,(wG u P).p cs W->cs.length=1/\P:=fun cs W h=>⟨by rw [h.1];rfl,h.2⟩
theorem zMH {vs:List Wj} {k:Nat} (h:vs.length=k): ∀cs:List Wj, ∀W,(UF.eq (.agg vs.toArray)).p (.agg cs.toArray) W->cs.length=k:=fun cs W e=>by
 have:=tX Array.toList (jJ e)
 simp at this
 rw [this,h]
theorem zDE {vs:List Wj} {k:Nat} (h:vs.length=k) (h1: ∀u,u∈vs->u.oneCell'=true) (h2:vs.all zY=true) (v:Wj) (W:Wi) (e:(UF.eq (.agg vs.toArray)).p v W): ∃us:List Wj,v= .agg us.toArray/\us.length=k/\(∀u,u∈us->u.oneCell'=true)/\us.all zY=true/\(CU.agg (UF.eq (.agg vs.toArray))).p us W:=⟨vs,e,h,h1,h2,rfl⟩
theorem zMI {vs:List Wj} {k:Nat} {u:Wj} (h:vs[k]?=some u): ∀cs W,(CU.agg (UF.eq (.agg vs.toArray))).p cs W-> ∃x,cs[k]?=some x/\(UF.eq u).p x W:=fun cs W e=>by
 have:=tX Array.toList (jJ e)
 simp at this
 rw [this]
 exact ⟨u,h,rfl⟩
section
variable {F:Fence} {m:Nat} {P:Program} {w0:Wi} {ops:Array Oper} {G:Nat->SF} {d:Tmp} {ty:Wk} {pos:String} {aft:Array Edge}
def zHx (P:Program) (t:Wk) (i:Nat):Wl Nat:=match P.underlying t with
 |some (.array n e)=>match P.info? e with
  |some ie=>if i<n then some (i*ie.size) else none
  |none=>none
 |_=>none
theorem zEW {x y:Operand} {t:Wk} {C:CF} (i k:Nat) (hk:zHx P t i=some k) (hx: ∀v W,(fct G x).p v W->(wB C).p v W) (hy: ∀v W,(fct G y).p v W->v= .int .i64 (i:Int)) (hd: ∀v W,(wB (C.at k)).p v W->(G d).p v W:=by exact fun _ _ h=>h):qP F m P w0 ops G ⟨some d, .indexAddr t x y,ty,pos,aft,none⟩:=
 qU (fun _ e=>by cases e) (fun _ e=>by cases e) fun b W hb hh=>by
  obtain ⟨a,q,cs,e,h2,h3⟩:=hx _ _ (hh x (by simp [Op.operands]))
  have e2:=hy _ _ (hh y (by simp [Op.operands]))
  unfold zHx at hk
  split at hk<;>try cases hk
  rename_i n el hu
  split at hk<;>try cases hk
  rename_i ie hie
  split at hk<;>try cases hk
  rename_i hlt
  refine ⟨.pointer (some ⟨a,q+i*ie.size,none⟩), ?_,hd _ _ ⟨_,_,_,rfl,⟨cs,h2,rfl⟩,h3.drop _⟩⟩
  have h9: ¬n<=i:=by omega
  simp [execOp,Instr.indexAt,run_underlying hu,e,e2,Instr.sureAddr,sizeOf,typeInfo,hie,Addr.add_lit,asIntOf,hlt]
theorem zLv {x y:Operand} {t:Wk} (u v r:Wj) (hx: ∀q W,(fct G x).p q W->q=u) (hy: ∀q W,(fct G y).p q W->q=v) (hr: ∀W,(Instr.index t u v).run P W= .ok r W) (hd: ∀W,(G d).p r W:=by exact fun _=>rfl):qP F m P w0 ops G ⟨some d, .index t x y,ty,pos,aft,none⟩:=
 qU (fun _ e=>by cases e) (fun _ e=>by cases e) fun b W hb hh=>by
  have e1:=hx _ _ (hh x (by simp [Op.operands]))
  have e2:=hy _ _ (hh y (by simp [Op.operands]))
  exact ⟨r,by simp [execOp,e1,e2,hr W],hd _⟩
end
theorem bA2 (A A':Wl Addr) (n n' c c':Nat):prog.built 96 [(0, .slice A n c),(1, .slice A' n' c')]=some #[.slice A n c, .slice A' n' c']:=by kernel_rfl
theorem zUR (A A' B B':Wl Addr) (n n' c c' k k' d d':Nat):prog.built 97 [(0, .agg #[.slice A n c, .slice A' n' c']),(1, .agg #[.slice B k d, .slice B' k' d'])]=some #[.slice A n c, .slice A' n' c', .slice B k d, .slice B' k' d']:=by kernel_rfl
theorem ix0 (A A' B B':Wl Addr) (n n' c c' k k' d d':Nat) (W:Wi):(Instr.index 97 (.agg #[.slice A n c, .slice A' n' c', .slice B k d, .slice B' k' d']) (.int .i64 0)).run prog W= .ok (.agg #[.slice A n c, .slice A' n' c']) W:=by kernel_rfl
theorem ix1 (A A' B B':Wl Addr) (n n' c c' k k' d d':Nat) (W:Wi):(Instr.index 97 (.agg #[.slice A n c, .slice A' n' c', .slice B k d, .slice B' k' d']) (.int .i64 1)).run prog W= .ok (.agg #[.slice B k d, .slice B' k' d']) W:=by kernel_rfl
def Lo (W W':Wi):Prop:= ∀p:Addr,p.block<W.heap.size->W'.cell? p=W.cell? p
theorem zGc {W w:Wi} (h:Below W.heap.size W w):Lo W w:=fun _p hp=>h.cell hp
theorem Lo.trans {W w w':Wi} (h:Lo W w) (h': ∀p:Addr,p.block<W.heap.size->w'.cell? p=w.cell? p):Lo W w':=fun p hp=>(h' p hp).trans (h p hp)
theorem zHh {S:Nat->Prop} {W w w':Wi} (h:Lo W w) (hb:BlS S w w') (hW:W.heap.size<=w.heap.size) (hS: ∀k,S k->W.heap.size<=k):Lo W w':=
 h.trans fun p hp=>World.cell?_of_block (hb.block _ (tF hp hW) fun h=>by have:=hS _ h;omega)
theorem zO0 {z:Nat} {Cs:List CU} {v:Wj} {W W':Wi} (h:(SF.row z Cs).p v W) (hl:Lo W W'):(SF.row z Cs).p v W':=by
 obtain ⟨A,c,e,h2,h3,h4,h5⟩:=h
 have hk:jS W W':=fun p x hp=>(hl p (tZ W _ hp)).trans hp
 refine ⟨A,c,e,h2,h3,h4,fun i C hi=> ?_⟩
 obtain ⟨b,o,cs,g1,g2,g3⟩:=h5 i C hi
 exact ⟨b,o,cs,g1,fun j u hj=>(hl _ (tZ W _ (g2 j u hj))).trans (g2 j u hj),C.us _ _ _ g3 hk⟩
theorem zKv {W W':Wi} (h:Tab W) (hl:Lo W W'):Tab W':=fun j hj=>(hl _ (tZ W _ (h j hj))).trans (h j hj)
theorem StS.resMP {w0:Wi} {K:List (Nat×KF)} {B:List Bx} {n:Nat} {ds:List Deferred} {a:Act} {w:Wi} {P:Program} (h:St w0 K B n ds a w) {fn:Func} (v:Wj) {t:Nat} {e:Wk} {C:CU} (hr:fn.results=#[.cell t e]) (hsz:zB5 P e=true) {y:Bx} (hB:zDw B t=some y) (hyC:y.c=C) (hyl: ∀cs W,C.p cs W->cs= [v]):bodyPostM Fence.wide 0 P fn (Ret w0 (UF.eq v).tS) .ret a w:=by
 obtain ⟨hy,rfl⟩:=jE hB
 subst hyC
 obtain ⟨cs,h1,h2,h3,h4,h5⟩:=h.bx.mem y hy
 have e1:=hyl cs w h4
 have h0:a.tmps[y.t]?.getD undef= (pO y.b 0):=by rw [<-Array.getD_eq_getD_getElem?];exact h1
 refine h.resM (v:=v) (fun w' ho=> ?_) fun w' ho=>rfl
 have hm:=qO (zES ho h3)
 have:=jX hsz hm (u:=v) (by rw [e1];rfl)
 simp [results,hr,asAddr,h0,this]
def zA2 (x y:List V2) (k:Nat):Prop:= ∀j,j<k->jH (at_ x j) (at_ x ((j+1) % x.length)) y=false
theorem zEY {x y:List V2} (h:zA2 x y x.length):zDi x y=false:=by
 unfold zDi
 rw [List.any_eq_false]
 intro i hi
 rw [h i (List.mem_range.1 hi)]
 simp
theorem zIF {x y:List V2} (h: ∃j,j<x.length/\jH (at_ x j) (at_ x ((j+1) % x.length)) y=true):zDi x y=true:=by
 obtain ⟨j,hj,e⟩:=h
 exact zVO.2 ⟨j,List.mem_range.2 hj,e⟩
theorem zEL {z:Nat} {Cs:List CU} {v:Wj} {W:Wi} (h:(SF.row z Cs).p v W):v.oneCell'=true:=by
 obtain ⟨A,c,rfl,_⟩:=h
 rfl
theorem zLH {px py:List V2} {k:Nat} (hk:k<px.length) (h:zA2 px py k):if jH (at_ px k) (at_ px ((k+1) % px.length)) py=true then ∃j,j<px.length/\jH (at_ px j) (at_ px ((j+1) % px.length)) py=true else zA2 px py (k+1):=by
 by_cases e:jH (at_ px k) (at_ px ((k+1) % px.length)) py=true
 ·rw [if_pos e];exact ⟨k,hk,e⟩
 ·rw [if_neg e]
  intro j hj
  rcases Nat.lt_or_eq_of_le (Nat.le_of_lt_succ hj) with h'|h'
  ·exact h j h'
  ·rw [h'];simpa using e
theorem zOF {m:Nat} {W:Wi} {A A':Wl Addr} {c c':Nat} {ps qs:List V2} (hl:(SF.row 6 (pvs m ps)).p (.slice A (pvs m ps).length c) W) (hl2:(SF.row 6 (pvs m qs)).p (.slice A' (pvs m qs).length c') W) (hm:m<=60) (hm0:0<m) (hn:ps.length<=1000000) (hn2:qs.length<=1000000) (hT:Tab W):Calls prog 84 #[.slice A (pvs m ps).length c, .slice A' (pvs m qs).length c'] W (Ret W (uB (yX ps qs)).tS):=by
 refine zKI [(UF.eq (.slice A (pvs m ps).length c)).tS,(UF.eq (.slice A' (pvs m qs).length c')).tS] func84 rfl kH ⟨rfl,rfl,trivial⟩ fun a s=> ?_
 replace s:=s.renew [(0, .u (UF.eq (.slice A (pvs m ps).length c))),(1, .u (UF.eq (.slice A' (pvs m qs).length c')))] (fmz ⟨.inr ⟨_,rfl, .head _⟩,fmz ⟨.inr ⟨_,rfl,mz1⟩,fnz⟩⟩)
 refine tC ?_
 refine zB 0 [] hmix s kH
  zD fun a w1 s=> ?_
 refine zU (wG (.bool false) True) (cs:= [.bool false]) kH rfl s kH (fun W=>⟨rfl,trivial⟩) rfl fun b4 a w s=> ?_
 refine zA rfl ?_
 refine (wpIn_wide (n:=0)).2 (wp_scope_straight ((wpIn_wide (n:=0)).1 ?_))
 refine tC ?_
 refine zB 7 ((10, .Z (UF.eq (.slice A (pvs m ps).length c)))::(11, .Z (UF.eq (.slice A' (pvs m qs).length c')))::(12, .Z (UF.eq (.agg #[.slice A (pvs m ps).length c, .slice A' (pvs m qs).length c'])))::(13, .Z (UF.eq (.slice A' (pvs m qs).length c')))::(14, .Z (UF.eq (.slice A (pvs m ps).length c)))::(15, .Z (UF.eq (.agg #[.slice A' (pvs m qs).length c', .slice A (pvs m ps).length c])))::(16, .u (UF.eq (.agg #[.slice A (pvs m ps).length c, .slice A' (pvs m qs).length c', .slice A' (pvs m qs).length c', .slice A (pvs m ps).length c]))):: []) hmix s kH
  (oc zC<|oc zC<|oc (yY (fun u v W (hu:u= .slice A (pvs m ps).length c) (hv:v= .slice A' (pvs m qs).length c')=>by subst hu hv;exact ⟨_,bA2 _ _ _ _ _ _,rfl⟩))<|oc zC<|oc zC<|oc (yY (fun u v W (hu:u= .slice A' (pvs m qs).length c') (hv:v= .slice A (pvs m ps).length c)=>by subst hu hv;exact ⟨_,bA2 _ _ _ _ _ _,rfl⟩))<|oc (yY (fun u v W (hu:u= .agg #[.slice A (pvs m ps).length c, .slice A' (pvs m qs).length c']) (hv:v= .agg #[.slice A' (pvs m qs).length c', .slice A (pvs m ps).length c])=>by subst hu hv;exact ⟨_,zUR _ _ _ _ _ _ _ _ _ _ _ _,rfl⟩))<|zD) fun a w2 s=> ?_
 refine zU (CU.len 4) (cs:= [.slice none 0 0, .slice none 0 0, .slice none 0 0, .slice none 0 0]) kH rfl s kH (fun W=>rfl) rfl fun b5 a w s=> ?_
 refine zN (CU.agg (UF.eq (.agg #[.slice A (pvs m ps).length c, .slice A' (pvs m qs).length c', .slice A' (pvs m qs).length c', .slice A (pvs m ps).length c]))) ((UF.eq (.agg #[.slice A (pvs m ps).length c, .slice A' (pvs m qs).length c', .slice A' (pvs m qs).length c', .slice A (pvs m ps).length c])).tS) rfl s kH rfl rfl rfl iiz iiz (zDE (vs:= [.slice A (pvs m ps).length c, .slice A' (pvs m qs).length c', .slice A' (pvs m qs).length c', .slice A (pvs m ps).length c]) rfl (by intro u hu;simp at hu;rcases hu with rfl|rfl|rfl|rfl<;>rfl) rfl) fun a w s=> ?_
 refine zA rfl ?_
 refine tC ?_
 refine wpIn_label ?_
 refine tC ?_
 refine tC ?_
 refine zB 2 ((17, .u (UF.eq (.agg #[.slice A (pvs m ps).length c, .slice A' (pvs m qs).length c', .slice A' (pvs m qs).length c', .slice A (pvs m ps).length c])))::(18, .u (uI 0)):: []) hmix s kH
  (oc (zI (f:=UF.eq (.agg #[.slice A (pvs m ps).length c, .slice A' (pvs m qs).length c', .slice A' (pvs m qs).length c', .slice A (pvs m ps).length c])) 4 kH (hz:=zMH (vs:= [.slice A (pvs m ps).length c, .slice A' (pvs m qs).length c', .slice A' (pvs m qs).length c', .slice A (pvs m ps).length c]) rfl))<|oc zC<|zD) fun a w3 s=> ?_
 refine zA rfl ?_
 refine tG ?_
 refine zFN (fun (p:Nat×List Deferred)=>p.1<=2/\(1<=p.1->zDi ps qs=false)/\(2<=p.1->zDi qs ps=false)) (fun p=> [(0, .u (UF.eq (.slice A (pvs m ps).length c))),(1, .u (UF.eq (.slice A' (pvs m qs).length c'))),(17, .u (UF.eq (.agg #[.slice A (pvs m ps).length c, .slice A' (pvs m qs).length c', .slice A' (pvs m qs).length c', .slice A (pvs m ps).length c]))),(18, .u (uI (p.1:Int)))]) (fun _=> [⟨5,97,CU.agg (UF.eq (.agg #[.slice A (pvs m ps).length c, .slice A' (pvs m qs).length c', .slice A' (pvs m qs).length c', .slice A (pvs m ps).length c])),b5,false⟩,⟨4,4,wG (.bool false) True,b4,false⟩]) (fun p=>p.2) (fun p=>2 - p.1) (0, []) ⟨by show 0<=2;decide,fun h=>absurd h (by show ¬1<=0;decide),fun h=>absurd h (by show ¬2<=0;decide)⟩ (s.keepK _ (fmz ⟨mz3,fmz ⟨mz4,fmz ⟨.head _,fmz ⟨mz1,fnz⟩⟩⟩⟩)) fun p a w hI s=> ?_
 refine tC ?_
 refine zB 1 ((19, .u (uB (decide ((p.1:Int)<2)))):: []) hmix s kH
  (oc (zR .i64 (p.1:Int) 2 (decide ((p.1:Int)<2)) iiz iiz rfl rfl)<|zD) fun a w4 s=> ?_
 refine zA rfl ?_
 refine tC ?_
 refine StS.cond s (decide ((p.1:Int)<2)) iiz (fun e=> ?_) (fun e=> ?_)
 ·have hp2:p.1<2:=by have:=tP e;omega
  obtain ⟨x,y,px,py,hc⟩: ∃(x y:Wj) (px py:List V2),(p.1=0/\x= .slice A (pvs m ps).length c/\y= .slice A' (pvs m qs).length c'/\px=ps/\py=qs)∨(p.1=1/\x= .slice A' (pvs m qs).length c'/\y= .slice A (pvs m ps).length c/\px=qs/\py=ps):=by
   rcases (by omega:p.1=0∨p.1=1) with h|h
   ·exact ⟨_,_,_,_, .inl ⟨h,rfl,rfl,rfl,rfl⟩⟩
   ·exact ⟨_,_,_,_, .inr ⟨h,rfl,rfl,rfl,rfl⟩⟩
  have hix: ∀W,(Instr.index 97 (.agg #[.slice A (pvs m ps).length c, .slice A' (pvs m qs).length c', .slice A' (pvs m qs).length c', .slice A (pvs m ps).length c]) (.int .i64 (p.1:Int))).run prog W= .ok (.agg #[x,y]) W:=by
   rcases hc with ⟨h,rfl,rfl,_⟩|⟨h,rfl,rfl,_⟩<;>rw [h]
   ·exact ix0 _ _ _ _ _ _ _ _ _ _ _ _
   ·exact ix1 _ _ _ _ _ _ _ _ _ _ _ _
  have hx:(SF.row 6 (pvs m px)).p x W:=by rcases hc with ⟨_,rfl,rfl,rfl,rfl⟩|⟨_,rfl,rfl,rfl,rfl⟩;exact hl;exact hl2
  have hy:(SF.row 6 (pvs m py)).p y W:=by rcases hc with ⟨_,rfl,rfl,rfl,rfl⟩|⟨_,rfl,rfl,rfl,rfl⟩;exact hl2;exact hl
  have hnx:px.length<=1000000:=by rcases hc with ⟨_,rfl,rfl,rfl,rfl⟩|⟨_,rfl,rfl,rfl,rfl⟩;exact hn;exact hn2
  have hny:py.length<=1000000:=by rcases hc with ⟨_,rfl,rfl,rfl,rfl⟩|⟨_,rfl,rfl,rfl,rfl⟩;exact hn2;exact hn
  have hxc:=zBA hx
  have hyc:=zBA hy
  have hx1:=zEL hx
  have hy1:=zEL hy
  refine tH ?_
  refine tC ?_
  refine tG ?_
  refine tC ?_
  refine zB 1 ((20, .u (UF.eq (.agg #[x,y]))):: []) hmix s kH
   (oc (zLv (.agg #[.slice A (pvs m ps).length c, .slice A' (pvs m qs).length c', .slice A' (pvs m qs).length c', .slice A (pvs m ps).length c]) (.int .i64 (p.1:Int)) (.agg #[x,y]) iiz iiz hix)<|zD) fun a w5 s=> ?_
  refine zU (CU.len 2) (cs:= [.slice none 0 0, .slice none 0 0]) kH rfl s kH (fun W=>rfl) rfl fun b7 a w s=> ?_
  refine zN (CU.agg (UF.eq (.agg #[x,y]))) ((UF.eq (.agg #[x,y])).tS) rfl s kH rfl rfl rfl iiz iiz (zDE (vs:= [x,y]) rfl (by simp [hx1,hy1]) (by simp [hxc.2,hyc.2])) fun a w s=> ?_
  refine zA rfl ?_
  refine tC ?_
  replace s:StS noS W _ [⟨7,96,CU.agg (UF.eq (.agg #[x,y])),b7,false⟩,⟨5,97,CU.agg (UF.eq (.agg #[.slice A (pvs m ps).length c, .slice A' (pvs m qs).length c', .slice A' (pvs m qs).length c', .slice A (pvs m ps).length c])),b5,false⟩,⟨4,4,wG (.bool false) True,b4,false⟩] _ _ a _:=s
  have so23:=s.old
  have o7:b7<_:=so23 _ (.head _)
  have o5:b5<_:=so23 _ mz1
  have o4:b4<_:=so23 _ mz2
  refine jG 3 ((21, .X (UF.eq (.agg #[x,y])) 0)::(22, .Z (UF.eq x))::(23, .s (zJZ w 132 22 (wC [x]))):: []) hmix s kH
   (oc (zEW (C:=cg (UF.eq (.agg #[x,y]))) 0 0 kH (fun _ _ h=>h.2) iiz)<|oc (jD (C:=cg (UF.eq (.agg #[x,y]))) (k:=0) kH (h:=zMI (vs:= [x,y]) (k:=0) rfl))<|oc (zH zE zSM (fun u0 W hb (h0:u0=x)=>by rw [show u0=x from h0];exact (zOK (zBA hx)).mono (wI (zHk hb.size))))<|zD) fun a w6 s hr=> ?_
  refine zA rfl ?_
  refine tG ?_
  obtain ⟨b23,cs23,e23,hb23,hh23,hc23,hn23⟩:=hr (_,_) mz2
  obtain rfl:cs23= [x]:=hc23
  replace s:=(s.keepK [(0, .u (UF.eq (.slice A (pvs m ps).length c))),(1, .u (UF.eq (.slice A' (pvs m qs).length c'))),(17, .u (UF.eq (.agg #[.slice A (pvs m ps).length c, .slice A' (pvs m qs).length c', .slice A' (pvs m qs).length c', .slice A (pvs m ps).length c]))),(18, .u (uI (p.1:Int)))] (fmz ⟨mz2,fmz ⟨mz3,fmz ⟨mz4,fmz ⟨mz5,fnz⟩⟩⟩⟩)).learn 23 _ e23
  replace s:StS noS W _ [⟨7,96,CU.agg (UF.eq (.agg #[x,y])),b7,false⟩,⟨5,97,CU.agg (UF.eq (.agg #[.slice A (pvs m ps).length c, .slice A' (pvs m qs).length c', .slice A' (pvs m qs).length c', .slice A (pvs m ps).length c])),b5,false⟩,⟨4,4,wG (.bool false) (zA2 px py 0),b4,false⟩] f84.ntmps _ a w6:=s.weakB 4 (wG (.bool false) (zA2 px py 0)) rfl (jY kH) (fun cs W h=>⟨h.1,fun j hj=>absurd hj (Nat.not_lt_zero _)⟩)
  have hCn: ∀q,inB ([⟨7,96,CU.agg (UF.eq (.agg #[x,y])),b7,false⟩,⟨5,97,CU.agg (UF.eq (.agg #[.slice A (pvs m ps).length c, .slice A' (pvs m qs).length c', .slice A' (pvs m qs).length c', .slice A (pvs m ps).length c])),b5,false⟩,⟨4,4,wG (.bool false) (zA2 px py 0),b4,false⟩]) q->W.heap.size<=q:=fun q hq=>s.inB_new hq
  have hCl: ∀q,inB ([⟨7,96,CU.agg (UF.eq (.agg #[x,y])),b7,false⟩,⟨5,97,CU.agg (UF.eq (.agg #[.slice A (pvs m ps).length c, .slice A' (pvs m qs).length c', .slice A' (pvs m qs).length c', .slice A (pvs m ps).length c])),b5,false⟩,⟨4,4,wG (.bool false) (zA2 px py 0),b4,false⟩]) q->q<w6.heap.size:=fun q ⟨z9,hz9,e9,_⟩=>e9▸s.old z9 hz9
  refine zIC (N:=px.length) (endless:=False) (fun k=> [⟨7,96,CU.agg (UF.eq (.agg #[x,y])),b7,false⟩,⟨5,97,CU.agg (UF.eq (.agg #[.slice A (pvs m ps).length c, .slice A' (pvs m qs).length c', .slice A' (pvs m qs).length c', .slice A (pvs m ps).length c])),b5,false⟩,⟨4,4,wG (.bool false) (zA2 px py k),b4,false⟩]) ([⟨7,96,CU.agg (UF.eq (.agg #[x,y])),b7,false⟩,⟨5,97,CU.agg (UF.eq (.agg #[.slice A (pvs m ps).length c, .slice A' (pvs m qs).length c', .slice A' (pvs m qs).length c', .slice A (pvs m ps).length c])),b5,false⟩,⟨4,4,wG (.bool true) (∃j,j<px.length/\jH (at_ px j) (tn px j) py=true),b4,false⟩]) (.exit 0) (fun k=> [(24, .u (fPV m (at_ px k))),(25, .u (fPV m (tn px k)))]) s iiz (enters_of func132 kH rfl) (zOr (w0:=W) hh23 hx s.below hCl hCn (fun ⟨z9,hz9,e9,_⟩=>by simp only [tL,List.not_mem_nil,or_false] at hz9;rcases hz9 with rfl|rfl|rfl<;>(simp only at e9;omega)) hnx) (fun k=>rfl) ?_ rfl rfl rfl (fun k=>rfl) rfl (fun h=>h.elim) (fun l k xs WR hk so s=> ?_) (fun _ D WD s=> ?_) (fun D WD s=> ?_)
  ·intro k q hq
   rcases tL.1 hq with rfl|hq
   ·exact .inr ⟨0,_,rfl,rfl,rfl⟩
   ·obtain rfl:=tS.1 hq;exact .inr ⟨1,_,rfl,rfl,rfl⟩
  ·have hLR:Lo W WR:=zGc so.below
   have hWR:=so.gr.size
   have hSq: ∀q,(inB ([⟨7,96,CU.agg (UF.eq (.agg #[x,y])),b7,false⟩,⟨5,97,CU.agg (UF.eq (.agg #[.slice A (pvs m ps).length c, .slice A' (pvs m qs).length c', .slice A' (pvs m qs).length c', .slice A (pvs m ps).length c])),b5,false⟩,⟨4,4,wG (.bool false) (zA2 px py 0),b4,false⟩]) q∨WR.heap.size<=q)->W.heap.size<=q:=fun q hq=>by rcases hq with hq|hq;exact hCn q hq;omega
   generalize ({ tmps:=_,defers:= [] }:Act)=a at s ⊢
   refine tC ?_
   refine zB 0 [] hmix s kH
    zD fun a w7 s=> ?_
   refine zU (CU.len 6) (cs:=zP6) kH rfl s kH (fun W=>rfl) rfl fun b8 a w s=> ?_
   refine zN (CU.agg (fPV m (at_ px k))) ((fPV m (at_ px k)).tS) rfl s kH rfl rfl rfl iiz iiz qK fun a w s=> ?_
   refine zA rfl ?_
   refine zB 0 [] hmix s kH
    zD fun a w8 s=> ?_
   refine zU (CU.len 6) (cs:=zP6) kH rfl s kH (fun W=>rfl) rfl fun b9 a w s=> ?_
   refine zN (CU.agg (fPV m (tn px k))) ((fPV m (tn px k)).tS) rfl s kH rfl rfl rfl iiz iiz qK fun a w s=> ?_
   refine zA rfl ?_
   refine ⟨s.gr,fun W2 hcell hW2=> ?_⟩
   have hL2:Lo W W2:=(zHh hLR s.gr hWR hSq).trans fun p _=>hcell p
   obtain ⟨_,_,h9c,_⟩:=s.bx.mem _ (.head _)
   have hb9:W.heap.size<=b9:=by rcases h9c with h|h|h;cases h;exact tI hWR h;exact hSq _ h
   replace s:=hW2 _ _ s
   have h9l:b9<W2.heap.size:=s.old _ (.head _)
   have hW2s:W.heap.size<=W2.heap.size:=by omega
   have hlo: ∀{w w':Wi},BlS (fun q=>inB ([⟨7,96,CU.agg (UF.eq (.agg #[x,y])),b7,false⟩,⟨5,97,CU.agg (UF.eq (.agg #[.slice A (pvs m ps).length c, .slice A' (pvs m qs).length c', .slice A' (pvs m qs).length c', .slice A (pvs m ps).length c])),b5,false⟩,⟨4,4,wG (.bool false) (zA2 px py 0),b4,false⟩]) q∨WR.heap.size<=q) W2 w->Below w.heap.size w w'->Lo W w':=fun h1 h2=>(zHh hL2 h1 hW2s hSq).trans fun p hp=>h2.cell (tF hp (tI hW2s h1.size))
   refine tG ?_
   refine tC ?_
   refine zB 5 ((26, .Z (fPV m (at_ px k)))::(27, .Z (fPV m (tn px k)))::(28, .X (UF.eq (.agg #[x,y])) 1)::(29, .Z (UF.eq y))::(30, .u (uB (jH (at_ px k) (tn px k) py))):: []) hmix s kH
    (oc (zI (f:=fPV m (at_ px k)) 6 kH (hz:=zX _ _))<|oc (zI (f:=fPV m (tn px k)) 6 kH (hz:=zX _ _))<|oc (zEW (C:=cg (UF.eq (.agg #[x,y]))) 1 1 kH (fun _ _ h=>h.2) iiz)<|oc (jD (C:=cg (UF.eq (.agg #[x,y]))) (k:=1) kH (h:=zMI (vs:= [x,y]) (k:=1) rfl))<|oc (zAh zE zSL (fun u0 u1 u2 W hb (h0:(fPV m (at_ px k)).p u0 W) (h1:(fPV m (tn px k)).p u1 W) (h2:u2=y)=>by rw [show u2=y from h2];exact zOH h0 h1 (zO0 hy (hlo s.gr hb)) hm hm0 hny (zKv hT (hlo s.gr hb))))<|zD) fun a w9 s=> ?_
   refine q9 (c:=4) (o:=0) (kk:=1) (wG (.bool (jH (at_ px k) (tn px k) py)) (if jH (at_ px k) (tn px k) py=true then ∃j,j<px.length/\jH (at_ px j) (tn px j) py=true else zA2 px py (k+1))) ((uB (jH (at_ px k) (tn px k) py)).tS) rfl s kH rfl rfl (fun _ _ h=>h.1) iiz (zCT fun cs W h=>⟨by rw [h.1];rfl,zLH hk h.2⟩) fun a w s=> ?_
   refine zA rfl ?_
   refine tC ?_
   refine zB 1 ((31, .u (uB (jH (at_ px k) (tn px k) py))):: []) hmix s kH
    (oc (qY (C:=(wG (.bool (jH (at_ px k) (tn px k) py)) (if jH (at_ px k) (tn px k) py=true then ∃j,j<px.length/\jH (at_ px j) (tn px j) py=true else zA2 px py (k+1))).cf) kH (fun _ _ h=>h.2) zDQ)<|zD) fun a w10 s=> ?_
   refine zA rfl ?_
   refine StS.cond s (jH (at_ px k) (tn px k) py) iiz (fun e=> ?_) (fun e=> ?_)
   ·refine tR ?_
    replace s:=s.popB
    replace s:=s.popB
    exact ⟨rfl,(s.keepK [] fnz).weakB 4 (wG (.bool true) (∃j,j<px.length/\jH (at_ px j) (tn px j) py=true)) rfl (jY kH) (fun cs W h=>by rw [e] at h;simpa using h)⟩
   ·refine tH ?_
    replace s:=s.popB
    replace s:=s.popB
    exact ⟨(s.keepK [] fnz).weakB 4 (wG (.bool false) (zA2 px py (k+1))) rfl (jY kH) (fun cs W h=>by rw [e] at h;simpa using h),fun h=>h.elim⟩
  ·have hone:zDi px py=false:=by obtain ⟨_,_,h9,_⟩:=s.boxAt (c:=4) rfl;exact zEY h9.2
   replace s:StS noS W _ [⟨5,97,CU.agg (UF.eq (.agg #[.slice A (pvs m ps).length c, .slice A' (pvs m qs).length c', .slice A' (pvs m qs).length c', .slice A (pvs m ps).length c])),b5,false⟩,⟨4,4,wG (.bool false) True,b4,false⟩] f84.ntmps _ _ WD:=s.popB.weakB 4 (wG (.bool false) True) rfl (jY kH) (fun cs W h=>⟨h.1,trivial⟩)
   generalize ({ a with defers:=mark D::a.defers }:Act)=a at s ⊢
   refine zZ 1 ((32, .u (uI ((p.1+1:Nat):Int))):: []) s kH
    (oc (yR .i64 (p.1:Int) 1 ((p.1+1:Nat):Int) iiz iiz (wrap64 _ _ oO oO))<|zD) fun a w11 s=> ?_
   replace s:=s.drop [18]
   refine zCD (uI ((p.1+1:Nat):Int)) rfl s kH zC kH fun a w s=> ?_
   refine zA rfl ?_
   refine ⟨(p.1+1,mark D::p.2),⟨by show p.1+1<=2;omega, ?_, ?_⟩,by show 2 - (p.1+1)<2 - p.1;omega,s.keepK _ (fmz ⟨mz3,fmz ⟨mz4,fmz ⟨mz5,fmz ⟨.head _,fnz⟩⟩⟩⟩)⟩
   ·intro _;rcases hc with ⟨_,_,_,rfl,rfl⟩|⟨e9,_⟩;exact hone;exact hI.2.1 oO
   ·intro h9;rcases hc with ⟨e9,_⟩|⟨_,_,_,rfl,rfl⟩;have:2<=p.1+1:=h9;omega;exact hone
  ·have hans:yX ps qs=true:=by
    obtain ⟨_,_,h9,_⟩:=s.boxAt (c:=4) rfl
    have h8:=zIF h9.2
    unfold yX
    rcases hc with ⟨_,_,_,rfl,rfl⟩|⟨_,_,_,rfl,rfl⟩<;>simp [h8]
   generalize ({ a with defers:=mark D::a.defers }:Act)=a at s ⊢
   refine tR ?_
   refine tC ?_
   refine zB 1 ((33, .u (uB true)):: []) hmix s kH
    (oc (qY (C:=(wG (.bool true) (∃j,j<px.length/\jH (at_ px j) (tn px j) py=true)).cf) kH (fun _ _ h=>h.2) zDQ)<|zD) fun a w12 s=> ?_
   refine q9 (c:=4) (o:=0) (kk:=1) (wG (.bool true) True) ((uB true).tS) rfl s kH rfl rfl (fun _ _ h=>h.1) iiz (zCT fun cs W h=>⟨by rw [h.1];rfl,trivial⟩) fun a w s=> ?_
   refine zA rfl ?_
   refine tD ?_
   exact hans▸s.resMP (.bool true) rfl kH rfl rfl (fun cs W h=>h.1)
 ·have hp2:p.1=2:=by have h7:=tO e;have h8:=hI.1;omega
  have hans:yX ps qs=false:=by unfold yX;rw [hI.2.1 oO,hI.2.2 oO];rfl
  refine tR ?_
  refine tC ?_
  refine zB 1 ((33, .u (uB false)):: []) hmix s kH
   (oc (qY (C:=(wG (.bool false) True).cf) kH (fun _ _ h=>h.2) zDQ)<|zD) fun a w13 s=> ?_
  refine q9 (c:=4) (o:=0) (kk:=1) (wG (.bool false) True) ((uB false).tS) rfl s kH rfl rfl (fun _ _ h=>h.1) iiz (zCT fun cs W h=>⟨by rw [h.1];rfl,trivial⟩) fun a w s=> ?_
  refine zA rfl ?_
  refine tD ?_
  exact hans▸s.resMP (.bool false) rfl kH rfl rfl (fun cs W h=>h.1)
theorem zOG {m:Nat} {W:Wi} {u v:Wj} {ps qs:List V2} (hl:(SF.row 6 (pvs m ps)).p u W) (hl2:(SF.row 6 (pvs m qs)).p v W) (hm:m<=60) (hm0:0<m) (hn:ps.length<=1000000) (hn2:qs.length<=1000000) (hT:Tab W):Calls prog 84 #[u,v] W (Ret W (fB (yX ps qs)).tS):=by
 obtain ⟨A,c,rfl,_⟩:=id hl
 obtain ⟨A',c',rfl,_⟩:=id hl2
 exact zOF hl hl2 hm hm0 hn hn2 hT
end Go.Proofs.Wd
