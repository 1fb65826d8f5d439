/- Natural numbers as values; the walks of gcd's Reduce, Lcm, Coprime; Th and what it needs. -/
import Derived.Test.YthjkmdblifmkoaaGreatDoorMCM18
import Derived.Test.YthjkmdblifmkoaaGreatDoorMCM13
import Derived.Test.YthjkmdblifmkoaaGreatDoorMCM7
import Derived.Test.YthjkmdblifmkoaaGreatDoorMCM19
import Derived.Test.YthjkmdblifmkoaaGreatDoorMCM17
import Derived.Test.YthjkmdblifmkoaaGreatDoorMCM6
import Derived.Test.YthjkmdblifmkoaaGreatDoorMCM1
import Derived.Test.YthjkmdblifmkoaaGreatDoorMCM9
import Derived.Test.YthjkmdblifmkoaaGreatDoorMCM16
theorem kH {P:Prop} (h:P:=by kernel_rfl):P:=h
theorem oO {P:Prop} (h:P:=by omega):P:=h
theorem dA {P:Prop} (h:P:=by decide):P:=h
theorem fL {P:Prop} (h:P:=by simp):P:=h
abbrev tJ:=@Go.wpIn_seq
abbrev tK:=@Go.wpIn_ret
abbrev tL:=@Nat.lt_of_le_of_lt
abbrev tM:=@Go.wpIn_skip
abbrev tN:=@Go.wpIn_block
abbrev tO:=@Nat.le_trans
abbrev tP:=@Nat.lt_of_lt_of_le
abbrev tQ:=@List.getElem?_eq_getElem
abbrev tR:=@Go.RowKit.Below.refl
abbrev tS:=@Nat.zero_le
abbrev tT:=@List.getElem?_eq_some_iff
abbrev tU:=@Nat.le_refl
abbrev tV:=@List.mem_cons
abbrev tW:=@Nat.div_le_self
abbrev tX:=@of_decide_eq_true
abbrev tY:=@List.getD_eq_getElem?_getD
abbrev tZ:=@of_decide_eq_false
abbrev zCS:=@Go.wpIn_exit
abbrev zF5:=@List.mem_singleton
abbrev zUZ:=@Option.some.inj
abbrev zU0:=@List.getElem?_map
abbrev zU1:=@Nat.pow_le_pow_right
abbrev zU2:=@congrArg
abbrev zU3:=@Nat.eq_zero_or_pos
abbrev zU4:=@decide_eq_true
abbrev zU5:=@decide_eq_false
abbrev zU6:=@Go.World.block_lt_of_cell?
abbrev zU7:=@Go.KeepsOthers.setCell
abbrev zU8:=@List.any_eq_true
abbrev zU9:=@List.nil_append
abbrev zVa:=@List.length_map
abbrev zVb:=@List.take_of_length_le
abbrev zVc:=@Nat.le_of_lt
abbrev zVd:=@Nat.mul_assoc
abbrev zVe:=@Nat.not_lt_zero
abbrev zVf:=@Nat.lt_or_eq_of_le
abbrev zVg:=@Nat.le_of_lt_succ
abbrev zVh:=@List.append_assoc
abbrev zVi:=@List.size_toArray
abbrev zVj:=@List.length_cons
abbrev zVk:=@List.length_nil
abbrev zVl:=@Array.replicate_succ
abbrev zVm:=@Array.replicate_zero
abbrev zVn:=@List.push_toArray
abbrev zVo:=@List.append_toArray
abbrev zVp:=@List.cons_append
abbrev zVq:=@Array.getElem?_eq_some_iff
abbrev zVr:=@Classical.byContradiction
abbrev zVs:=@Int.tdiv_eq_ediv_of_nonneg
abbrev zVt:=@Nat.add_assoc
abbrev zVu:=@List.map_append
abbrev zVv:=@decide_eq_decide
abbrev zVw:=@List.any_eq_false
abbrev zVx:=@Nat.gcd_pos_of_pos_right
abbrev zVy:=@List.take_append_of_le_length
abbrev zVz:=@List.drop_append_of_le_length
abbrev zVA:=@List.getElem?_append_left
abbrev zVB:=@List.getElem?_append_right
abbrev Wi:=Go.World
abbrev Wj:=Go.Value
abbrev Wk:=Go.TypeId
abbrev Wl:=Option
abbrev Wm:=Go.Operand
abbrev Wn:=Go.Program
namespace Go.Proofs.Wd
open Tryz
set_option maxHeartbeats 1000000
open Go.RowKit Lb
theorem zS6 {W:Wi} {m:Nat} {v v':Wj} {a b:Nat} (h:LV W m v a) (h':LV W m v' b) (hm:m<=2000) (hT:Tab W):Calls prog 142 #[v,v'] W (zMz W (Nat.gcd a b)):=by
 obtain ⟨A,n,c,l,rfl,h1,h2,h3,rfl⟩:=h
 obtain ⟨A',n',c',l',rfl,h1',h2',h3',rfl⟩:=h'
 exact (zQr A n c l A' n' c' l' W h1 h1' h2 h2' oO oO hT).mono fun _ _=>jC.v
theorem zOZ {a b m:Nat} (ha:a<BB^m) (hb:b<BB^m):Nat.gcd a b<BB^m:=by
 rcases zU3 a with rfl|h
 ·rwa [Nat.gcd_zero_left]
 ·exact tL (Nat.gcd_le_left b h) ha
theorem zMm {m:Nat} {v vg:Wj} {a g B:Nat} {W:Wi} (h:LV W m v a) (hg:LV W m vg g) (hm:m<=2000) (hg0:0<g) (hc:W.cell? ⟨B,0,none⟩=some vg):
  Calls prog 153 #[v,pO B 0] W (zMz W (a / g)):=by
 obtain ⟨A,n,c,l,rfl,h1,h2,h3,h4⟩:=h
 obtain ⟨A',n',c',l',rfl,h1',h2',h3',h4'⟩:=hg
 have hd:=zIN a g hg0 A n c l A' n' c' l' W h1 h2 h1' h2' h4 h4' oO oO
 have H4:=hid h4;have H4':=hid h4'
 clear h4 h4'
 go_enter func153,ntmps153
 go_wp2_with fail
 refine hd.mono ?_
 rintro e w4 ⟨A4,n4,c4,l4,A5,n5,c5,l5,rfl,hi4,hr4,hi5,hr5,hb5⟩
 go_wp2_with fail
 go_ret
 exact ⟨_,rfl,⟨A4,n4,c4,l4,rfl,hi4,hr4⟩,hb5⟩
theorem zSr (A:Wl Addr) (n c:Nat) (w:Wi):
  Calls prog 143 #[.slice A n c] w fun e w'=>e= .returned (.func (.func 153) #[] #[pO w.heap.size 0])/\w'=w.alloc (.cells #[.slice A n c] 25):=by
 go_enter func143,ntmps143
 go_wp2
 go_ret
 exact ⟨rfl,rfl⟩
theorem zNd {W:Wi} {m:Nat} {v v':Wj} {a b:Nat} (h:LV W m v a) (h':LV W m v' b) (hm:m<=2000) (hT:Tab W):Calls prog 127 #[v,v'] W (zT4 W (a / Nat.gcd a b) (b / Nat.gcd a b)):=by
 have hgc:=zS6 h h' hm hT
 have hgl:=zOZ h.bound h'.bound
 have hen: ∀args w,(callFunc 153 args).run prog w= .ok (.enter 153 args) w:=enters_of func153 kH rfl
 obtain ⟨g,hg⟩: ∃g,Nat.gcd a b=g:=⟨_,rfl⟩
 rw [hg] at hgc hgl ⊢
 rcases zU3 g with h0|h0
 ·have HZ:=hid h0
  go_enter func127,ntmps127
  go_wp2_with fail
  refine hgc.mono ?_
  rintro e w4 ⟨v4,rfl,⟨A4,n4,c4,l4,rfl,hi4,hr4⟩,hb4⟩
  obtain rfl:n4=0:=by rw [<-hr4.len];exact hi4.zero_iff.1 HZ.out
  go_wp2_with fail
  go_ret2
  exact ⟨_,_,rfl,⟨none,0,0, [],rfl,by rw [HZ.out,Nat.div_zero];exact Is.nil,wK _⟩,⟨none,0,0, [],rfl,by rw [HZ.out,Nat.div_zero];exact Is.nil,wK _⟩,hb4⟩
 ·clear hg
  go_enter func127,ntmps127
  go_wp2_with fail
  refine hgc.mono ?_
  rintro e w4 ⟨v4,rfl,⟨A4,n4,c4,l4,rfl,hi4,hr4⟩,hb4⟩
  have hn4:0<n4:=by rw [<-hr4.len];exact hi4.pos_iff.1 h0
  have hb5:=hb4.trans ((tR _ w4).alloc (tU _) (.cells #[.slice A4 n4 c4] 25)|>.mono hb4.size)
  have x5:=Boxed.new w4 25 (.slice A4 n4 c4)
  obtain ⟨W5,hW5⟩: ∃W5,w4.alloc (.cells #[.slice A4 n4 c4] 25)=W5:=⟨_,rfl⟩
  rw [hW5] at hb5 x5
  have hg5:LV W5 m (.slice A4 n4 c4) g:=by rw [<-hW5];exact (qM.lv ⟨A4,n4,c4,l4,rfl,hi4,hr4⟩ hgl).below ((tR _ w4).alloc (tU _) _)
  have hby:=zSr A4 n4 c4 w4
  rw [hW5] at hby
  clear hW5
  go_wp2_with fail
  refine hby.mono ?_
  rintro e w6 ⟨rfl,rfl⟩
  go_wp2_with fail
  refine (zMm (h.below hb5) hg5 hm h0 x5.cell).mono ?_
  rintro e w7 ⟨v7,rfl,hv7,hb7⟩
  go_wp2_with fail
  refine (zMm ((h'.below hb5).below hb7) (hg5.below hb7) hm h0 ((hb7.cell (p:=⟨w4.heap.size,0,none⟩) (zV x5.cell)).trans x5.cell)).mono ?_
  rintro e w8 ⟨v8,rfl,hv8,hb8⟩
  go_wp2_with fail
  go_ret2
  have t1:=hb5.trans (hb7.mono hb5.size)
  exact ⟨_,_,rfl,hv7.below hb8,hv8,t1.trans (hb8.mono t1.size)⟩
end Go.Proofs.Wd

namespace Go.Proofs.Wd
open Tryz
set_option maxRecDepth 100000
open Go.RowKit Lb
theorem zOv {W:Wi} {m:Nat} {v:Wj} {x:Nat} (h:LV W m v x) (hm:m<=100000):Calls prog 113 #[v] W (zMz W x):=by
 obtain ⟨A,n,c,l,rfl,h1,h2,h3,rfl⟩:=h
 exact (qR A n c l W h1 h2 oO).mono fun _ _=>jC.v
theorem Tab.bls {W w:Wi} {b:Nat} {cs:List Wj} {te:Wk} (hT:Tab W) (hb:W.heap[b]?=some (.cells cs.toArray te (0,0))) (h0: ∃s,cs[0]?=some (.bool s)) (hg:BlS (fun k=>k=b) W w):Tab w:=fun j hj=>by
 have h1:=hT j hj
 have hne:(0:Nat)≠b:=fun e=>by
  have h2:=hT 0 dA
  obtain ⟨s,hs⟩:=h0
  unfold World.cell? at h2
  rw [show ((⟨0,0,none⟩:Addr).block)=b from e,hb] at h2
  simp [hs] at h2
 exact (World.cell?_of_block (a:=⟨0,j,none⟩) (hg.block _ (zV h1) hne)).trans h1
theorem zHN {m:Nat} {k:Int} {d:Nat} {cs:List Wj} {W:Wi} (h:QVp m k d (.agg cs.toArray) W): ∃s,cs[0]?=some (.bool s):=by
 obtain ⟨u,h1,s,rfl⟩:=zRt cs W h
 exact ⟨s,h1⟩
theorem zBL {m:Nat} {k:Int} {d:Nat} {cs:List Wj} {W:Wi} (h:QVp m k d (.agg cs.toArray) W):cs.all zU=true:=by
 have:=(zEE (v:= .agg cs.toArray) h).2
 simpa [Value.cells] using this
theorem zFp {W:Wi} {v:Wj} {x:Nat} (h:qM W v x):Calls prog 98 #[v] W (Ret W (fNV (x:Int)).tS):=by
 refine yE [(qW x).tS] func98 rfl kH ⟨h,trivial⟩ fun a s=> ?_
 refine tJ ?_
 refine zB 0 [] hmix s kH
  zD fun a w1 s=> ?_
 refine zW (CU.len 2) (cs:= [.bool false, .slice none 0 0]) kH rfl s kH (fun W=>rfl) rfl fun b2 a w s=> ?_
 refine zA rfl ?_
 refine tJ ?_
 refine zB 2 ((3, .Z (qW x))::(4, .u (fNV (x:Int))):: []) hmix s kH
  (oc zC<|oc (zCd (fun u W (hu:qM W u x)=>zMn hu))<|zD) fun a w2 s=> ?_
 refine zN (CU.agg (fNV (x:Int))) ((fNV (x:Int)).tS) rfl s kH rfl rfl rfl iiz iiz zFU fun a w s=> ?_
 refine zA rfl ?_
 refine tK ?_
 exact wJ s (CU.agg (fNV (x:Int))) rfl kH rfl rfl (zOV _) (fun cs W h=>h)
theorem zNb {W:Wi} (z:Int) (hz: -9223372036854775808<=z/\z<=9223372036854775807):Calls prog 39 #[.int .i64 z] W (Ret W (fQN (z:Rat)).tS):=by
 refine yE [(fI z).tS] func39 rfl kH ⟨rfl,trivial⟩ fun a s=> ?_
 refine tJ ?_
 refine zB 0 [] hmix s kH
  zD fun a w1 s=> ?_
 refine zW (CU.len 3) (cs:=zR3) kH rfl s kH (fun W=>rfl) rfl fun b2 a w s=> ?_
 refine zA rfl ?_
 refine tJ ?_
 refine zB 4 ((3, .Z (uI z))::(4, .Z (fNV z))::(5, .Z (qW 1))::(6, .u (fQN (z:Rat))):: []) hmix s kH
  (oc zC<|oc (zH zE zTt (fun u0 W hb (h0:u0= .int .i64 z)=>by subst h0;exact zUH z hz))<|oc (zAP (fun u W (hu:u= .int .u32 1)=>zOz hu))<|oc (yR (fun u v W (hu:NV W u z) (hv:qM W v 1)=>zHi (q:=(z:Rat)) hu hv))<|zD) fun a w2 s=> ?_
 refine zN (CU.agg (fQN (z:Rat))) ((fQN (z:Rat)).tS) rfl s kH rfl rfl rfl iiz iiz zY fun a w s=> ?_
 refine zA rfl ?_
 refine tK ?_
 exact wJ s (CU.agg (fQN (z:Rat))) rfl kH rfl rfl (y5 _) (fun cs W h=>h)
theorem zPI {W:Wi} {b m:Nat} {k:Int} {d:Nat} {cs:List Wj} (hh:W.heap[b]?=some (.cells cs.toArray 103 (0,0))) (hc:QVp m k d (.agg cs.toArray) W) (hm:m<=2000) (hd:d=0):Calls prog 101 #[pO b 0] W (zJW W b 103 (CU.agg (fQN ((0:Int):Rat))) (uB false).tS):=by
 have hz:true=decide (d=0):=(zU4 hd).symm
 refine zEv b [(0,UF.eq (pO b 0))] [⟨0,103,CU.agg (fQV m k d),b,false⟩] func101 rfl kH (fun q hq=>by simp at hq;subst hq;exact ⟨by simp,rfl⟩) ⟨⟨cs,rfl, .inr (.inr rfl),hh,hc,zBL hc,fun y hy=>by cases hy⟩,trivial⟩ (fun x hx=>by simp at hx;subst hx;simp) fun a s=> ?_
 refine tJ ?_
 refine zB 1 ((2, .u (uB false)):: []) hmix s kH
  (oc zG<|zD) fun a w1 s=> ?_
 refine zA rfl ?_
 refine tJ ?_
 refine tJ ?_
 refine zB 8 ((3, .s (wD b (cg (fQV m k d))))::(4, .Y (fQV m k d))::(5, .X (fQV m k d) 0)::(6, .X (fQV m k d) 2)::(7, .Z (fLV m d))::(8, .Z (qW d))::(9, .s (zQX d))::(10, .u (uB true)):: []) hmix s kH
  (oc zC<|oc (qK (C:=cg (fQV m k d)))<|oc (zR (C:=cg (fQV m k d)) 0 kH)<|oc (yP (C:=cg (fQV m k d)) 0 2 kH)<|oc (jP (C:=cg (fQV m k d)) (k:=2) kH (h:=zKS))<|oc (zH zE zO4 (fun u0 W hb (h0:LV W m u0 d)=>zOv h0 oO))<|oc (zFR kH iiz)<|oc (zFT hz)<|zD) fun a w2 s=> ?_
 refine zA rfl ?_
 refine StS.cond s true iiz (fun e=> ?_) (fun e=>by cases e)
 refine tJ ?_
 refine zB 4 ((11, .Z (UF.eq (pO b 0)))::(12, .u (fQN ((0:Int):Rat)))::(13, .Z (UF.eq (pO b 0)))::(14, .u (UF.eq (pO b 0))):: []) hmix s kH
  (oc (zC (fun _ _ _ h=>h.1))<|oc (zH zE zHb (fun u0 W hb (h0:u0= .int .i64 0)=>by subst h0;exact zNb 0 dA))<|oc (zA0 (a:=⟨b,0,none⟩) iiz)<|oc (jF (b:=b) (o:=0) 0 kH iiz)<|zD) fun a w3 s=> ?_
 refine qY (c:=0) (o:=0) (kk:=3) (CU.agg (fQN ((0:Int):Rat))) ((fQN ((0:Int):Rat)).tS) rfl s kH rfl rfl iiz iiz zMV fun a w s=> ?_
 refine zA rfl ?_
 refine tJ ?_
 replace s:=s.drop [2]
 refine zB 1 ((2, .u (uB false)):: []) hmix s kH
  (oc zG<|zD) fun a w4 s=> ?_
 refine zA rfl ?_
 refine tK ?_
 exact wV s (c:=0) (C:=CU.agg (fQN ((0:Int):Rat))) rfl rfl rfl rfl iiz
theorem zPJ {W:Wi} {b m:Nat} {k:Int} {d:Nat} {cs:List Wj} (hh:W.heap[b]?=some (.cells cs.toArray 103 (0,0))) (hc:QVp m k d (.agg cs.toArray) W) (hm:m<=2000) (hd0:0<d) (hT:Tab W):Calls prog 101 #[pO b 0] W (zJW W b 103 (CU.agg (fQN (mkRat k d))) (uB true).tS):=by
 have hz:false=decide (d=0):=(zU5 oO).symm
 have bk:k.natAbs<BB^m:=by obtain ⟨_,_,_,_,h1,_⟩:=hc;exact h1.bound
 have hred: ∀W u0 u1,Tab W->LV W m u0 k.natAbs->LV W m u1 d->Calls prog 127 #[u0,u1] W (Ret W (wY (qW (k.natAbs / Nat.gcd k.natAbs d)).tS (qW (d / Nat.gcd k.natAbs d)).tS)):=fun W u0 u1 hT h0 h1=>(zNd h0 h1 hm hT).mono fun e w' ⟨v,v',e1,h1,h2,hb⟩=>⟨_,e1,⟨v,v',rfl,h1,h2⟩,hb⟩
 refine zEv b [(0,UF.eq (pO b 0))] [⟨0,103,CU.agg (fQV m k d),b,false⟩] func101 rfl kH (fun q hq=>by simp at hq;subst hq;exact ⟨by simp,rfl⟩) ⟨⟨cs,rfl, .inr (.inr rfl),hh,hc,zBL hc,fun y hy=>by cases hy⟩,trivial⟩ (fun x hx=>by simp at hx;subst hx;simp) fun a s=> ?_
 refine tJ ?_
 refine zB 1 ((2, .u (uB false)):: []) hmix s kH
  (oc zG<|zD) fun a w1 s=> ?_
 refine zA rfl ?_
 refine tJ ?_
 refine tJ ?_
 refine zB 8 ((3, .s (wD b (cg (fQV m k d))))::(4, .Y (fQV m k d))::(5, .X (fQV m k d) 0)::(6, .X (fQV m k d) 2)::(7, .Z (fLV m d))::(8, .Z (qW d))::(9, .s (zQX d))::(10, .u (uB false)):: []) hmix s kH
  (oc zC<|oc (qK (C:=cg (fQV m k d)))<|oc (zR (C:=cg (fQV m k d)) 0 kH)<|oc (yP (C:=cg (fQV m k d)) 0 2 kH)<|oc (jP (C:=cg (fQV m k d)) (k:=2) kH (h:=zKS))<|oc (zH zE zO4 (fun u0 W hb (h0:LV W m u0 d)=>zOv h0 oO))<|oc (zFR kH iiz)<|oc (zFT hz)<|zD) fun a w2 s=> ?_
 refine zA rfl ?_
 refine StS.cond s false iiz (fun e=>by cases e) (fun e=> ?_)
 refine tM ?_
 refine tJ ?_
 refine zB 10 ((15, .Z (UF.eq (pO b 0)))::(16, .s (wD b (cg (fQV m k d))))::(17, .Y (fQV m k d))::(18, .X (fQV m k d) 0)::(19, .X (fQV m k d) 0)::(20, .Z (fUV m k))::(21, .u (fNV k))::(22, .Z (UF.eq (pO b 0)))::(23, .Z (UF.eq (pO b 0)))::(24, .u (UF.eq (pO b 0))):: []) hmix s kH
  (oc (zC (fun _ _ _ h=>h.1))<|oc zC<|oc (qK (C:=cg (fQV m k d)))<|oc (zR (C:=cg (fQV m k d)) 0 kH)<|oc (yP (C:=cg (fQV m k d)) 0 0 kH)<|oc (yG (C:=cg (fQV m k d)) (k:=0) 2 kH (h:=zOI))<|oc (zH zE zSf (fun u0 W hb (h0:UV W m u0 k)=>zRG h0 oO))<|oc (zA0 (a:=⟨b,0,none⟩) iiz)<|oc (jF (b:=b) (o:=0) 0 kH iiz)<|oc (jF (b:=b) (o:=0) 0 kH iiz)<|zD) fun a w3 s=> ?_
 refine qY (c:=0) (o:=0) (kk:=2) (CU.agg (fQM m k d)) ((fNV k).tS) rfl s kH rfl rfl iiz iiz zPy fun a w s=> ?_
 refine zA rfl ?_
 refine tJ ?_
 refine yT [0,1,2,8] 15 ((26, .u (UF.eq (pO b 0)))::(27, .u (UF.eq (pO b 0)))::(28, .s (wD b (cg (fQM m k d))))::(29, .Y (fQM m k d))::(30, .X (fQM m k d) 0)::(31, .X (fQM m k d) 0)::(32, .X (fQM m k d) 1)::(33, .Z (qW (k.natAbs)))::(34, .s (wD b (cg (fQM m k d))))::(35, .Y (fQM m k d))::(36, .X (fQM m k d) 0)::(37, .X (fQM m k d) 2)::(38, .Z (fLV m d))::(39, .Z (zAB (qW (k.natAbs / Nat.gcd k.natAbs d)) (qW (d / Nat.gcd k.natAbs d))))::(25, .u (zAB (qW (k.natAbs / Nat.gcd k.natAbs d)) (qW (d / Nat.gcd k.natAbs d)))):: []) hmix s kH
  (oc (zC (fun _ _ _ h=>h.1))<|oc (zC (fun _ _ _ h=>h.1))<|oc zC<|oc (qK (C:=cg (fQM m k d)))<|oc (zR (C:=cg (fQM m k d)) 0 kH)<|oc (yP (C:=cg (fQM m k d)) 0 0 kH)<|oc (yP (C:=cg (fQM m k d)) 0 1 kH)<|oc (jP (C:=cg (fQM m k d)) (k:=1) kH (h:=zRx))<|oc zC<|oc (qK (C:=cg (fQM m k d)))<|oc (zR (C:=cg (fQM m k d)) 0 kH)<|oc (yP (C:=cg (fQM m k d)) 0 2 kH)<|oc (jP (C:=cg (fQM m k d)) (k:=2) kH (h:=zRw))<|oc (zL zE zSc (fun u0 u1 W hb (h0:qM W u0 (k.natAbs)) (h1:LV W m u1 d)=>hred W u0 u1 (hT.bls hh (zHN hc) (s.gr.trans hb)) (qM.lv h0 bk) h1))<|oc zC<|zD) fun Q' hQ a w4 s=> ?_
 refine zCt (qW (k.natAbs / Nat.gcd k.natAbs d)) rfl s kH (zA3 (A:=(qW (k.natAbs / Nat.gcd k.natAbs d)).tS) (B:=(qW (d / Nat.gcd k.natAbs d)).tS) iiz) kH fun a w s=> ?_
 refine zCt (qW (d / Nat.gcd k.natAbs d)) rfl s kH (zA2 (A:=(qW (k.natAbs / Nat.gcd k.natAbs d)).tS) (B:=(qW (d / Nat.gcd k.natAbs d)).tS) iiz) kH fun a w s=> ?_
 refine zCt (UF.eq (pO b 0)) rfl s kH (zA0 (a:=⟨b,0,none⟩) iiz) kH fun a w s=> ?_
 refine zCt (UF.eq (pO b 0)) rfl s kH (jF (b:=b) (o:=0) 0 kH iiz) kH fun a w s=> ?_
 refine zCt (UF.eq (pO b 0)) rfl s kH (jF (b:=b) (o:=0) 0 kH iiz) kH fun a w s=> ?_
 refine zCt (UF.eq (pO b 1)) rfl s kH (jF (b:=b) (o:=0) 1 kH iiz) kH fun a w s=> ?_
 refine qY (c:=0) (o:=1) (kk:=1) (CU.agg (fQA m (decide (k<0)) (k.natAbs / Nat.gcd k.natAbs d) d)) ((qW (k.natAbs / Nat.gcd k.natAbs d)).tS) rfl s kH rfl rfl iiz iiz zRf fun a w s=> ?_
 refine zCt (UF.eq (pO b 0)) rfl s kH (zA0 (a:=⟨b,0,none⟩) iiz) kH fun a w s=> ?_
 refine zCt (UF.eq (pO b 0)) rfl s kH (jF (b:=b) (o:=0) 0 kH iiz) kH fun a w s=> ?_
 refine zCt (UF.eq (pO b 2)) rfl s kH (jF (b:=b) (o:=0) 2 kH iiz) kH fun a w s=> ?_
 refine qY (c:=0) (o:=2) (kk:=1) (CU.agg (fQN (mkRat k d))) ((qW (d / Nat.gcd k.natAbs d)).tS) rfl s kH rfl rfl iiz iiz (zRe (zDj k d hd0).symm (zDi k d hd0).symm (zCf k d hd0).symm) fun a w s=> ?_
 refine zA rfl (hQ _ _ ?_)
 refine tJ ?_
 replace s:=s.drop [2]
 refine zB 1 ((2, .u (uB true)):: []) hmix s kH
  (oc zG<|zD) fun a w5 s=> ?_
 refine zA rfl ?_
 refine tK ?_
 exact wV s (c:=0) (C:=CU.agg (fQN (mkRat k d))) rfl rfl rfl rfl iiz
theorem zB4 {W:Wi} {b m:Nat} {k:Int} {d:Nat} {cs:List Wj} (hh:W.heap[b]?=some (.cells cs.toArray 103 (0,0))) (hc:QVp m k d (.agg cs.toArray) W) (hm:m<=2000) (hT:Tab W):Calls prog 101 #[pO b 0] W (zJW W b 103 (CU.agg (fQN (mkRat k d))) (uB (decide (0<d))).tS):=by
 rcases zU3 d with h|h
 ·have:=zPI hh hc hm h
  rw [h,Rat.mkRat_zero,zU5 oO]
  exact this
 ·rw [zU4 h]
  exact zPJ hh hc hm h hT
end Go.Proofs.Wd

namespace Go.Proofs.Wd
open Tryz
set_option maxRecDepth 100000
open Go.RowKit Lb
theorem zST {W:Wi} {m:Nat} {v:Wj} {k:Int} {d:Nat} (h:QVp m k d v W) (hm:m<=2000) (hT:Tab W):Calls prog 91 #[v] W (Ret W (wF W 103 (CU.agg (fQN (mkRat k d))))):=by
 refine yE [(fQV m k d).tS] func91 rfl kH ⟨h,trivial⟩ fun a s=> ?_
 refine tJ ?_
 refine zB 0 [] hmix s kH
  zD fun a w1 s=> ?_
 refine yV (CU.agg (fQV m k d)) rfl s kH (fun v W h=>zEE h) fun b1 a w s=> ?_
 refine y8 (UF.eq (.pointer none)) rfl s kH iiz fun a w s=> ?_
 refine zA rfl ?_
 refine tJ ?_
 refine zB 2 ((4, .Z (fQV m k d))::(5, .u (fQV m k d)):: []) hmix s kH
  (oc (zJ (f:=fQV m k d) 3 kH (hz:=zOJ _ _ _))<|oc (zCd (fun u W (hu:QVp m k d u W)=>zMo hu))<|zD) fun a w2 s=> ?_
 refine yV (CU.agg (fQV m k d)) rfl s kH (fun v W h=>zEE h) fun b6 a w s=> ?_
 refine zPw rfl s kH fun a w s=> ?_
 refine zA rfl ?_
 refine tJ ?_
 refine zB 1 ((7, .u (UF.eq (pO b6 0))):: []) hmix s kH
  (oc (zC (fun _ _ _ h=>h.1))<|zD) fun a w3 s=> ?_
 refine zC3 (c:=3) (CU.agg (fQN (mkRat k d))) (UF.any) rfl zE zHc s kH rfl rfl iiz (fun cs h1 h2=> ?_) fun a w s=> ?_
 ·exact (zB4 h1 h2 hm (hT.below s.gr.below)).mono fun e w' ⟨v,g1,_,g2⟩=>⟨v,g1,trivial,g2⟩
 refine zA rfl ?_
 refine tJ ?_
 replace s:=s.drop [2]
 refine zB 2 ((9, .s (wD b6 (cg (fQN (mkRat k d)))))::(2, .u (UF.eq (pO b6 0))):: []) hmix s kH
  (oc zC<|oc (zG (fun _ _ _ h=>h.1))<|zD) fun a w4 s=> ?_
 refine zA rfl ?_
 refine tK ?_
 exact vL s (t:=2) (c:=3) rfl rfl rfl iiz
theorem zNG {W:Wi} {b b' m m':Nat} {q q':Rat} {cs cs':List Wj} (hh:W.heap[b]?=some (.cells cs.toArray 103 (0,0))) (hc:QNp q (.agg cs.toArray) W) (hh':W.heap[b']?=some (.cells cs'.toArray 103 (0,0))) (hc':QNp q' (.agg cs'.toArray) W) (hne:b'≠b) (hq:QB q m) (hq':QB q' m') (hm:m+m'+1<=2000) (hT:Tab W):Calls prog 74 #[pO b 0,pO b' 0] W (zJW W b 103 (CU.agg (fQN (q+q'))) SF.any):=by
 have bk:Bd (((q).num*((q').den:Int))+((q').num*((q).den:Int))) (m+m'+1):=hq.num_add hq'
 rw [Rat.add_def']
 refine zEv b [(0,UF.eq (pO b 0)),(1,UF.eq (pO b' 0))] [⟨0,103,CU.agg (fQN q),b,false⟩,⟨1,103,CU.agg (fQN q'),b',true⟩] func74 rfl kH (fun x hx=>by simp at hx;rcases hx with rfl|rfl<;>exact ⟨by simp,rfl⟩) ⟨⟨cs,rfl, .inr (.inr rfl),hh,hc,zBL (zHO hc hq),fun y hy=>by simp at hy;subst hy;exact .inl hne⟩,⟨cs',rfl, .inl rfl,hh',hc',zBL (zHO hc' hq'),fun y hy=>by cases hy⟩,trivial⟩ (fun x hx=>by simp at hx;rcases hx with rfl|rfl<;>simp) fun a s=> ?_
 refine tJ ?_
 refine yT [0,1,6,14,19] 32 ((4, .Z (UF.eq (pO b 0)))::(5, .s (wD b (cg (fQN q))))::(6, .Y (fQN q))::(7, .X (fQN q) 0)::(8, .X (fQN q) 0)::(9, .Z (fNV ((q).num)))::(10, .s (wD b' (cg (fQN q'))))::(11, .Y (fQN q'))::(12, .X (fQN q') 0)::(13, .X (fQN q') 2)::(14, .Z (qW ((q').den)))::(15, .Z (fNV ((q').den:Int)))::(16, .s (zJK (m+m') [(q).num,((q').den:Int)]))::(17, .Z (fNV ((q).num*((q').den:Int))))::(18, .s (wD b' (cg (fQN q'))))::(19, .Y (fQN q'))::(20, .X (fQN q') 0)::(21, .X (fQN q') 0)::(22, .Z (fNV ((q').num)))::(23, .s (wD b (cg (fQN q))))::(24, .Y (fQN q))::(25, .X (fQN q) 0)::(26, .X (fQN q) 2)::(27, .Z (qW ((q).den)))::(28, .Z (fNV ((q).den:Int)))::(29, .s (zJK (m+m') [(q').num,((q).den:Int)]))::(30, .Z (fNV ((q').num*((q).den:Int))))::(31, .s (zJK (m+m') [((q).num*((q').den:Int)),((q').num*((q).den:Int))]))::(32, .u (fNV (((q).num*((q').den:Int))+((q').num*((q).den:Int)))))::(33, .Z (UF.eq (pO b 0)))::(34, .Z (UF.eq (pO b 0)))::(35, .u (UF.eq (pO b 0))):: []) hmix s kH
  (oc (zC (fun _ _ _ h=>h.1))<|oc zC<|oc (qK (C:=cg (fQN q)))<|oc (zR (C:=cg (fQN q)) 0 kH)<|oc (yP (C:=cg (fQN q)) 0 0 kH)<|oc (yG (C:=cg (fQN q)) (k:=0) 2 kH (h:=zBr))<|oc zC<|oc (qK (C:=cg (fQN q')))<|oc (zR (C:=cg (fQN q')) 0 kH)<|oc (yP (C:=cg (fQN q')) 0 2 kH)<|oc (jP (C:=cg (fQN q')) (k:=2) kH (h:=zAV))<|oc (zH zE zN0 (fun u0 W hb (h0:qM W u0 ((q').den))=>zFp h0))<|oc (yM (fun u v W (hu:NV W u ((q).num)) (hv:NV W v ((q').den:Int))=>zAY (NV.uv' hu (Bd.mono (hq).1 (m':=(m+m')) (by first|omega|decide))) (NV.uv' hv (Bd.mono (zAb hq'.2) (m':=(m+m')) (by first|omega|decide)))))<|oc (zH zE zJN (fun u0 W hb (h0:ISV W (m+m') u0 [(q).num,((q').den:Int)])=>zJE (k:=((q).num*((q').den:Int))) h0 (by show (m+m')*2+(m+m')+1<=40000;omega) fL fL))<|oc zC<|oc (qK (C:=cg (fQN q')))<|oc (zR (C:=cg (fQN q')) 0 kH)<|oc (yP (C:=cg (fQN q')) 0 0 kH)<|oc (yG (C:=cg (fQN q')) (k:=0) 2 kH (h:=zBr))<|oc zC<|oc (qK (C:=cg (fQN q)))<|oc (zR (C:=cg (fQN q)) 0 kH)<|oc (yP (C:=cg (fQN q)) 0 2 kH)<|oc (jP (C:=cg (fQN q)) (k:=2) kH (h:=zAV))<|oc (zH zE zN0 (fun u0 W hb (h0:qM W u0 ((q).den))=>zFp h0))<|oc (yM (fun u v W (hu:NV W u ((q').num)) (hv:NV W v ((q).den:Int))=>zAY (NV.uv' hu (Bd.mono (hq').1 (m':=(m+m')) (by first|omega|decide))) (NV.uv' hv (Bd.mono (zAb hq.2) (m':=(m+m')) (by first|omega|decide)))))<|oc (zH zE zJN (fun u0 W hb (h0:ISV W (m+m') u0 [(q').num,((q).den:Int)])=>zJE (k:=((q').num*((q).den:Int))) h0 (by show (m+m')*2+(m+m')+1<=40000;omega) fL fL))<|oc (yM (fun u v W (hu:NV W u ((q).num*((q').den:Int))) (hv:NV W v ((q').num*((q).den:Int)))=>zAY (NV.uv' hu (Bd.mono (Bd.mul (hq).1 (zAb hq'.2)) oO)) (NV.uv' hv (Bd.mono (Bd.mul (hq').1 (zAb hq.2)) oO))))<|oc (zH zE zSk (fun u0 W hb (h0:ISV W (m+m') u0 [((q).num*((q').den:Int)),((q').num*((q).den:Int))])=>zT0 (k:=(((q).num*((q').den:Int))+((q').num*((q).den:Int)))) h0 oO fL fL))<|oc (zA0 (a:=⟨b,0,none⟩) iiz)<|oc (jF (b:=b) (o:=0) 0 kH iiz)<|oc (jF (b:=b) (o:=0) 0 kH iiz)<|zD) fun Q' hQ a w1 s=> ?_
 refine qY (c:=0) (o:=0) (kk:=2) (CU.agg (fQK (((q).num*((q').den:Int))+((q').num*((q).den:Int))) ((q).den))) ((fNV (((q).num*((q').den:Int))+((q').num*((q).den:Int)))).tS) rfl s kH rfl rfl iiz iiz (zHC (k0:=q.num) (d:=q.den)) fun a w s=> ?_
 refine zA rfl (hQ _ _ ?_)
 refine tJ ?_
 refine yT [0,1,6] 15 ((36, .Z (UF.eq (pO b 0)))::(37, .s (wD b (cg (fQK (((q).num*((q').den:Int))+((q').num*((q).den:Int))) ((q).den)))))::(38, .Y (fQK (((q).num*((q').den:Int))+((q').num*((q).den:Int))) ((q).den)))::(39, .X (fQK (((q).num*((q').den:Int))+((q').num*((q).den:Int))) ((q).den)) 0)::(40, .X (fQK (((q).num*((q').den:Int))+((q').num*((q).den:Int))) ((q).den)) 2)::(41, .Z (qW ((q).den)))::(42, .s (wD b' (cg (fQN q'))))::(43, .Y (fQN q'))::(44, .X (fQN q') 0)::(45, .X (fQN q') 2)::(46, .Z (qW ((q').den)))::(47, .u (qW (((q).den)*((q').den))))::(48, .Z (UF.eq (pO b 0)))::(49, .Z (UF.eq (pO b 0)))::(50, .u (UF.eq (pO b 2))):: []) hmix s kH
  (oc (zC (fun _ _ _ h=>h.1))<|oc zC<|oc (qK (C:=cg (fQK (((q).num*((q').den:Int))+((q').num*((q).den:Int))) ((q).den))))<|oc (zR (C:=cg (fQK (((q).num*((q').den:Int))+((q').num*((q).den:Int))) ((q).den))) 0 kH)<|oc (yP (C:=cg (fQK (((q).num*((q').den:Int))+((q').num*((q).den:Int))) ((q).den))) 0 2 kH)<|oc (jP (C:=cg (fQK (((q).num*((q').den:Int))+((q').num*((q).den:Int))) ((q).den))) (k:=2) kH (h:=zRz))<|oc zC<|oc (qK (C:=cg (fQN q')))<|oc (zR (C:=cg (fQN q')) 0 kH)<|oc (yP (C:=cg (fQN q')) 0 2 kH)<|oc (jP (C:=cg (fQN q')) (k:=2) kH (h:=zAV))<|oc (zL zE zQA (fun u0 u1 W hb (h0:qM W u0 ((q).den)) (h1:qM W u1 ((q').den))=>zQf (LV.mono (qM.lv h0 hq.2) (m':=(m+m')) oO) (LV.mono (qM.lv h1 hq'.2) (m':=(m+m')) oO) oO))<|oc (zA0 (a:=⟨b,0,none⟩) iiz)<|oc (jF (b:=b) (o:=0) 0 kH iiz)<|oc (jF (b:=b) (o:=0) 2 kH iiz)<|zD) fun Q' hQ a w2 s=> ?_
 refine qY (c:=0) (o:=2) (kk:=1) (CU.agg (fQK (((q).num*((q').den:Int))+((q').num*((q).den:Int))) (((q).den)*((q').den)))) ((qW (((q).den)*((q').den))).tS) rfl s kH rfl rfl iiz iiz zKj fun a w s=> ?_
 refine zA rfl (hQ _ _ ?_)
 refine zB 1 ((51, .u (UF.eq (pO b 0))):: []) hmix s kH
  (oc (zC (fun _ _ _ h=>h.1))<|zD) fun a w3 s=> ?_
 refine zC3 (c:=0) (CU.agg (fQN (mkRat (((q).num*((q').den:Int))+((q').num*((q).den:Int))) ((q).den*(q').den)))) (UF.any) rfl zE zHc s kH rfl rfl iiz (fun cs h1 h2=> ?_) fun a w s=> ?_
 ·exact (zB4 (m:=m+m'+1) h1 (zRy h2 bk (tP (hq.den_mul hq') (zU1 y6 oO))) oO (hT.bls hh (zHN (zHO hc hq)) s.gr)).mono fun e w' ⟨v,g1,_,g2⟩=>⟨v,g1,trivial,g2⟩
 refine zA rfl ?_
 exact vI s (c:=0) (C:=CU.agg (fQN (mkRat (((q).num*((q').den:Int))+((q').num*((q).den:Int))) ((q).den*(q').den)))) rfl rfl rfl rfl (fun _=>trivial)
theorem zNF {W:Wi} {b b' m m':Nat} {q q':Rat} {cs cs':List Wj} (hh:W.heap[b]?=some (.cells cs.toArray 103 (0,0))) (hc:QNp q (.agg cs.toArray) W) (hh':W.heap[b']?=some (.cells cs'.toArray 103 (0,0))) (hc':QNp q' (.agg cs'.toArray) W) (hne:b'≠b) (hq:QB q m) (hq':QB q' m') (hm:m+m'+1<=2000) (hT:Tab W):Calls prog 114 #[pO b 0,pO b' 0] W (zJW W b 103 (CU.agg (fQN (q*q'))) SF.any):=by
 have bk:Bd ((q).num*(q').num) (m+m'+1):=(hq.1.mul hq'.1).mono oO
 rw [Rat.mul_def']
 refine zEv b [(0,UF.eq (pO b 0)),(1,UF.eq (pO b' 0))] [⟨0,103,CU.agg (fQN q),b,false⟩,⟨1,103,CU.agg (fQN q'),b',true⟩] func114 rfl kH (fun x hx=>by simp at hx;rcases hx with rfl|rfl<;>exact ⟨by simp,rfl⟩) ⟨⟨cs,rfl, .inr (.inr rfl),hh,hc,zBL (zHO hc hq),fun y hy=>by simp at hy;subst hy;exact .inl hne⟩,⟨cs',rfl, .inl rfl,hh',hc',zBL (zHO hc' hq'),fun y hy=>by cases hy⟩,trivial⟩ (fun x hx=>by simp at hx;rcases hx with rfl|rfl<;>simp) fun a s=> ?_
 refine tJ ?_
 refine yT [0,1,2,7,14,19] 28 ((4, .Z (UF.eq (pO b 0)))::(5, .u (UF.eq (pO b 0)))::(6, .s (wD b (cg (fQN q))))::(7, .Y (fQN q))::(8, .X (fQN q) 0)::(9, .X (fQN q) 0)::(10, .Z (fNV ((q).num)))::(11, .s (wD b' (cg (fQN q'))))::(12, .Y (fQN q'))::(13, .X (fQN q') 0)::(14, .X (fQN q') 0)::(15, .Z (fNV ((q').num)))::(16, .s (zJK (m+m') [(q).num,(q').num]))::(17, .u (fNV ((q).num*(q').num)))::(18, .s (wD b (cg (fQN q))))::(19, .Y (fQN q))::(20, .X (fQN q) 0)::(21, .X (fQN q) 2)::(22, .Z (qW ((q).den)))::(23, .s (wD b' (cg (fQN q'))))::(24, .Y (fQN q'))::(25, .X (fQN q') 0)::(26, .X (fQN q') 2)::(27, .Z (qW ((q').den)))::(28, .u (qW (((q).den)*((q').den))))::(29, .Z (UF.eq (pO b 0)))::(30, .Z (UF.eq (pO b 0)))::(31, .u (UF.eq (pO b 0))):: []) hmix s kH
  (oc (zC (fun _ _ _ h=>h.1))<|oc (zC (fun _ _ _ h=>h.1))<|oc zC<|oc (qK (C:=cg (fQN q)))<|oc (zR (C:=cg (fQN q)) 0 kH)<|oc (yP (C:=cg (fQN q)) 0 0 kH)<|oc (yG (C:=cg (fQN q)) (k:=0) 2 kH (h:=zBr))<|oc zC<|oc (qK (C:=cg (fQN q')))<|oc (zR (C:=cg (fQN q')) 0 kH)<|oc (yP (C:=cg (fQN q')) 0 0 kH)<|oc (yG (C:=cg (fQN q')) (k:=0) 2 kH (h:=zBr))<|oc (yM (fun u v W (hu:NV W u ((q).num)) (hv:NV W v ((q').num))=>zAY (NV.uv' hu (Bd.mono (hq).1 (m':=(m+m')) (by first|omega|decide))) (NV.uv' hv (Bd.mono (hq').1 (m':=(m+m')) (by first|omega|decide)))))<|oc (zH zE zJN (fun u0 W hb (h0:ISV W (m+m') u0 [(q).num,(q').num])=>zJE (k:=((q).num*(q').num)) h0 (by show (m+m')*2+(m+m')+1<=40000;omega) fL fL))<|oc zC<|oc (qK (C:=cg (fQN q)))<|oc (zR (C:=cg (fQN q)) 0 kH)<|oc (yP (C:=cg (fQN q)) 0 2 kH)<|oc (jP (C:=cg (fQN q)) (k:=2) kH (h:=zAV))<|oc zC<|oc (qK (C:=cg (fQN q')))<|oc (zR (C:=cg (fQN q')) 0 kH)<|oc (yP (C:=cg (fQN q')) 0 2 kH)<|oc (jP (C:=cg (fQN q')) (k:=2) kH (h:=zAV))<|oc (zL zE zQA (fun u0 u1 W hb (h0:qM W u0 ((q).den)) (h1:qM W u1 ((q').den))=>zQf (LV.mono (qM.lv h0 hq.2) (m':=(m+m')) oO) (LV.mono (qM.lv h1 hq'.2) (m':=(m+m')) oO) oO))<|oc (zA0 (a:=⟨b,0,none⟩) iiz)<|oc (jF (b:=b) (o:=0) 0 kH iiz)<|oc (jF (b:=b) (o:=0) 0 kH iiz)<|zD) fun Q' hQ a w1 s=> ?_
 refine qY (c:=0) (o:=0) (kk:=2) (CU.agg (fQK ((q).num*(q').num) ((q).den))) ((fNV ((q).num*(q').num)).tS) rfl s kH rfl rfl iiz iiz (zHC (k0:=q.num) (d:=q.den)) fun a w s=> ?_
 refine zCt (UF.eq (pO b 0)) rfl s kH (zA0 (a:=⟨b,0,none⟩) iiz) kH fun a w s=> ?_
 refine zCt (UF.eq (pO b 0)) rfl s kH (jF (b:=b) (o:=0) 0 kH iiz) kH fun a w s=> ?_
 refine zCt (UF.eq (pO b 2)) rfl s kH (jF (b:=b) (o:=0) 2 kH iiz) kH fun a w s=> ?_
 refine qY (c:=0) (o:=2) (kk:=1) (CU.agg (fQK ((q).num*(q').num) (((q).den)*((q').den)))) ((qW (((q).den)*((q').den))).tS) rfl s kH rfl rfl iiz iiz zKj fun a w s=> ?_
 refine zA rfl (hQ _ _ ?_)
 refine zB 1 ((35, .u (UF.eq (pO b 0))):: []) hmix s kH
  (oc (zC (fun _ _ _ h=>h.1))<|zD) fun a w2 s=> ?_
 refine zC3 (c:=0) (CU.agg (fQN (mkRat ((q).num*(q').num) ((q).den*(q').den)))) (UF.any) rfl zE zHc s kH rfl rfl iiz (fun cs h1 h2=> ?_) fun a w s=> ?_
 ·exact (zB4 (m:=m+m'+1) h1 (zRy h2 bk (tP (hq.den_mul hq') (zU1 y6 oO))) oO (hT.bls hh (zHN (zHO hc hq)) s.gr)).mono fun e w' ⟨v,g1,_,g2⟩=>⟨v,g1,trivial,g2⟩
 refine zA rfl ?_
 exact vI s (c:=0) (C:=CU.agg (fQN (mkRat ((q).num*(q').num) ((q).den*(q').den)))) rfl rfl rfl rfl (fun _=>trivial)
end Go.Proofs.Wd

namespace Go.Proofs.Wd
open Tryz
set_option maxRecDepth 100000
open Go.RowKit Lb
theorem zHH {W:Wi} {m:Nat} {v:Wj} {q:Rat} (h:RVp m q v W) (hm:m<=2000) (hT:Tab W):Calls prog 91 #[v] W (Ret W (wF W 103 (CU.agg (fQN q)))):=by
 obtain ⟨k,d,h1,rfl⟩:=h
 exact zST h1 hm hT
theorem zHL {W:Wi} {m:Nat} {v:Wj} {q:Rat} (h:RVp m q v W) (hm:m<=2000) (hm0:0<m) (hT:Tab W):Calls prog 69 #[v] W (Ret W (fI q.num.sign).tS):=by
 have hq:QB q m:=h.qb hm0
 refine yE [(fRV m q).tS] func69 rfl kH ⟨h,trivial⟩ fun a s=> ?_
 refine tJ ?_
 refine zB 0 [] hmix s kH
  zD fun a w1 s=> ?_
 refine yV (CU.agg (fRV m q)) rfl s kH (fun v W h=>zAu h) fun b1 a w s=> ?_
 refine y8 (uI 0) rfl s kH iiz fun a w s=> ?_
 refine zA rfl ?_
 refine tJ ?_
 replace s:=s.drop [2]
 refine zB 8 ((3, .Z (fRV m q))::(4, .s (wF w 103 (CU.agg (fQN q))))::(5, .Y (fQN q))::(6, .X (fQN q) 0)::(7, .X (fQN q) 0)::(8, .Z (fNV ((q).num)))::(9, .Z (uI (q.num.sign)))::(2, .u (uI (q.num.sign))):: []) hmix s kH
  (oc (zJ (f:=fRV m q) 3 kH (hz:=yQ _ _))<|oc (zH zE zJO (fun u0 W hb (h0:RVp m q u0 W)=>(zHH h0 oO (hT.below (s.up hb))).mono (wI (zBl hb.size))))<|oc (qK (C:=cg (fQN q)) zJD)<|oc (zR (C:=cg (fQN q)) 0 kH)<|oc (yP (C:=cg (fQN q)) 0 0 kH)<|oc (yG (C:=cg (fQN q)) (k:=0) 2 kH (h:=zBr))<|oc (zH zE zTh (fun u0 W hb (h0:NV W u0 ((q).num))=>zGf (zRh (NV.uv' h0 (hq).1) oO)))<|oc zG<|zD) fun a w2 s=> ?_
 refine zA rfl ?_
 refine tK ?_
 exact wH s (t:=2) rfl iiz
theorem zC8 {W:Wi} {m:Nat} {v v':Wj} {q q':Rat} (h:RVp m q v W) (h':RVp m q' v' W) (hm:m<=2000) (hm0:0<m) (hT:Tab W):Calls prog 71 #[v,v'] W (Ret W (fI (qsg q q')).tS):=by
 have hq:QB q m:=h.qb hm0
 have hq':QB q' m:=h'.qb hm0
 refine yE [(fRV m q).tS,(fRV m q').tS] func71 rfl kH ⟨h,h',trivial⟩ fun a s=> ?_
 refine tJ ?_
 refine zB 0 [] hmix s kH
  zD fun a w1 s=> ?_
 refine yV (CU.agg (fRV m q)) rfl s kH (fun v W h=>zAu h) fun b2 a w s=> ?_
 refine yV (CU.agg (fRV m q')) rfl s kH (fun v W h=>zAu h) fun b3 a w s=> ?_
 refine y8 (uI 0) rfl s kH iiz fun a w s=> ?_
 refine zA rfl ?_
 refine tJ ?_
 have so:=s.old;have sg:=s.gr
 refine jT 6 ((7, .Z (fRV m q))::(8, .s (wF w 103 (CU.agg (fQN q))))::(9, .Z (fRV m q'))::(10, .s (wF w 103 (CU.agg (fQN q'))))::(5, .s (wF w 103 (CU.agg (fQN q))))::(6, .s (wF w 103 (CU.agg (fQN q')))):: []) hmix s kH
  (oc (zJ (f:=fRV m q) 3 kH (hz:=yQ _ _))<|oc (zH zE zJO (fun u0 W hb (h0:RVp m q u0 W)=>(zHH h0 oO (hT.below (s.up hb))).mono (wI (zBl hb.size))))<|oc (zJ (f:=fRV m q') 3 kH (hz:=yQ _ _))<|oc (zH zE zJO (fun u0 W hb (h0:RVp m q' u0 W)=>(zHH h0 oO (hT.below (s.up hb))).mono (wI (zBl hb.size))))<|oc zG<|oc zG<|zD) fun a w2 s hr=> ?_
 obtain ⟨b5,_,s⟩:=s.adopt true 5 (hr (_,_) mz4) sg (fun y hy=> .inl (so y hy))
 obtain ⟨b6,_,s⟩:=s.adopt true 6 (hr (_,_) mz5) sg (fun y hy=>by rcases tV.1 hy with rfl|hy;exact .inr ⟨rfl,rfl⟩;exact .inl (so y hy))
 refine zA rfl ?_
 refine tJ ?_
 replace s:=s.drop [4]
 refine zB 28 ((11, .s (wD b5 (cg (fQN q))))::(12, .Y (fQN q))::(13, .X (fQN q) 0)::(14, .X (fQN q) 0)::(15, .Z (fNV ((q).num)))::(16, .s (wD b6 (cg (fQN q'))))::(17, .Y (fQN q'))::(18, .X (fQN q') 0)::(19, .X (fQN q') 2)::(20, .Z (qW ((q').den)))::(21, .Z (fNV ((q').den:Int)))::(22, .s (zJK (m+m) [(q).num,((q').den:Int)]))::(23, .Z (fNV ((q).num*((q').den:Int))))::(24, .s (wD b6 (cg (fQN q'))))::(25, .Y (fQN q'))::(26, .X (fQN q') 0)::(27, .X (fQN q') 0)::(28, .Z (fNV ((q').num)))::(29, .s (wD b5 (cg (fQN q))))::(30, .Y (fQN q))::(31, .X (fQN q) 0)::(32, .X (fQN q) 2)::(33, .Z (qW ((q).den)))::(34, .Z (fNV ((q).den:Int)))::(35, .s (zJK (m+m) [(q').num,((q).den:Int)]))::(36, .Z (fNV ((q').num*((q).den:Int))))::(37, .Z (uI (qsg q q')))::(4, .u (uI (qsg q q'))):: []) hmix s kH
  (oc zC<|oc (qK (C:=cg (fQN q)))<|oc (zR (C:=cg (fQN q)) 0 kH)<|oc (yP (C:=cg (fQN q)) 0 0 kH)<|oc (yG (C:=cg (fQN q)) (k:=0) 2 kH (h:=zBr))<|oc zC<|oc (qK (C:=cg (fQN q')))<|oc (zR (C:=cg (fQN q')) 0 kH)<|oc (yP (C:=cg (fQN q')) 0 2 kH)<|oc (jP (C:=cg (fQN q')) (k:=2) kH (h:=zAV))<|oc (zH zE zN0 (fun u0 W hb (h0:qM W u0 ((q').den))=>zFp h0))<|oc (yM (fun u v W (hu:NV W u ((q).num)) (hv:NV W v ((q').den:Int))=>zAY (NV.uv' hu (Bd.mono (hq).1 (m':=(m+m)) (by first|omega|decide))) (NV.uv' hv (Bd.mono (zAb hq'.2) (m':=(m+m)) (by first|omega|decide)))))<|oc (zH zE zJN (fun u0 W hb (h0:ISV W (m+m) u0 [(q).num,((q').den:Int)])=>zJE (k:=((q).num*((q').den:Int))) h0 (by show (m+m)*2+(m+m)+1<=40000;omega) fL fL))<|oc zC<|oc (qK (C:=cg (fQN q')))<|oc (zR (C:=cg (fQN q')) 0 kH)<|oc (yP (C:=cg (fQN q')) 0 0 kH)<|oc (yG (C:=cg (fQN q')) (k:=0) 2 kH (h:=zBr))<|oc zC<|oc (qK (C:=cg (fQN q)))<|oc (zR (C:=cg (fQN q)) 0 kH)<|oc (yP (C:=cg (fQN q)) 0 2 kH)<|oc (jP (C:=cg (fQN q)) (k:=2) kH (h:=zAV))<|oc (zH zE zN0 (fun u0 W hb (h0:qM W u0 ((q).den))=>zFp h0))<|oc (yM (fun u v W (hu:NV W u ((q').num)) (hv:NV W v ((q).den:Int))=>zAY (NV.uv' hu (Bd.mono (hq').1 (m':=(m+m)) (by first|omega|decide))) (NV.uv' hv (Bd.mono (zAb hq.2) (m':=(m+m)) (by first|omega|decide)))))<|oc (zH zE zJN (fun u0 W hb (h0:ISV W (m+m) u0 [(q').num,((q).den:Int)])=>zJE (k:=((q').num*((q).den:Int))) h0 (by show (m+m)*2+(m+m)+1<=40000;omega) fL fL))<|oc (zL zE zTf (fun u0 u1 W hb (h0:NV W u0 ((q).num*((q').den:Int))) (h1:NV W u1 ((q').num*((q).den:Int)))=>zGf (zTQ (NV.uv' h0 (Bd.mul (hq).1 (zAb hq'.2))) (NV.uv' h1 (Bd.mul (hq').1 (zAb hq.2))) oO)))<|oc zG<|zD) fun a w3 s=> ?_
 refine zA rfl ?_
 refine tK ?_
 exact wH s (t:=4) rfl iiz
theorem zKM {W:Wi} {m:Nat} {v:Wj} {q:Rat} (h:RVp m q v W) (hm:m<=2000) (hm0:0<m) (hT:Tab W):Calls prog 68 #[v] W (Ret W (fQN (-q)).tS):=by
 have hq:QB q m:=h.qb hm0
 refine yE [(fRV m q).tS] func68 rfl kH ⟨h,trivial⟩ fun a s=> ?_
 refine tJ ?_
 refine zB 0 [] hmix s kH
  zD fun a w1 s=> ?_
 refine yV (CU.agg (fRV m q)) rfl s kH (fun v W h=>zAu h) fun b1 a w s=> ?_
 refine zW (CU.len 3) (cs:=zR3) kH rfl s kH (fun W=>rfl) rfl fun b2 a w s=> ?_
 refine zA rfl ?_
 refine tJ ?_
 have so:=s.old;have sg:=s.gr
 refine jT 3 ((4, .Z (fRV m q))::(5, .s (wF w 103 (CU.agg (fQN q))))::(3, .s (wF w 103 (CU.agg (fQN q)))):: []) hmix s kH
  (oc (zJ (f:=fRV m q) 3 kH (hz:=yQ _ _))<|oc (zH zE zJO (fun u0 W hb (h0:RVp m q u0 W)=>(zHH h0 oO (hT.below (s.up hb))).mono (wI (zBl hb.size))))<|oc zG<|zD) fun a w2 s hr=> ?_
 obtain ⟨b3,_,s⟩:=s.adopt false 3 (hr (_,_) mz2) sg (fun y hy=> .inl (so y hy))
 refine zA rfl ?_
 refine tJ ?_
 refine zB 10 ((6, .Z (UF.eq (pO b3 0)))::(7, .s (wD b3 (cg (fQN q))))::(8, .Y (fQN q))::(9, .X (fQN q) 0)::(10, .X (fQN q) 0)::(11, .Z (fNV ((q).num)))::(12, .u (fNV (-(q).num)))::(13, .Z (UF.eq (pO b3 0)))::(14, .Z (UF.eq (pO b3 0)))::(15, .u (UF.eq (pO b3 0))):: []) hmix s kH
  (oc (zC (fun _ _ _ h=>h.1))<|oc zC<|oc (qK (C:=cg (fQN q)))<|oc (zR (C:=cg (fQN q)) 0 kH)<|oc (yP (C:=cg (fQN q)) 0 0 kH)<|oc (yG (C:=cg (fQN q)) (k:=0) 2 kH (h:=zBr))<|oc (zH zE zTi (fun u0 W hb (h0:NV W u0 ((q).num))=>zS1 (NV.uv' h0 (hq).1) oO))<|oc (zA0 (a:=⟨b3,0,none⟩) iiz)<|oc (jF (b:=b3) (o:=0) 0 kH iiz)<|oc (jF (b:=b3) (o:=0) 0 kH iiz)<|zD) fun a w3 s=> ?_
 refine qY (c:=3) (o:=0) (kk:=2) (CU.agg (fQN (-q))) ((fNV (-(q).num)).tS) rfl s kH rfl rfl iiz iiz (zHC (k0:=q.num) (d:=q.den)) fun a w s=> ?_
 refine zA rfl ?_
 refine tJ ?_
 refine zB 4 ((16, .s (wD b3 (cg (fQN (-q)))))::(17, .Y (fQN (-q)))::(18, .X (fQN (-q)) 0)::(19, .u (fQN (-q))):: []) hmix s kH
  (oc zC<|oc (qK (C:=cg (fQN (-q))))<|oc (zR (C:=cg (fQN (-q))) 0 kH)<|oc (yG (C:=cg (fQN (-q))) (k:=0) 3 kH (h:=zFL))<|zD) fun a w4 s=> ?_
 refine zN (CU.agg (fQN (-q))) ((fQN (-q)).tS) rfl s kH rfl rfl rfl iiz iiz zY fun a w s=> ?_
 refine zA rfl ?_
 refine tK ?_
 exact wJ s (CU.agg (fQN (-q))) rfl kH rfl rfl (y5 _) (fun cs W h=>h)
end Go.Proofs.Wd

namespace Go.Proofs.Wd
open Tryz
set_option maxRecDepth 100000
set_option maxHeartbeats 1000000
open Go.RowKit Lb
attribute [local go_sem] Oper.semAt_some qB yB
structure QRd (m:Nat) (w:World) (A:Option Addr) (n:Nat) (qs:List Rat):Prop where
 len:qs.length=n
 cells: ∀i,i<n-> ∃b o c0 c1 c2 q,A=some ⟨b,o,none⟩/\w.cell? ⟨b,o+i*3,none⟩=some c0/\w.cell? ⟨b,o+i*3+1,none⟩=some c1/\w.cell? ⟨b,o+i*3+2,none⟩=some c2/\qs[i]?=some q/\RVp m q (.agg #[c0,c1,c2]) w
theorem RVp.keep {m:Nat} {q:Rat} {v:Wj} {w w':Wi} (h:RVp m q v w) (hk: ∀p:Addr,p.block<w.heap.size->w'.cell? p=w.cell? p):RVp m q v w':=by
 obtain ⟨k,d,⟨b,s,t,e,⟨sg,A,n,c,l,e1,h1,h2⟩,A',n',c',l',e2,h1',h2'⟩,h3⟩:=h
 exact ⟨k,d,⟨b,s,t,e,⟨sg,A,n,c,l,e1,h1.keep hk,h2⟩,A',n',c',l',e2,h1'.keep hk,h2'⟩,h3⟩
theorem QRd.keep {m:Nat} {w w':Wi} {A:Wl Addr} {n:Nat} {qs:List Rat} (h:QRd m w A n qs) (hk: ∀p:Addr,p.block<w.heap.size->w'.cell? p=w.cell? p):QRd m w' A n qs:=
 ⟨h.len,fun i hi=>by
  obtain ⟨b,o,c0,c1,c2,q,e,g0,g1,g2,h1,h2⟩:=h.cells i hi
  exact ⟨b,o,c0,c1,c2,q,e,(hk _ (zU6 w _ g0)).trans g0,(hk _ (zU6 w _ g1)).trans g1,(hk _ (zU6 w _ g2)).trans g2,h1,h2.keep hk⟩⟩
theorem QRd.below {m:Nat} {w w':Wi} {A:Wl Addr} {n:Nat} {qs:List Rat} (h:QRd m w A n qs) (hb:Below w.heap.size w w'):QRd m w' A n qs:=h.keep fun _ hp=>hb.cell hp
theorem RVp.below {m:Nat} {q:Rat} {v:Wj} {w w':Wi} (h:RVp m q v w) (hb:Below w.heap.size w w'):RVp m q v w':=h.keep fun _ hp=>hb.cell hp
def qAt (qs:List Rat) (k:Nat):Rat:=(qs[k]?).getD 0
def zPg (W:Wi) (B:Nat) (q:Rat):Prop:= ∃cs:List Wj,W.heap[B]?=some (.cells cs.toArray 103 (0,0))/\QNp q (.agg cs.toArray) W
theorem QNp.keepU {q:Rat} {v:Wj} {w w':Wi} (h:QNp q v w) (hk:jH w w'):QNp q v w':=(fQN q).us _ _ _ h hk
def zUW (N0:Nat) (qs:List Rat) (k:Nat) (xs:Array Wj) (W:Wi):Prop:= ∃B,xs=#[pO B 0]/\N0<=B/\zPg W B (qAt qs k)
theorem zIO (A:Wl Addr) (n c:Nat) (w:Wi):
  Calls prog 73 #[.slice A n c] w fun e w'=>e= .returned (.func (.func 99) #[] #[pO w.heap.size 0])/\w'=w.alloc (.cells #[.slice A n c] 54):=by
 go_enter func73,ntmps73
 go_wp2
 go_ret
 exact ⟨rfl,rfl⟩
theorem zSU {W:Wi} {m:Nat} {c0 c1 c2:Wj} {q:Rat} (h:RVp m q (.agg #[c0,c1,c2]) W) (hm:m<=2000) (hT:Tab W):Calls prog 91 #[.agg #[c0,c1,c2]] W fun e w'=> ∃B,e= .returned (pO B 0)/\W.heap.size<=B/\zPg w' B q/\Below W.heap.size W w':=
 (zHH h hm hT).mono fun _ _ ⟨_,e1,⟨B,cs,e2,h1,h2,h3,_⟩,hb⟩=>⟨B,by rw [e1,e2],h1,⟨cs,h2,h3⟩,hb⟩
theorem zFc (m:Nat) (hm:m<=2000) (A:Wl Addr) (n c:Nat) (qs:List Rat) (b1:Nat) (w w0:Wi) (h:QRd m w A n qs) (hT:Tab w) (hw0:Below w.heap.size w w0) (hn:n<=c) (hc:c<=9223372036854775807)
  (hc1:w0.cell? ⟨b1,0,none⟩=some (.slice A n c)) {S:Nat->Prop} (hS: ∀b,S b->b<w0.heap.size) (_hS1:S b1) (hSA: ∀b,b<w.heap.size->S b):
  zOq prog 99 #[pO b1 0] (zUW w0.heap.size qs) n (zEW S) Mk (fun _=>True) w0:=by
 intro lp J W hW hJ hY h0
 have hl1:=zV hc1
 have hw1:=(hW.cell (p:=⟨b1,0,none⟩) hl1).trans hc1
 refine zBj func99 rfl ?_
 simp only [ntmps99,zVi,zVj,zVk,Nat.reduceAdd,Nat.reduceSub,zVl,zVm,zVn,zVo,zU9,zVp]
 gi_wp2
 gi_loopw [7] (fun i wr=> ∃k:Nat,k<=n/\i= .int .i64 k/\J k wr/\yU S w0 wr/\w0.heap.size<=wr.heap.size) (fun i _=>n - (intOf i).toNat)
 case atStart=>exact ⟨0,tS _,rfl,h0,wP hW hS,hW.size⟩
 case round=>
  obtain ⟨k,hk,rfl,hj,hb,hz⟩:=hrel
  by_cases hkn:k<n
  ·have hkeep: ∀p:Addr,p.block<w.heap.size->wr.cell? p=w.cell? p:=fun p hp=>(hb.cell (hSA _ hp)).trans (hw0.cell hp)
   obtain ⟨b,o,c0,c1,c2,q,rfl,p0,p1,p2,hi,hr⟩:=(h.keep (w':=wr) hkeep).cells k hkn
   have hTr:Tab wr:=fun j hj=>(hkeep ⟨0,j,none⟩ (zV (hT j hj))).trans (hT j hj)
   have hid1:qAt qs k=q:=by simp [qAt,hi]
   have hjk:=hJ k wr
   have hHI:=hid hi
   clear hi
   obtain ⟨sg,A1,n1,d1,A2,n2,d2,rfl,rfl,rfl⟩: ∃sg A1 n1 d1 A2 n2 d2,c0= .bool sg/\c1= .slice A1 n1 d1/\c2= .slice A2 n2 d2:=by
    obtain ⟨k',d',hq,_⟩:=hr
    obtain ⟨sg,A1,n1,d1,A2,n2,d2,e⟩:=zB5 hq
    have:=zU2 Array.toList (jG e)
    simp at this
    exact ⟨sg,A1,n1,d1,A2,n2,d2,this.1,this.2.1,this.2.2⟩
   gi_wp2_with (first|(gi_at_call 91;refine CallsIn.mono (callsIn_wide.2 (zSU (hr.below (zCo _ _)) hm (hTr.below (zCo _ _)))) ?_;rintro e w2 ⟨B2,rfl,hB2,hn2,hb2⟩;have hmk:Mk wr w2:=((tR _ wr).alloc lr _).trans (hb2.mono fL);obtain ⟨fn,tmps,assign,body,hy,hR⟩:=hY k w2 #[pO B2 0] hkn (hjk _ hj hmk) ⟨B2,rfl,tO hz (tO fL hB2),by rw [hid1];exact hn2⟩)|(refine hR.mono ?_;rintro e W3 ⟨rfl,hJ3,hk3⟩))
   refine ⟨⟨k+1,by omega,rfl,hJ3,(hb.trans (wP hmk fun b hb=>tP (hS b hb) hz)).trans hk3.1,tO hz (tO hmk.size hk3.2)⟩, ?_⟩
   simp [intOf]
   omega
  ·obtain rfl:k=n:=by omega
   gi_wp2
   go_end0
   exact ⟨⟨_,rfl⟩,hj,trivial⟩
def zCX (qs:List Rat):Nat->Rat
 |0=>0
 |k+1=>zCX qs k+qAt qs k
def zCG (qs:List Rat):Nat->Rat
 |0=>1
 |k+1=>zCG qs k*qAt qs k
def zQR (w:Wi) (B0 P:Nat) (f:Nat->Rat) (k:Nat) (W:Wi):Prop:=
 zPg W B0 (f k)/\Boxed W P 101 (pO B0 0)/\qV W w.heap.size 29 #[.bool false, .slice none 0 0, .slice none 0 0]/\Below w.heap.size w W/\P+2<=W.heap.size/\w.heap.size<B0
theorem zPg.abide {W W':Wi} {B C:Nat} {q:Rat} {row:Wl Nat} (h:zPg W B q) (hg:W.grownBy W' row) (hr: ∀r,row=some r->C<=r/\ ∃o,W.heap[r]?=some o/\o.isCells=false):zPg W' B q:=by
 obtain ⟨cs,h1,h2⟩:=h
 have hk:jH W W':=fun p x hp=>zFl hp hg hr
 refine ⟨cs,(hg.block _ (zVq.1 h1).1 fun e=> ?_).trans h1,h2.keepU hk⟩
 obtain ⟨_,o,ho,hc⟩:=hr _ e.symm
 rw [h1] at ho
 cases ho
 cases hc
theorem zC4 (w:Wi) (B0 P:Nat) (f:Nat->Rat) {C:Nat} (hC:w.heap.size<=C):OwnFrom C (zQR w B0 P f):=by
 rintro k W W' row ⟨h1,h2,h3,h4,h5,h6⟩ hg hr
 exact ⟨h1.abide hg hr,qN h2 hg hr,h3.abide hg hr,zAk h4 hg lr hC hr,tO h5 hg.size,h6⟩
theorem zNh (m M:Nat) (A:Wl Addr) (n c:Nat) (qs:List Rat) (w:Wi) (h:QRd m w A n qs) (hn:n<=c) (hc:c<=9223372036854775807) (hm:m<=2000) (hm0:0<m) (hM:M+m+1<=2000) (hp: ∀k,k<=n->QB (zCX qs k) M) (hT:Tab w):
  Calls prog 45 #[.slice A n c] w (Ret w (fQN (zCX qs n)).tS):=by
 refine qU func45 rfl ?_
 simp only [ntmps45,zVi,zVj,zVk,Nat.reduceAdd,Nat.reduceSub,zVl,zVm,zVn,zVo,zU9,zVp]
 go_wp2_with (first|(go_at_call 39;refine (zNb 0 dA).mono ?_;rintro e w1 ⟨v1,rfl,hv1,hb1⟩;obtain ⟨A1,n1,c1,A2,n2,c2,rfl⟩:=zB6 hv1)|(go_at_call 73;refine (zIO A n c _).mono ?_;rintro e w3 ⟨rfl,rfl⟩))
 have hv2:QNp 0 (.agg #[.bool false, .slice A1 n1 c1, .slice A2 n2 c2]) w1:=hv1
 obtain ⟨W0,hW0⟩: ∃W0,(((w1.alloc (.cells #[.bool false, .slice A1 n1 c1, .slice A2 n2 c2] 103)).alloc (.cells #[pO w1.heap.size 0] 101)).alloc (.cells #[.slice A n c] 54))=W0:=⟨_,rfl⟩
 have hsz:W0.heap.size=w1.heap.size+3:=by rw [<-hW0];simp
 have hbw1:Below w.heap.size w w1:=((tR _ w).alloc lr _).trans (hb1.mono fL)
 have hsz1:w.heap.size<w1.heap.size:=tP fL hb1.size
 have hb01:Below w1.heap.size w1 W0:=by rw [<-hW0];exact (((tR _ w1).alloc lr _).alloc fL _).alloc (by simp;omega) _
 have hB1:Below w.heap.size w W0:=hbw1.trans (hb01.mono hbw1.size)
 have x0:zPg W0 w1.heap.size 0:=⟨[_,_,_],(by rw [<-hW0];exact ((qV.new w1 _ #[.bool false, .slice A1 n1 c1, .slice A2 n2 c2]).alloc _).alloc _),hv2.keepU (zP hb01)⟩
 have x1:Boxed W0 (w1.heap.size+1) 101 (pO w1.heap.size 0):=by rw [<-hW0];exact (zAp _ _ _ fL).alloc _
 have x2:Boxed W0 (w1.heap.size+1+1) 54 (.slice A n c):=by rw [<-hW0];exact zAp _ _ _ fL
 have x3:qV W0 w.heap.size 29 #[.bool false, .slice none 0 0, .slice none 0 0]:=(qV.kept (qV.kept (qV.new w _ _) hb1) hb01)
 rw [hW0]
 clear hW0
 have hSb: ∀b,(b<w.heap.size∨b=w1.heap.size+1+1)->b<W0.heap.size:=fun b hb=>by have:=hbw1.size;omega
 refine zBZ (gf:=99) rfl (enters_of func99 kH rfl) (zFc m hm A n c qs (w1.heap.size+1+1) w W0 h hT hB1 hn hc x2.cell (S:=fun b=>b<w.heap.size∨b=w1.heap.size+1+1) hSb (.inr rfl) (fun b hb=> .inl hb)) ?hE ?hps zEW.trans (zFZ hSb)
  (zQR w w1.heap.size (w1.heap.size+1) (zCX qs)) (zC4 w _ _ _ hB1.size) (zBk (zC4 w _ _ _ lr)) wO (fun _ _ _ _ _ _ _ _=>trivial) ⟨x0,x1,x3,hB1,by omega,hsz1⟩
  (fun xs=>{ tmps:=#[.slice A n c,undef,pO w.heap.size 0, .pointer (some ⟨w1.heap.size+1,0,none⟩),xs.getD 0 undef, .agg #[.bool false, .slice A1 n1 c1, .slice A2 n2 c2], .agg #[.bool false, .slice A1 n1 c1, .slice A2 n2 c2],pO w1.heap.size 0, .slice A n c, .func (.func 99) #[] #[.pointer (some ⟨w1.heap.size+1+1,0,none⟩)],xs.getD 0 undef,undef,undef,undef,undef,undef,undef,undef],defers:= [] }) ?assign ?body ?done
 case hE=>
  rintro k xs W l o o' ⟨B,rfl,h1,h2⟩ ho hc
  exact ⟨B,rfl,h1,h2.abide (C:=0) (grownBy_putObj' W l o') (fun r e=>by cases e;exact ⟨tS _,o,ho,hc⟩)⟩
 case hps=>
  rintro k xs W ⟨B,rfl,_⟩
  rfl
 case assign=>
  rintro lp k xs W K ⟨B,rfl,h1,h2⟩ hK
  gi_wp2
  exact hK
 case body=>
  rintro lp k xs W hk ⟨h1,h2,h3,h4,h5,h6⟩ ⟨B,rfl,hB,hnb⟩
  have hc2:=h2.cell
  have hne:B≠w1.heap.size:=by omega
  have hbd:=hp k (zVc hk)
  have hbd2:QB (qAt qs k) m:=by
   obtain ⟨_,_,_,_,_,q,_,_,_,_,e,hr⟩:=h.cells k hk
   rw [show qAt qs k=q from by simp [qAt,e]]
   exact hr.qb hm0
  have hTW:Tab W:=hT.below h4
  gi_wp2_with (gi_at_call 74;refine CallsIn.mono (callsIn_wide.2 (by
   obtain ⟨cs,g1,g2⟩:=h1
   obtain ⟨cs',g1',g2'⟩:=hnb
   exact zNG g1 g2 g1' g2' hne hbd hbd2 oO hTW)) ?_;rintro e w3 ⟨u,rfl,_,hg3,cs3,hh3,hc3,_⟩)
  refine ⟨(KeepsOthers.of_grownBy hg3 (fun j o e ho=>by cases e;obtain ⟨cs,g1,_⟩:=h1;rw [g1] at ho;cases ho;rfl)).from _,⟨(yU.refl _ _).grown hg3 (fun b hb=>⟨by have:=h4.size;rcases hb with hb|hb<;>omega,fun e=>by have:=zUZ e;omega⟩),hg3.size⟩,⟨cs3,hh3,hc3⟩,h2.kept hg3 (fun e=>by have:=zUZ e;omega),(hg3.block _ h3.lt (fun e=>by have:=zUZ e;omega)).trans h3,zAC h4 hg3 h4.size oO,tO h5 hg3.size,h6⟩
 case done=>
  rintro D W hD ⟨h1,h2,h3,h4,h5,h6⟩ _ hd
  obtain ⟨cs,hh,hq⟩:=h1
  obtain ⟨A3,n3,c3,A4,n4,c4,ecs⟩:=zB6 hq
  have ecs:=zU2 Array.toList (jG ecs)
  simp at ecs
  subst ecs
  obtain ⟨g0,g1,g2⟩:W.cell? ⟨w1.heap.size,0,none⟩=some (.bool (decide ((zCX qs n).num<0)))/\W.cell? ⟨w1.heap.size,0+1,none⟩=some (.slice A3 n3 c3)/\W.cell? ⟨w1.heap.size,0+2,none⟩=some (.slice A4 n4 c4):=⟨qL hh 0 _ rfl,qL hh 1 _ rfl,qL hh 2 _ rfl⟩
  simp only [Nat.zero_add] at g1 g2
  have hc2:=h2.cell
  have q0:W.cell? ⟨w.heap.size,0,none⟩=some (.bool false):=h3.cell 0
  have q1:W.cell? ⟨w.heap.size,1,none⟩=some (.slice none 0 0):=h3.cell 1
  have q2:W.cell? ⟨w.heap.size,2,none⟩=some (.slice none 0 0):=h3.cell 2
  have q3:=h3.frozen 0;have q4:=h3.frozen 1;have q5:=h3.frozen 2
  go_wp2
  have hb5:qV (((W.setCell ⟨w.heap.size,0,none⟩ (.bool (decide ((zCX qs n).num<0)))).setCell ⟨w.heap.size,1,none⟩ (.slice A3 n3 c3)).setCell ⟨w.heap.size,2,none⟩ (.slice A4 n4 c4)) w.heap.size 29 #[.bool (decide ((zCX qs n).num<0)), .slice A3 n3 c3, .slice A4 n4 c4]:=((h3.set 0 _).set 1 _).set 2 _
  have hM2:Marks w.heap.size (((W.setCell ⟨w.heap.size,0,none⟩ (.bool (decide ((zCX qs n).num<0)))).setCell ⟨w.heap.size,1,none⟩ (.slice A3 n3 c3)).setCell ⟨w.heap.size,2,none⟩ (.slice A4 n4 c4)) [mark D] [D]:=((Marks.nil w.heap.size W).more (D:=D) fL (by have:=hB1.size;omega) hd).others (((zU7 _ _ _).trans (zU7 _ _ _)).trans (zU7 _ _ _))
  have hrow: ∀(W':Wi) (i:Nat) (v u:Wj),W'.cell? ⟨w.heap.size,i,none⟩=some u->zU u=true->jH W' (W'.setCell ⟨w.heap.size,i,none⟩ v):=fun W' i v u hu hn p x hp=>(World.cell?_setCell_other _ _ _ _ (fun e=>by rw [<-e] at hp;rw [hu] at hp;cases hp;cases hn)).trans hp
  have hk3:jH W (((W.setCell ⟨w.heap.size,0,none⟩ (.bool (decide ((zCX qs n).num<0)))).setCell ⟨w.heap.size,1,none⟩ (.slice A3 n3 c3)).setCell ⟨w.heap.size,2,none⟩ (.slice A4 n4 c4)):=((hrow _ _ _ _ q0 rfl).trans (hrow _ _ _ _ ((h3.set 0 _).cell 1) rfl)).trans (hrow _ _ _ _ (((h3.set 0 _).set 1 _).cell 2) rfl)
  have hq3:=hq.keepU hk3
  have hb3:Below w.heap.size w (((W.setCell ⟨w.heap.size,0,none⟩ (.bool (decide ((zCX qs n).num<0)))).setCell ⟨w.heap.size,1,none⟩ (.slice A3 n3 c3)).setCell ⟨w.heap.size,2,none⟩ (.slice A4 n4 c4)):=((h4.setCell lr _).setCell lr _).setCell lr _
  generalize ((W.setCell ⟨w.heap.size,0,none⟩ (.bool (decide ((zCX qs n).num<0)))).setCell ⟨w.heap.size,1,none⟩ (.slice A3 n3 c3)).setCell ⟨w.heap.size,2,none⟩ (.slice A4 n4 c4)=W9 at*
  refine y9 _ (v:= .agg #[.bool (decide ((zCX qs n).num<0)), .slice A3 n3 c3, .slice A4 n4 c4]) (fun w' ho'=> ?_) [D] _ _ hM2 (Oth.refl _ _) ?_
  ·have h7:=hb5.oth ho'
   have:=zC6 (P:=prog) (w:=w') (t:=29) (k:=3) kH (vs:= [.bool (decide ((zCX qs n).num<0)), .slice A3 n3 c3, .slice A4 n4 c4]) rfl h7
   simp [results,results45,asAddr,this]
  ·intro w' ho
   exact ⟨_,rfl,hq3.keepU (fun p x hp=>(ho.cell p).trans hp),zAa hb3 ho lr⟩
theorem zNg (m M:Nat) (A:Wl Addr) (n c:Nat) (qs:List Rat) (w:Wi) (h:QRd m w A n qs) (hn:n<=c) (hc:c<=9223372036854775807) (hm:m<=2000) (hm0:0<m) (hM:M+m+1<=2000) (hp: ∀k,k<=n->QB (zCG qs k) M) (hT:Tab w):
  Calls prog 90 #[.slice A n c] w (Ret w (fQN (zCG qs n)).tS):=by
 refine qU func90 rfl ?_
 simp only [ntmps90,zVi,zVj,zVk,Nat.reduceAdd,Nat.reduceSub,zVl,zVm,zVn,zVo,zU9,zVp]
 go_wp2_with (first|(go_at_call 39;refine (zNb 1 dA).mono ?_;rintro e w1 ⟨v1,rfl,hv1,hb1⟩;obtain ⟨A1,n1,c1,A2,n2,c2,rfl⟩:=zB6 hv1)|(go_at_call 73;refine (zIO A n c _).mono ?_;rintro e w3 ⟨rfl,rfl⟩))
 have hv2:QNp 1 (.agg #[.bool false, .slice A1 n1 c1, .slice A2 n2 c2]) w1:=hv1
 obtain ⟨W0,hW0⟩: ∃W0,(((w1.alloc (.cells #[.bool false, .slice A1 n1 c1, .slice A2 n2 c2] 103)).alloc (.cells #[pO w1.heap.size 0] 101)).alloc (.cells #[.slice A n c] 54))=W0:=⟨_,rfl⟩
 have hsz:W0.heap.size=w1.heap.size+3:=by rw [<-hW0];simp
 have hbw1:Below w.heap.size w w1:=((tR _ w).alloc lr _).trans (hb1.mono fL)
 have hsz1:w.heap.size<w1.heap.size:=tP fL hb1.size
 have hb01:Below w1.heap.size w1 W0:=by rw [<-hW0];exact (((tR _ w1).alloc lr _).alloc fL _).alloc (by simp;omega) _
 have hB1:Below w.heap.size w W0:=hbw1.trans (hb01.mono hbw1.size)
 have x0:zPg W0 w1.heap.size 1:=⟨[_,_,_],(by rw [<-hW0];exact ((qV.new w1 _ #[.bool false, .slice A1 n1 c1, .slice A2 n2 c2]).alloc _).alloc _),hv2.keepU (zP hb01)⟩
 have x1:Boxed W0 (w1.heap.size+1) 101 (pO w1.heap.size 0):=by rw [<-hW0];exact (zAp _ _ _ fL).alloc _
 have x2:Boxed W0 (w1.heap.size+1+1) 54 (.slice A n c):=by rw [<-hW0];exact zAp _ _ _ fL
 have x3:qV W0 w.heap.size 29 #[.bool false, .slice none 0 0, .slice none 0 0]:=(qV.kept (qV.kept (qV.new w _ _) hb1) hb01)
 rw [hW0]
 clear hW0
 have hSb: ∀b,(b<w.heap.size∨b=w1.heap.size+1+1)->b<W0.heap.size:=fun b hb=>by have:=hbw1.size;omega
 refine zBZ (gf:=99) rfl (enters_of func99 kH rfl) (zFc m hm A n c qs (w1.heap.size+1+1) w W0 h hT hB1 hn hc x2.cell (S:=fun b=>b<w.heap.size∨b=w1.heap.size+1+1) hSb (.inr rfl) (fun b hb=> .inl hb)) ?hE ?hps zEW.trans (zFZ hSb)
  (zQR w w1.heap.size (w1.heap.size+1) (zCG qs)) (zC4 w _ _ _ hB1.size) (zBk (zC4 w _ _ _ lr)) wO (fun _ _ _ _ _ _ _ _=>trivial) ⟨x0,x1,x3,hB1,by omega,hsz1⟩
  (fun xs=>{ tmps:=#[.slice A n c,undef,pO w.heap.size 0, .pointer (some ⟨w1.heap.size+1,0,none⟩),xs.getD 0 undef, .agg #[.bool false, .slice A1 n1 c1, .slice A2 n2 c2], .agg #[.bool false, .slice A1 n1 c1, .slice A2 n2 c2],pO w1.heap.size 0, .slice A n c, .func (.func 99) #[] #[.pointer (some ⟨w1.heap.size+1+1,0,none⟩)],xs.getD 0 undef,undef,undef,undef,undef,undef,undef,undef],defers:= [] }) ?assign ?body ?done
 case hE=>
  rintro k xs W l o o' ⟨B,rfl,h1,h2⟩ ho hc
  exact ⟨B,rfl,h1,h2.abide (C:=0) (grownBy_putObj' W l o') (fun r e=>by cases e;exact ⟨tS _,o,ho,hc⟩)⟩
 case hps=>
  rintro k xs W ⟨B,rfl,_⟩
  rfl
 case assign=>
  rintro lp k xs W K ⟨B,rfl,h1,h2⟩ hK
  gi_wp2
  exact hK
 case body=>
  rintro lp k xs W hk ⟨h1,h2,h3,h4,h5,h6⟩ ⟨B,rfl,hB,hnb⟩
  have hc2:=h2.cell
  have hne:B≠w1.heap.size:=by omega
  have hbd:=hp k (zVc hk)
  have hbd2:QB (qAt qs k) m:=by
   obtain ⟨_,_,_,_,_,q,_,_,_,_,e,hr⟩:=h.cells k hk
   rw [show qAt qs k=q from by simp [qAt,e]]
   exact hr.qb hm0
  have hTW:Tab W:=hT.below h4
  gi_wp2_with (gi_at_call 114;refine CallsIn.mono (callsIn_wide.2 (by
   obtain ⟨cs,g1,g2⟩:=h1
   obtain ⟨cs',g1',g2'⟩:=hnb
   exact zNF g1 g2 g1' g2' hne hbd hbd2 oO hTW)) ?_;rintro e w3 ⟨u,rfl,_,hg3,cs3,hh3,hc3,_⟩)
  refine ⟨(KeepsOthers.of_grownBy hg3 (fun j o e ho=>by cases e;obtain ⟨cs,g1,_⟩:=h1;rw [g1] at ho;cases ho;rfl)).from _,⟨(yU.refl _ _).grown hg3 (fun b hb=>⟨by have:=h4.size;rcases hb with hb|hb<;>omega,fun e=>by have:=zUZ e;omega⟩),hg3.size⟩,⟨cs3,hh3,hc3⟩,h2.kept hg3 (fun e=>by have:=zUZ e;omega),(hg3.block _ h3.lt (fun e=>by have:=zUZ e;omega)).trans h3,zAC h4 hg3 h4.size oO,tO h5 hg3.size,h6⟩
 case done=>
  rintro D W hD ⟨h1,h2,h3,h4,h5,h6⟩ _ hd
  obtain ⟨cs,hh,hq⟩:=h1
  obtain ⟨A3,n3,c3,A4,n4,c4,ecs⟩:=zB6 hq
  have ecs:=zU2 Array.toList (jG ecs)
  simp at ecs
  subst ecs
  obtain ⟨g0,g1,g2⟩:W.cell? ⟨w1.heap.size,0,none⟩=some (.bool (decide ((zCG qs n).num<0)))/\W.cell? ⟨w1.heap.size,0+1,none⟩=some (.slice A3 n3 c3)/\W.cell? ⟨w1.heap.size,0+2,none⟩=some (.slice A4 n4 c4):=⟨qL hh 0 _ rfl,qL hh 1 _ rfl,qL hh 2 _ rfl⟩
  simp only [Nat.zero_add] at g1 g2
  have hc2:=h2.cell
  have q0:W.cell? ⟨w.heap.size,0,none⟩=some (.bool false):=h3.cell 0
  have q1:W.cell? ⟨w.heap.size,1,none⟩=some (.slice none 0 0):=h3.cell 1
  have q2:W.cell? ⟨w.heap.size,2,none⟩=some (.slice none 0 0):=h3.cell 2
  have q3:=h3.frozen 0;have q4:=h3.frozen 1;have q5:=h3.frozen 2
  go_wp2
  have hb5:qV (((W.setCell ⟨w.heap.size,0,none⟩ (.bool (decide ((zCG qs n).num<0)))).setCell ⟨w.heap.size,1,none⟩ (.slice A3 n3 c3)).setCell ⟨w.heap.size,2,none⟩ (.slice A4 n4 c4)) w.heap.size 29 #[.bool (decide ((zCG qs n).num<0)), .slice A3 n3 c3, .slice A4 n4 c4]:=((h3.set 0 _).set 1 _).set 2 _
  have hM2:Marks w.heap.size (((W.setCell ⟨w.heap.size,0,none⟩ (.bool (decide ((zCG qs n).num<0)))).setCell ⟨w.heap.size,1,none⟩ (.slice A3 n3 c3)).setCell ⟨w.heap.size,2,none⟩ (.slice A4 n4 c4)) [mark D] [D]:=((Marks.nil w.heap.size W).more (D:=D) fL (by have:=hB1.size;omega) hd).others (((zU7 _ _ _).trans (zU7 _ _ _)).trans (zU7 _ _ _))
  have hrow: ∀(W':Wi) (i:Nat) (v u:Wj),W'.cell? ⟨w.heap.size,i,none⟩=some u->zU u=true->jH W' (W'.setCell ⟨w.heap.size,i,none⟩ v):=fun W' i v u hu hn p x hp=>(World.cell?_setCell_other _ _ _ _ (fun e=>by rw [<-e] at hp;rw [hu] at hp;cases hp;cases hn)).trans hp
  have hk3:jH W (((W.setCell ⟨w.heap.size,0,none⟩ (.bool (decide ((zCG qs n).num<0)))).setCell ⟨w.heap.size,1,none⟩ (.slice A3 n3 c3)).setCell ⟨w.heap.size,2,none⟩ (.slice A4 n4 c4)):=((hrow _ _ _ _ q0 rfl).trans (hrow _ _ _ _ ((h3.set 0 _).cell 1) rfl)).trans (hrow _ _ _ _ (((h3.set 0 _).set 1 _).cell 2) rfl)
  have hq3:=hq.keepU hk3
  have hb3:Below w.heap.size w (((W.setCell ⟨w.heap.size,0,none⟩ (.bool (decide ((zCG qs n).num<0)))).setCell ⟨w.heap.size,1,none⟩ (.slice A3 n3 c3)).setCell ⟨w.heap.size,2,none⟩ (.slice A4 n4 c4)):=((h4.setCell lr _).setCell lr _).setCell lr _
  generalize ((W.setCell ⟨w.heap.size,0,none⟩ (.bool (decide ((zCG qs n).num<0)))).setCell ⟨w.heap.size,1,none⟩ (.slice A3 n3 c3)).setCell ⟨w.heap.size,2,none⟩ (.slice A4 n4 c4)=W9 at*
  refine y9 _ (v:= .agg #[.bool (decide ((zCG qs n).num<0)), .slice A3 n3 c3, .slice A4 n4 c4]) (fun w' ho'=> ?_) [D] _ _ hM2 (Oth.refl _ _) ?_
  ·have h7:=hb5.oth ho'
   have:=zC6 (P:=prog) (w:=w') (t:=29) (k:=3) kH (vs:= [.bool (decide ((zCG qs n).num<0)), .slice A3 n3 c3, .slice A4 n4 c4]) rfl h7
   simp [results,results90,asAddr,this]
  ·intro w' ho
   exact ⟨_,rfl,hq3.keepU (fun p x hp=>(ho.cell p).trans hp),zAa hb3 ho lr⟩
def fQS (m:Nat) (qs:List Rat):SF:=⟨fun v W=> ∃A c,v= .slice A qs.length c/\qs.length<=c/\c<=9223372036854775807/\QRd m W A qs.length qs,fun _ _ _ ⟨A,c,h1,h2,h3,h4⟩ hb=>⟨A,c,h1,h2,h3,h4.below hb⟩⟩
theorem zOA (s s':Bool) (A A' D D':Wl Addr) (n n' c c' i i' j j':Nat):yI prog 54 2 [(0, .agg #[.bool s, .slice A n c, .slice D i j]),(1, .agg #[.bool s', .slice A' n' c', .slice D' i' j'])]=some (29,#[.bool s, .slice A n c, .slice D i j, .bool s', .slice A' n' c', .slice D' i' j']):=by kernel_rfl
theorem zCO {u v:Wj} {W:Wi} {m:Nat} {p q:Rat} (hu:RVp m p u W) (hv:RVp m q v W): ∃e cs,yI prog 54 2 [(0,u),(1,v)]=some (e,cs)/\(fQS m [p,q]).p (.slice (some ⟨W.heap.size,0,none⟩) 2 2) (W.alloc (.cells cs e)):=by
 obtain ⟨k,d,h1,h2⟩:=id hu
 obtain ⟨k',d',h1',h2'⟩:=id hv
 obtain ⟨s,A,n,c,D,i,j,rfl⟩:=zB5 h1
 obtain ⟨s',A',n',c',D',i',j',rfl⟩:=zB5 h1'
 refine ⟨_,_,zOA s s' A A' D D' n n' c c' i i' j j',some ⟨W.heap.size,0,none⟩,2,rfl,tU _,by decide,rfl,fun x hx=> ?_⟩
 have hb:=zCo W (.cells #[.bool s, .slice A n c, .slice D i j, .bool s', .slice A' n' c', .slice D' i' j'] 29)
 rcases (by simp at hx;omega:x=0∨x=1) with rfl|rfl
 ·exact ⟨_,0,_,_,_,p,rfl,zBt W _ _ 0 _ rfl,zBt W _ _ 1 _ rfl,zBt W _ _ 2 _ rfl,rfl,hu.below hb⟩
 ·exact ⟨_,0,_,_,_,q,rfl,zBt W _ _ 3 _ rfl,zBt W _ _ 4 _ rfl,zBt W _ _ 5 _ rfl,rfl,hv.below hb⟩
theorem zRm {W:Wi} {m:Nat} {v:Wj} {qs:List Rat} (M:Nat) (h:(fQS m qs).p v W) (hm0:0<m) (hM:M+m+1<=2000) (hp: ∀k,k<=qs.length->QB (zCX qs k) M) (hT:Tab W):Calls prog 45 #[v] W (Ret W (fQN (zCX qs qs.length)).tS):=by
 obtain ⟨A,c,rfl,h1,h2,h3⟩:=h
 exact zNh m M A qs.length c qs W h3 h1 h2 oO hm0 hM hp hT
theorem zPK {W:Wi} {m:Nat} {v:Wj} {qs:List Rat} (M:Nat) (h:(fQS m qs).p v W) (hm0:0<m) (hM:M+m+1<=2000) (hp: ∀k,k<=qs.length->QB (zCG qs k) M) (hT:Tab W):Calls prog 90 #[v] W (Ret W (fQN (zCG qs qs.length)).tS):=by
 obtain ⟨A,c,rfl,h1,h2,h3⟩:=h
 exact zNg m M A qs.length c qs W h3 h1 h2 oO hm0 hM hp hT
theorem QB.zero {m:Nat} (hm:0<m):QB 0 m:=⟨Nat.pow_pos y6,zDc hm⟩
theorem QB.one {m:Nat} (hm:0<m):QB 1 m:=⟨zDc hm,zDc hm⟩
theorem zP1 (p q:Rat):zCX [p,q] 2=p+q:=by
 show (0+p)+q=_
 rw [Rat.zero_add]
theorem zOL (p q:Rat):zCG [p,q] 2=p*q:=by
 show (1*p)*q=_
 rw [Rat.one_mul]
theorem zEB {W:Wi} {m:Nat} {v:Wj} {p q:Rat} (h:(fQS m [p,q]).p v W) (hp:QB p m) (hq:QB q m) (hm:3*m+2<=2000) (hT:Tab W):Calls prog 45 #[v] W (Ret W (fQN (p+q)).tS):=by
 have:=zRm (m+m+1) h hp.pos oO (fun k hk=>by
  rcases (by simp at hk;omega:k=0∨k=1∨k=2) with rfl|rfl|rfl
  ·exact QB.zero oO
  ·show QB (0+p) _
   rw [Rat.zero_add]
   exact hp.mono oO
  ·rw [zP1]
   exact hp.add hq) hT
 rw [show ([p,q]:List Rat).length=2 from rfl,zP1] at this
 exact this
theorem zKF {W:Wi} {m:Nat} {v:Wj} {p q:Rat} (h:(fQS m [p,q]).p v W) (hp:QB p m) (hq:QB q m) (hm:3*m+2<=2000) (hT:Tab W):Calls prog 90 #[v] W (Ret W (fQN (p*q)).tS):=by
 have:=zPK (m+m) h hp.pos oO (fun k hk=>by
  have:=hp.pos
  rcases (by simp at hk;omega:k=0∨k=1∨k=2) with rfl|rfl|rfl
  ·exact QB.one oO
  ·show QB (1*p) _
   rw [Rat.one_mul]
   exact hp.mono oO
  ·rw [zOL]
   exact hp.mul hq) hT
 rw [show ([p,q]:List Rat).length=2 from rfl,zOL] at this
 exact this
end Go.Proofs.Wd

namespace Go.Proofs.Wd
open Tryz
set_option maxRecDepth 100000
open Go.RowKit Lb
theorem zKL (p q:Rat):mkRat ((p).num*(if decide ((q).num<0) then -((q).den:Int) else ((q).den:Int))) ((p).den*(q).num.natAbs)=p / q:=by
 have hp:p=(p.num:Rat) / (p.den:Rat):=by
  have:=Rat.mkRat_self p
  rw [Rat.mkRat_eq_div] at this
  exact this.symm
 have hq:q⁻¹=mkRat (if decide (q.num<0) then -(q.den:Int) else (q.den:Int)) q.num.natAbs:=by
  rw [Rat.inv_def]
  by_cases h:q.num<0
  ·rw [zU4 h,if_pos rfl, <-Rat.divInt_ofNat, <-Rat.divInt_neg']
   congr 1
   omega
  ·rw [zU5 h,if_neg dA, <-Rat.divInt_ofNat]
   congr 1
   omega
 rw [Rat.div_def,hq]
 conv=>rhs;rw [<-Rat.mkRat_self p]
 rw [Rat.mkRat_mul_mkRat]
theorem zRo {W:Wi} {m:Nat} {v v':Wj} {k:Int} {d:Nat} (h:UV W m v k) (h':LV W m v' d) (hm:m<=2000) (hT:Tab W) (hz:decide (0<d)=false):Calls prog 94 #[v,v'] W (Ret W (zAB (fQN (mkRat k d)) (fI 30)).tS):=by
 refine yE [(fUV m k).tS,(fLV m d).tS] func94 rfl kH ⟨h,h',trivial⟩ fun a s=> ?_
 refine tJ ?_
 refine zB 0 [] hmix s kH
  zD fun a w1 s=> ?_
 refine yV (CU.agg (fUV m k)) rfl s kH (fun v W h=>zIr h) fun b2 a w s=> ?_
 refine zW (CU.len 3) (cs:=zR3) kH rfl s kH (fun W=>rfl) rfl fun b4 a w s=> ?_
 refine y8 (uI 0) rfl s kH iiz fun a w s=> ?_
 refine zA rfl ?_
 refine tJ ?_
 refine zB 4 ((7, .Z (fUV m k))::(8, .Z (fLV m d))::(9, .Z (fQV m k d))::(10, .u (fQV m k d)):: []) hmix s kH
  (oc (zJ (f:=fUV m k) 2 kH (hz:=zIq _ _))<|oc zC<|oc (yR (fun u v W (hu:UV W m u k) (hv:LV W m v d)=>zPa hu hv))<|oc (zCd (fun u W (hu:QVp m k d u W)=>zMo hu))<|zD) fun a w2 s=> ?_
 refine yV (CU.agg (fQV m k d)) rfl s kH (fun v W h=>zEE h) fun b11 a w s=> ?_
 refine zPw rfl s kH fun a w s=> ?_
 refine zA rfl ?_
 refine tJ ?_
 refine tJ ?_
 refine zB 1 ((12, .u (UF.eq (pO b11 0))):: []) hmix s kH
  (oc (zC (fun _ _ _ h=>h.1))<|zD) fun a w3 s=> ?_
 refine zC3 (c:=6) (CU.agg (fQN (mkRat k d))) (fB false) rfl zE zHc s kH rfl rfl iiz (fun cs h1 h2=> ?_) fun a w s=> ?_
 ·exact (zB4 h1 h2 hm (hT.below s.gr.below)).mono fun e w' ⟨v,g1,g3,g2⟩=>⟨v,g1,by rw [show v=_ from g3,hz];rfl,g2⟩
 refine zCt (uB true) rfl s kH (zAr false iiz (fun _=>rfl)) kH fun a w s=> ?_
 refine zA rfl ?_
 refine StS.cond s true iiz (fun e=> ?_) (fun e=>by cases e)
 refine tJ ?_
 replace s:=s.drop [5]
 refine zB 4 ((15, .s (wD b11 (cg (fQN (mkRat k d)))))::(16, .Y (fQN (mkRat k d)))::(17, .X (fQN (mkRat k d)) 0)::(18, .u (fQN (mkRat k d))):: []) hmix s kH
  (oc zC<|oc (qK (C:=cg (fQN (mkRat k d))))<|oc (zR (C:=cg (fQN (mkRat k d))) 0 kH)<|oc (yG (C:=cg (fQN (mkRat k d))) (k:=0) 3 kH (h:=zFL))<|zD) fun a w4 s=> ?_
 refine zN (CU.agg (fQN (mkRat k d))) ((fQN (mkRat k d)).tS) rfl s kH rfl rfl rfl iiz iiz zY fun a w s=> ?_
 refine y8 (uI 30) rfl s kH iiz fun a w s=> ?_
 refine zA rfl ?_
 refine tK ?_
 exact wR s (CU.agg (fQN (mkRat k d))) rfl kH rfl rfl (y5 _) (fun cs v W h1 h2=>⟨_,_,rfl,h1,h2⟩)
theorem zRq {W:Wi} {m:Nat} {v v':Wj} {k:Int} {d:Nat} (h:UV W m v k) (h':LV W m v' d) (hm:m<=2000) (hT:Tab W) (hz:decide (0<d)=true):Calls prog 94 #[v,v'] W (Ret W (zAB (fQN (mkRat k d)) (fI 0)).tS):=by
 refine yE [(fUV m k).tS,(fLV m d).tS] func94 rfl kH ⟨h,h',trivial⟩ fun a s=> ?_
 refine tJ ?_
 refine zB 0 [] hmix s kH
  zD fun a w1 s=> ?_
 refine yV (CU.agg (fUV m k)) rfl s kH (fun v W h=>zIr h) fun b2 a w s=> ?_
 refine zW (CU.len 3) (cs:=zR3) kH rfl s kH (fun W=>rfl) rfl fun b4 a w s=> ?_
 refine y8 (uI 0) rfl s kH iiz fun a w s=> ?_
 refine zA rfl ?_
 refine tJ ?_
 refine zB 4 ((7, .Z (fUV m k))::(8, .Z (fLV m d))::(9, .Z (fQV m k d))::(10, .u (fQV m k d)):: []) hmix s kH
  (oc (zJ (f:=fUV m k) 2 kH (hz:=zIq _ _))<|oc zC<|oc (yR (fun u v W (hu:UV W m u k) (hv:LV W m v d)=>zPa hu hv))<|oc (zCd (fun u W (hu:QVp m k d u W)=>zMo hu))<|zD) fun a w2 s=> ?_
 refine yV (CU.agg (fQV m k d)) rfl s kH (fun v W h=>zEE h) fun b11 a w s=> ?_
 refine zPw rfl s kH fun a w s=> ?_
 refine zA rfl ?_
 refine tJ ?_
 refine tJ ?_
 refine zB 1 ((12, .u (UF.eq (pO b11 0))):: []) hmix s kH
  (oc (zC (fun _ _ _ h=>h.1))<|zD) fun a w3 s=> ?_
 refine zC3 (c:=6) (CU.agg (fQN (mkRat k d))) (fB true) rfl zE zHc s kH rfl rfl iiz (fun cs h1 h2=> ?_) fun a w s=> ?_
 ·exact (zB4 h1 h2 hm (hT.below s.gr.below)).mono fun e w' ⟨v,g1,g3,g2⟩=>⟨v,g1,by rw [show v=_ from g3,hz];rfl,g2⟩
 refine zCt (uB false) rfl s kH (zAr true iiz (fun _=>rfl)) kH fun a w s=> ?_
 refine zA rfl ?_
 refine StS.cond s false iiz (fun e=>by cases e) (fun e=> ?_)
 refine tM ?_
 refine tJ ?_
 replace s:=s.drop [5]
 refine zB 4 ((19, .s (wD b11 (cg (fQN (mkRat k d)))))::(20, .Y (fQN (mkRat k d)))::(21, .X (fQN (mkRat k d)) 0)::(22, .u (fQN (mkRat k d))):: []) hmix s kH
  (oc zC<|oc (qK (C:=cg (fQN (mkRat k d))))<|oc (zR (C:=cg (fQN (mkRat k d))) 0 kH)<|oc (yG (C:=cg (fQN (mkRat k d))) (k:=0) 3 kH (h:=zFL))<|zD) fun a w4 s=> ?_
 refine zN (CU.agg (fQN (mkRat k d))) ((fQN (mkRat k d)).tS) rfl s kH rfl rfl rfl iiz iiz zY fun a w s=> ?_
 refine y8 (uI 0) rfl s kH iiz fun a w s=> ?_
 refine zA rfl ?_
 refine tK ?_
 exact wR s (CU.agg (fQN (mkRat k d))) rfl kH rfl rfl (y5 _) (fun cs v W h1 h2=>⟨_,_,rfl,h1,h2⟩)
theorem zRp {W:Wi} {m:Nat} {v v':Wj} {k:Int} {d:Nat} (h:UV W m v k) (h':LV W m v' d) (hm:m<=2000) (hT:Tab W):Calls prog 94 #[v,v'] W (Ret W (zAB (fQN (mkRat k d)) (fI (if d=0 then 30 else 0))).tS):=by
 by_cases hd:d=0
 ·rw [if_pos hd]
  exact zRo h h' hm hT (zU5 oO)
 ·rw [if_neg hd]
  exact zRq h h' hm hT (zU4 oO)
theorem zE9 {W:Wi} {m:Nat} {v v':Wj} {q q':Rat} (h:RVp m q v W) (h':RVp m q' v' W) (hm:m<=650) (hm0:0<m) (hT:Tab W):Calls prog 63 #[v,v'] W (Ret W (fQN (q - q')).tS):=by
 have hq:QB q m:=h.qb hm0
 have hq':QB q' m:=h'.qb hm0
 refine yE [(fRV m q).tS,(fRV m q').tS] func63 rfl kH ⟨h,h',trivial⟩ fun a s=> ?_
 refine tJ ?_
 refine zB 0 [] hmix s kH
  zD fun a w1 s=> ?_
 refine yV (CU.agg (fRV m q)) rfl s kH (fun v W h=>zAu h) fun b2 a w s=> ?_
 refine yV (CU.agg (fRV m q')) rfl s kH (fun v W h=>zAu h) fun b3 a w s=> ?_
 refine zW (CU.len 3) (cs:=zR3) kH rfl s kH (fun W=>rfl) rfl fun b4 a w s=> ?_
 refine zA rfl ?_
 refine tJ ?_
 refine yT [] 5 ((5, .Z (fRV m q))::(6, .Z (fRV m q'))::(7, .Z (fQN (-q')))::(8, .s (fQS m [q,(-q')]))::(9, .u (fQN (q+ -q'))):: []) hmix s kH
  (oc (zJ (f:=fRV m q) 3 kH (hz:=yQ _ _))<|oc (zJ (f:=fRV m q') 3 kH (hz:=yQ _ _))<|oc (zH zE zQC (fun u0 W hb (h0:RVp m q' u0 W)=>zKM h0 oO hm0 (hT.below (s.up hb))))<|oc (yM (fun u v W (hu:RVp m q u W) (hv:QNp (-q') v W)=>zCO hu (wG hv hq'.neg)))<|oc (zH zE zN1 (fun u0 W hb (h0:(fQS m [q,(-q')]).p u0 W)=>zEB h0 hq hq'.neg oO (hT.below (s.up hb))))<|zD) fun Q' hQ a w2 s=> ?_
 refine zN (CU.agg (fQN (q+ -q'))) ((fQN (q+ -q')).tS) rfl s kH rfl rfl rfl iiz iiz zY fun a w s=> ?_
 refine zA rfl (hQ _ _ ?_)
 refine tK ?_
 exact wJ s (CU.agg (fQN (q+ -q'))) rfl kH rfl rfl (y5 _) (fun cs W h=>by rw [Rat.sub_eq_add_neg];exact h)
theorem zRn {W:Wi} {m:Nat} {v v':Wj} {q q':Rat} (h:RVp m q v W) (h':RVp m q' v' W) (hm:m<=650) (hm0:0<m) (hT:Tab W):Calls prog 70 #[v,v'] W (Ret W (zAB (fQN (q / q')) (fI (if q'=0 then 30 else 0))).tS):=by
 have hq:QB q m:=h.qb hm0
 have hq':QB q' m:=h'.qb hm0
 have bk2:Bd (if decide ((q').num<0) then -((q').den:Int) else ((q').den:Int)) m:=by split;exact (zAb hq'.2).neg;exact zAb hq'.2
 have hval:mkRat ((q).num*(if decide ((q').num<0) then -((q').den:Int) else ((q').den:Int))) ((q).den*(q').num.natAbs)=q / q':=zKL q q'
 have herr:((q).den*(q').num.natAbs=0)=(q'=0):=by rw [Nat.mul_eq_zero,Int.natAbs_eq_zero,Rat.num_eq_zero];have:=q.den_pos;simp;omega
 have hnew: ∀W u0 u1,Tab W->NV W u0 ((q).num*(if decide ((q').num<0) then -((q').den:Int) else ((q').den:Int)))->qM W u1 ((q).den*(q').num.natAbs)->Calls prog 94 #[u0,u1] W (Ret W (zAB (fQN (q / q')) (fI (if q'=0 then 30 else 0))).tS):=fun W u0 u1 hT h0 h1=>by
  have:=zRp (m:=m+m) (h0.uv' (Bd.mul hq.1 bk2)) (h1.lv (zDE hq.2 hq'.1)) oO hT
  simp only [hval,herr] at this
  exact this
 refine yE [(fRV m q).tS,(fRV m q').tS] func70 rfl kH ⟨h,h',trivial⟩ fun a s=> ?_
 refine tJ ?_
 refine zB 0 [] hmix s kH
  zD fun a w1 s=> ?_
 refine yV (CU.agg (fRV m q)) rfl s kH (fun v W h=>zAu h) fun b2 a w s=> ?_
 refine yV (CU.agg (fRV m q')) rfl s kH (fun v W h=>zAu h) fun b3 a w s=> ?_
 refine zW (CU.len 3) (cs:=zR3) kH rfl s kH (fun W=>rfl) rfl fun b4 a w s=> ?_
 refine y8 (uI 0) rfl s kH iiz fun a w s=> ?_
 refine zA rfl ?_
 refine tJ ?_
 have so:=s.old;have sg:=s.gr
 refine jT 6 ((8, .Z (fRV m q))::(9, .s (wF w 103 (CU.agg (fQN q))))::(10, .Z (fRV m q'))::(11, .s (wF w 103 (CU.agg (fQN q'))))::(6, .s (wF w 103 (CU.agg (fQN q))))::(7, .s (wF w 103 (CU.agg (fQN q')))):: []) hmix s kH
  (oc (zJ (f:=fRV m q) 3 kH (hz:=yQ _ _))<|oc (zH zE zJO (fun u0 W hb (h0:RVp m q u0 W)=>(zHH h0 oO (hT.below (s.up hb))).mono (wI (zBl hb.size))))<|oc (zJ (f:=fRV m q') 3 kH (hz:=yQ _ _))<|oc (zH zE zJO (fun u0 W hb (h0:RVp m q' u0 W)=>(zHH h0 oO (hT.below (s.up hb))).mono (wI (zBl hb.size))))<|oc zG<|oc zG<|zD) fun a w2 s hr=> ?_
 obtain ⟨b6,_,s⟩:=s.adopt true 6 (hr (_,_) mz4) sg (fun y hy=> .inl (so y hy))
 obtain ⟨b7,_,s⟩:=s.adopt true 7 (hr (_,_) mz5) sg (fun y hy=>by rcases tV.1 hy with rfl|hy;exact .inr ⟨rfl,rfl⟩;exact .inl (so y hy))
 refine zA rfl ?_
 refine tJ ?_
 replace s:=s.drop [5]
 refine yT [0,5,11,19,24] 34 ((12, .s (wD b6 (cg (fQN q))))::(13, .Y (fQN q))::(14, .X (fQN q) 0)::(15, .X (fQN q) 0)::(16, .Z (fNV ((q).num)))::(17, .s (wD b7 (cg (fQN q'))))::(18, .Y (fQN q'))::(19, .X (fQN q') 0)::(20, .X (fQN q') 0)::(21, .X (fQN q') 0)::(22, .Z (uB (decide ((q').num<0))))::(23, .s (wD b7 (cg (fQN q'))))::(24, .Y (fQN q'))::(25, .X (fQN q') 0)::(26, .X (fQN q') 2)::(27, .Z (qW ((q').den)))::(28, .Z (fUV m (if decide ((q').num<0) then -((q').den:Int) else ((q').den:Int))))::(29, .s (zJK (m+m) [(q).num,(if decide ((q').num<0) then -((q').den:Int) else ((q').den:Int))]))::(30, .Z (fNV ((q).num*(if decide ((q').num<0) then -((q').den:Int) else ((q').den:Int)))))::(31, .s (wD b6 (cg (fQN q))))::(32, .Y (fQN q))::(33, .X (fQN q) 0)::(34, .X (fQN q) 2)::(35, .Z (qW ((q).den)))::(36, .s (wD b7 (cg (fQN q'))))::(37, .Y (fQN q'))::(38, .X (fQN q') 0)::(39, .X (fQN q') 0)::(40, .X (fQN q') 1)::(41, .Z (qW ((q').num.natAbs)))::(42, .Z (qW ((q).den*(q').num.natAbs)))::(43, .Z (zAB (fQN (q / q')) (uI (if q'=0 then 30 else 0))))::(44, .u (fQN (q / q')))::(45, .u (uI (if q'=0 then 30 else 0))):: []) hmix s kH
  (oc zC<|oc (qK (C:=cg (fQN q)))<|oc (zR (C:=cg (fQN q)) 0 kH)<|oc (yP (C:=cg (fQN q)) 0 0 kH)<|oc (yG (C:=cg (fQN q)) (k:=0) 2 kH (h:=zBr))<|oc zC<|oc (qK (C:=cg (fQN q')))<|oc (zR (C:=cg (fQN q')) 0 kH)<|oc (yP (C:=cg (fQN q')) 0 0 kH)<|oc (yP (C:=cg (fQN q')) 0 0 kH)<|oc (jP (C:=cg (fQN q')) (k:=0) kH (h:=zOM))<|oc zC<|oc (qK (C:=cg (fQN q')))<|oc (zR (C:=cg (fQN q')) 0 kH)<|oc (yP (C:=cg (fQN q')) 0 2 kH)<|oc (jP (C:=cg (fQN q')) (k:=2) kH (h:=zAV))<|oc (yR (fun u v W (hu:u= .bool (decide ((q').num<0))) (hv:qM W v ((q').den))=>zOe hu hv hq'.2))<|oc (yM (fun u v W (hu:NV W u ((q).num)) (hv:UV W m v (if decide ((q').num<0) then -((q').den:Int) else ((q').den:Int)))=>zAY (NV.uv' hu (Bd.mono (hq).1 (m':=(m+m)) (by first|omega|decide))) (UV.mono hv (m':=(m+m)) (by first|omega|decide))))<|oc (zH zE zJN (fun u0 W hb (h0:ISV W (m+m) u0 [(q).num,(if decide ((q').num<0) then -((q').den:Int) else ((q').den:Int))])=>zJE (k:=((q).num*(if decide ((q').num<0) then -((q').den:Int) else ((q').den:Int)))) h0 (by show (m+m)*2+(m+m)+1<=40000;omega) fL fL))<|oc zC<|oc (qK (C:=cg (fQN q)))<|oc (zR (C:=cg (fQN q)) 0 kH)<|oc (yP (C:=cg (fQN q)) 0 2 kH)<|oc (jP (C:=cg (fQN q)) (k:=2) kH (h:=zAV))<|oc zC<|oc (qK (C:=cg (fQN q')))<|oc (zR (C:=cg (fQN q')) 0 kH)<|oc (yP (C:=cg (fQN q')) 0 0 kH)<|oc (yP (C:=cg (fQN q')) 0 1 kH)<|oc (jP (C:=cg (fQN q')) (k:=1) kH (h:=zOO))<|oc (zL zE zQA (fun u0 u1 W hb (h0:qM W u0 ((q).den)) (h1:qM W u1 ((q').num.natAbs))=>zQf (LV.mono (qM.lv h0 hq.2) (m':=m) oO) (qM.lv h1 hq'.1) oO))<|oc (zL zE zTg (fun u0 u1 W hb (h0:NV W u0 ((q).num*(if decide ((q').num<0) then -((q').den:Int) else ((q').den:Int)))) (h1:qM W u1 ((q).den*(q').num.natAbs))=>hnew W u0 u1 (hT.below (s.up hb)) h0 h1))<|oc (zA3 (A:=(fQN (q / q')).tS) (B:=(uI (if q'=0 then 30 else 0)).tS) iiz)<|oc (zA2 (A:=(fQN (q / q')).tS) (B:=(uI (if q'=0 then 30 else 0)).tS) iiz)<|zD) fun Q' hQ a w3 s=> ?_
 refine zN (CU.agg (fQN (q / q'))) ((fQN (q / q')).tS) rfl s kH rfl rfl rfl iiz iiz zY fun a w s=> ?_
 refine y8 (uI (if q'=0 then 30 else 0)) rfl s kH iiz fun a w s=> ?_
 refine zA rfl (hQ _ _ ?_)
 refine tK ?_
 exact wR s (CU.agg (fQN (q / q'))) rfl kH rfl rfl (y5 _) (fun cs v W h1 h2=>⟨_,_,rfl,h1,h2⟩)
def UVx (n:Nat) (k:Int) (v:Wj) (w:Wi):Prop:= ∃s A c l,v= .agg #[.bool s, .slice A n c]/\Rd w A n c l/\Lt l/\iv s l=k
def LVx (n x:Nat) (v:Wj) (w:Wi):Prop:= ∃A c l,v= .slice A n c/\Rd w A n c l/\Lt l/\val l=x
def QXp (n n':Nat) (k:Int) (d:Nat) (v:Wj) (w:Wi):Prop:= ∃b s t,v= .agg #[b,s,t]/\UVx n k (.agg #[b,s]) w/\LVx n' d t w
def fQX (n n':Nat) (k:Int) (d:Nat):UF:= .mk' (QXp n n' k d) fun _ _ _ ⟨b,s,t,e,⟨sg,A,c,l,e1,h1,h2⟩,A',c',l',e2,h1',h2'⟩ u=>⟨b,s,t,e,⟨sg,A,c,l,e1,h1.keepU u,h2⟩,A',c',l',e2,h1'.keepU u,h2'⟩
theorem zSY {n n' m:Nat} {k:Int} {d:Nat} {v:Wj} {W:Wi} (h:QXp n n' k d v W) (h1:n<=m) (h2:n'<=m):QVp m k d v W:=by
 obtain ⟨b,s,t,e,⟨sg,A,c,l,e1,g1,g2,g3⟩,A',c',l',e2,g1',g2',g3'⟩:=h
 exact ⟨b,s,t,e,⟨sg,A,n,c,l,e1,g1,g2,h1,g3⟩,A',n',c',l',e2,g1',g2',h2,g3'⟩
theorem zOH {n n':Nat} {k:Int} {d:Nat} (cs:List Wj) (W:Wi) (h:(CU.agg (fQX n n' k d)).p cs W): ∃u,cs[1]?=some u/\ ∃A c,u= .slice A n c:=by
 obtain ⟨b,s,t,e,⟨sg,A,c,l,e1,_⟩,_⟩:=h
 rw [zAI e]
 have:=zU2 Array.toList (jG e1)
 simp at this
 exact ⟨s,rfl,A,c,this.2⟩
theorem zOG {n n':Nat} {k:Int} {d:Nat} (cs:List Wj) (W:Wi) (h:(CU.agg (fQX n n' k d)).p cs W): ∃u,cs[2]?=some u/\ ∃A c,u= .slice A n' c:=by
 obtain ⟨b,s,t,e,_,A,c,l,e1,_⟩:=h
 rw [zAI e]
 exact ⟨t,rfl,A,c,e1⟩
def fSl (n:Nat):UF:= .mk' (fun v _=> ∃A c,v= .slice A n c) fun _ _ _ h _=>h
structure QX where
 n:Nat
 n':Nat
 k:Int
 d:Nat
abbrev QX.cu (x:QX):CU:=CU.agg (fQX x.n x.n' x.k x.d)
def zSZ (L:List QX) (k:Nat):Nat:=((L.take k).map fun x=>min (x.n+x.n') 1000).sum
def gq (L:List QX):Bool:=decide (((L.map QX.cu).length:Int)>60)||decide (((zSZ L (min (L.map QX.cu).length 61):Nat):Int)>40)
theorem wrap64 (u:Int) (r:Nat) (h:u=r) (hr:r<9223372036854775808):IntKind.i64.wrap u=r:=by
 subst h
 rw [IntKind.wrap_i64]
 omega
end Go.Proofs.Wd

namespace Go.Proofs.Wd
open Tryz
set_option maxRecDepth 100000
set_option maxHeartbeats 1000000
open Go.RowKit Lb
def T2 (m:Nat) (op:Rat->Rat->Rat) (xs:Array Wj) (W:Wi) (R:SF):Prop:= ∃u v p q,xs=#[u,v]/\RVp m p u W/\RVp m q v W/\Tab W/\R=(fQN (op p q)).tS
def T3 (m:Nat) (op:Rat->Rat->Rat) (xs:Array Wj) (W:Wi) (R:SF):Prop:= ∃u v, ∃p q:V2,xs=#[u,v]/\(fPV m p).p u W/\(fPV m q).p v W/\Tab W/\R=(fPN (op p.1 q.1,op p.2 q.2)).tS
def G1 (g:FuncId) (m:Nat) (op:Rat->Rat->Rat):Prop:= ∀(W:Wi) (s:Wj) (p q:Rat),(fQS m [p,q]).p s W->QB p m->QB q m->Tab W->Calls prog g #[s] W (Ret W (fQN (op p q)).tS)
theorem zCJ {u:Wj}: ∀cs W,(wC [u]).p cs W-> ∃x,cs[0]?=some x/\(UF.eq u).p x W:=fun cs W h=>by
 obtain rfl:cs= [u]:=h
 exact ⟨u,rfl,rfl⟩
theorem zLO {u v:Wj} {W:Wi} (h:v=u) (hu:u.cells=#[u]) (hn:zU u=true:=by rfl):(wC [u]).p v.cells.toList W/\v.cells.toList.all zU=true:=by
 subst h
 rw [hu]
 exact ⟨rfl,by simp [hn]⟩
section
variable {F:Fence} {m:Nat} {P:Wn} {w0:Wi} {ops:Array Oper} {G:Nat->SF} {d:Tmp} {ty:Wk} {pos:String} {aft:Array Edge}
theorem zNE {y:Wm} {g:FuncId} {xs:Array Wm} {ats:Array Wk} (hF:zGo F m P) (he:Enters P g) (hy: ∀v W,(fct G y).p v W->v= .func (.func g) #[] #[])
  (h: ∀(b:Act) (W:Wi),Below w0.heap.size w0 W->(∀x,x∈xs.toList->(fct G x).p (b.eval x) W)->Calls P g (xs.map b.eval) W (Ret W (G d))):
  qG F m P w0 ops G ⟨some d, .call ⟨.value y,xs,ats⟩,ty,pos,aft,none⟩:=
 zLi (fun args W R=>Calls P g args W (Ret W R)) hF (fun v W hv=>by rw [hy v W hv];exact ⟨g,#[],rfl,he,fun W' _ args R h=>by simpa using h⟩) h
theorem zLl {y x:Wm} {g:FuncId} {ats:Array Wk} (hF:zGo F m P) (he:Enters P g) (hy: ∀v W,(fct G y).p v W->v= .func (.func g) #[] #[]) (h: ∀u W,Below w0.heap.size w0 W->(fct G x).p u W->Calls P g #[u] W (Ret W (G d))):qG F m P w0 ops G ⟨some d, .call ⟨.value y,#[x],ats⟩,ty,pos,aft,none⟩:=
 zNE hF he hy fun b W hb hh=>by simpa using h _ W hb (hh x fL)
end
theorem zRQ {m:Nat} (hm:m<=650):G1 45 m (·+·):=fun _ _ _ _ h hp hq hT=>zEB h hp hq oO hT
theorem zRR {m:Nat} (hm:m<=650) (hm0:0<m) (W:Wi):(SF.fn prog (T2 m (· - ·))).p (.func (.func 63) #[] #[]) W:=
 zFj (enters_of func63 kH rfl) fun W' _ args R ⟨u,v,p,q,e,h1,h2,hT,hR⟩=>by
  subst e hR
  simpa using zE9 h1 h2 hm hm0 hT
theorem zQ4 {g:FuncId} {m:Nat} {op:Rat->Rat->Rat} (eg:Enters prog g) (hg:G1 g m op) (hm0:0<m) {W:Wi} {u v b:Wj} {p q:Rat} (h1:RVp m p u W) (h2:RVp m q v W) (hb:(wB (wC [.func (.func g) #[] #[]]).cf).p b W) (hT:Tab W):Calls prog 144 #[u,v,b] W (Ret W (fQN (op p q)).tS):=by
 have hp:=h1.qb hm0
 have hq:=h2.qb hm0
 refine yE [(fRV m p).tS,(fRV m q).tS,wB (wC [.func (.func g) #[] #[]]).cf] func144 rfl kH ⟨h1,h2,hb,trivial⟩ fun a s=> ?_
 refine tJ ?_
 refine zB 0 [] hmix s kH
  zD fun a w1 s=> ?_
 refine yV (CU.agg (fRV m p)) rfl s kH (fun v W h=>zAu h) fun b3 a w s=> ?_
 refine yV (CU.agg (fRV m q)) rfl s kH (fun v W h=>zAu h) fun b4 a w s=> ?_
 refine zW (CU.len 3) (cs:=zR3) kH rfl s kH (fun W=>rfl) rfl fun b5 a w s=> ?_
 refine zA rfl ?_
 refine tJ ?_
 refine zB 5 ((6, .Z (UF.eq (.func (.func g) #[] #[])))::(7, .Z (fRV m p))::(8, .Z (fRV m q))::(9, .s (fQS m [p,q]))::(10, .u (fQN (op p q))):: []) hmix s kH
  (oc (qS (C:=(wC [.func (.func g) #[] #[]]).cf) kH iiz zCJ)<|oc (zJ (f:=fRV m p) 3 kH (hz:=yQ _ _))<|oc (zJ (f:=fRV m q) 3 kH (hz:=yQ _ _))<|oc (yM (fun u v W (hu:RVp m p u W) (hv:RVp m q v W)=>zCO hu hv))<|oc (zLl zE eg iiz (fun u W hb (h:(fQS m [p,q]).p u W)=>hg W u p q h hp hq (hT.below (s.up hb))))<|zD) fun a w2 s=> ?_
 refine zN (CU.agg (fQN (op p q))) ((fQN (op p q)).tS) rfl s kH rfl rfl rfl iiz iiz zY fun a w s=> ?_
 refine zA rfl ?_
 refine tK ?_
 exact wJ s (CU.agg (fQN (op p q))) rfl kH rfl rfl (y5 _) (fun cs W h=>h)
theorem zSK {g:FuncId} {m:Nat} {op:Rat->Rat->Rat} (eg:Enters prog g) (hg:G1 g m op) (hm0:0<m) {W:Wi} {u:Wj} (h:u= .func (.func g) #[] #[]):Calls prog 131 #[u] W (Ret W (SF.fn prog (T2 m op))):=by
 refine yE [(UF.eq (.func (.func g) #[] #[])).tS] func131 rfl kH ⟨h,trivial⟩ fun a s=> ?_
 refine tJ ?_
 refine zB 0 [] hmix s kH
  zD fun a w1 s=> ?_
 refine yV (wC [.func (.func g) #[] #[]]) rfl s kH (fun v W h=>zLO h (by rfl)) fun b1 a w s=> ?_
 refine y8 (UF.eq (.nilFunc)) rfl s kH iiz fun a w s=> ?_
 refine zA rfl ?_
 refine tJ ?_
 replace s:=s.drop [2]
 refine jT 2 ((3, .s (SF.fn prog (T2 m op)))::(2, .s (SF.fn prog (T2 m op))):: []) hmix s kH
  (oc (zDe (fun u W hb (h:(wD b1 (wC [.func (.func g) #[] #[]]).cf).p u W)=>zFj (enters_of func144 kH rfl) (fun W' hb' args R ⟨u1,v1,p,q,e,h1,h2,hT,hR⟩=>by subst e hR;simpa using zQ4 eg hg hm0 h1 h2 ((wB (wC [.func (.func g) #[] #[]]).cf).st _ _ _ h.2 hb') hT)))<|oc zG<|zD) fun a w2 s hr=> ?_
 refine zA rfl ?_
 refine tK ?_
 exact StS.resN s (tR _ _) rfl (hr (_,_) mz1)
theorem zOR {F:Fence} {m:Nat} {P:Wn} {w0:Wi} {ops:Array Oper} {G:Nat->SF} {d:Tmp} {ty:Wk} {pos:String} {aft:Array Edge} {y x x':Wm} {ats:Array Wk} (T:Array Wj->Wi->SF->Prop) (hF:zGo F m P) (hy: ∀v W,Below w0.heap.size w0 W->(fct G y).p v W->(SF.fn P T).p v W) (h: ∀u v W,Below w0.heap.size w0 W->(fct G x).p u W->(fct G x').p v W->T #[u,v] W (G d)):qG F m P w0 ops G ⟨some d, .call ⟨.value y,#[x,x'],ats⟩,ty,pos,aft,none⟩:=
 zLh T hF hy fun b W hb hh=>by simpa using h _ _ W hb (hh x fL) (hh x' fL)
theorem zNx {m:Nat} {op:Rat->Rat->Rat} {W:Wi} {u v b f:Wj} {p q:V2} (h1:(fPV m p).p u W) (h2:(fPV m q).p v W) (hb:(wB (wC [f]).cf).p b W) (hf:(SF.fn prog (T2 m op)).p f W) (hT:Tab W):Calls prog 89 #[u,v,b] W (Ret W (fPN (op p.1 q.1,op p.2 q.2)).tS):=by
 refine yE [(fPV m p).tS,(fPV m q).tS,wB (wC [f]).cf] func89 rfl kH ⟨h1,h2,hb,trivial⟩ fun a s=> ?_
 refine tJ ?_
 refine zB 0 [] hmix s kH
  zD fun a w1 s=> ?_
 refine yV (CU.agg (fPV m p)) rfl s kH (fun v W h=>q8 h) fun b3 a w s=> ?_
 refine yV (CU.agg (fPV m q)) rfl s kH (fun v W h=>q8 h) fun b4 a w s=> ?_
 refine zW (CU.len 6) (cs:=zP6) kH rfl s kH (fun W=>rfl) rfl fun b5 a w s=> ?_
 refine zA rfl ?_
 refine tJ ?_
 refine yT [] 13 ((6, .Z (UF.eq f))::(7, .X (fPV m p) 0)::(8, .Z (fRV m ((p).1)))::(9, .X (fPV m q) 0)::(10, .Z (fRV m ((q).1)))::(11, .Z (fQN (op (p).1 (q).1)))::(12, .Z (UF.eq f))::(13, .X (fPV m p) 3)::(14, .Z (fRV m ((p).2)))::(15, .X (fPV m q) 3)::(16, .Z (fRV m ((q).2)))::(17, .Z (fQN (op (p).2 (q).2)))::(18, .u (fPN (op p.1 q.1,op p.2 q.2))):: []) hmix s kH
  (oc (qS (C:=(wC [f]).cf) kH iiz zCJ)<|oc (zR (C:=cg (fPV m p)) 0 kH)<|oc (yG (C:=cg (fPV m p)) (k:=0) 3 kH (h:=zHq))<|oc (zR (C:=cg (fPV m q)) 0 kH)<|oc (yG (C:=cg (fPV m q)) (k:=0) 3 kH (h:=zHq))<|oc (zOR (T2 m op) zE (fun v W hb h=>by rw [show v=f from h];exact (SF.fn prog (T2 m op)).st _ _ _ hf (s.up hb)) (fun u v W hb (h1:RVp m ((p).1) u W) (h2:RVp m ((q).1) v W)=>⟨u,v,_,_,rfl,h1,h2,hT.below (s.up hb),rfl⟩))<|oc (qS (C:=(wC [f]).cf) kH iiz zCJ)<|oc (zR (C:=cg (fPV m p)) 3 kH)<|oc (yG (C:=cg (fPV m p)) (k:=3) 3 kH (h:=zHp))<|oc (zR (C:=cg (fPV m q)) 3 kH)<|oc (yG (C:=cg (fPV m q)) (k:=3) 3 kH (h:=zHp))<|oc (zOR (T2 m op) zE (fun v W hb h=>by rw [show v=f from h];exact (SF.fn prog (T2 m op)).st _ _ _ hf (s.up hb)) (fun u v W hb (h1:RVp m ((p).2) u W) (h2:RVp m ((q).2) v W)=>⟨u,v,_,_,rfl,h1,h2,hT.below (s.up hb),rfl⟩))<|oc (yR (fun u v W (hu:QNp (op (p).1 (q).1) u W) (hv:QNp (op (p).2 (q).2) v W)=>zTU (zA7 _) (zA7 _) hu hv))<|zD) fun Q' hQ a w2 s=> ?_
 refine zN (CU.agg (fPN (op p.1 q.1,op p.2 q.2))) ((fPN (op p.1 q.1,op p.2 q.2)).tS) rfl s kH rfl rfl rfl iiz iiz qZ fun a w s=> ?_
 refine zA rfl (hQ _ _ ?_)
 refine tK ?_
 exact wJ s (CU.agg (fPN (op p.1 q.1,op p.2 q.2))) rfl kH rfl rfl (z4 _ _) (fun cs W h=>h)
theorem zHU {m:Nat} {op:Rat->Rat->Rat} {W:Wi} {f:Wj} (hf:(SF.fn prog (T2 m op)).p f W):Calls prog 62 #[f] W (Ret W (SF.fn prog (T3 m op))):=by
 have hfc:f.cells=#[f]/\zU f=true:=by obtain ⟨g,caps,rfl,_⟩:=hf;exact ⟨rfl,rfl⟩
 refine yE [(UF.eq f).tS] func62 rfl kH ⟨rfl,trivial⟩ fun a s=> ?_
 refine tJ ?_
 refine zB 0 [] hmix s kH
  zD fun a w1 s=> ?_
 refine yV (wC [f]) rfl s kH (fun v W h=>zLO h hfc.1 hfc.2) fun b1 a w s=> ?_
 refine y8 (UF.eq (.nilFunc)) rfl s kH iiz fun a w s=> ?_
 refine zA rfl ?_
 refine tJ ?_
 replace s:=s.drop [2]
 refine jT 2 ((3, .s (SF.fn prog (T3 m op)))::(2, .s (SF.fn prog (T3 m op))):: []) hmix s kH
  (oc (zDe (fun u W hb (h:(wD b1 (wC [f]).cf).p u W)=>zFj (enters_of func89 kH rfl) (fun W' hb' args R ⟨u1,v1,p,q,e,h1,h2,hT,hR⟩=>by subst e hR;simpa using zNx h1 h2 ((wB (wC [f]).cf).st _ _ _ h.2 hb') ((SF.fn prog (T2 m op)).st _ _ _ ((SF.fn prog (T2 m op)).st _ _ _ hf (s.up hb)) hb') hT)))<|oc zG<|zD) fun a w2 s hr=> ?_
 refine zA rfl ?_
 refine tK ?_
 exact StS.resN s (tR _ _) rfl (hr (_,_) mz1)
theorem zIp {m:Nat} {W:Wi} {u v:Wj} {p q:V2} (h1:(fPV m p).p u W) (h2:(fPV m q).p v W) (hm:m<=650) (hm0:0<m) (hT:Tab W):Calls prog 40 #[u,v] W (Ret W (fPN (p.1 - q.1,p.2 - q.2)).tS):=by
 refine yE [(fPV m p).tS,(fPV m q).tS] func40 rfl kH ⟨h1,h2,trivial⟩ fun a s=> ?_
 refine tJ ?_
 refine zB 0 [] hmix s kH
  zD fun a w1 s=> ?_
 refine yV (CU.agg (fPV m p)) rfl s kH (fun v W h=>q8 h) fun b2 a w s=> ?_
 refine yV (CU.agg (fPV m q)) rfl s kH (fun v W h=>q8 h) fun b3 a w s=> ?_
 refine zW (CU.len 6) (cs:=zP6) kH rfl s kH (fun W=>rfl) rfl fun b4 a w s=> ?_
 refine zA rfl ?_
 refine tJ ?_
 refine yT [] 4 ((5, .s (SF.fn prog (T3 m (· - ·))))::(6, .Z (fPV m p))::(7, .Z (fPV m q))::(8, .u (fPN (p.1 - q.1,p.2 - q.2))):: []) hmix s kH
  (oc (zH zE zQD (fun u0 W hb h0=>by rw [show u0=_ from h0];exact zHU (zRR hm hm0 W)))<|oc (zJ (f:=fPV m p) 6 kH (hz:=z4 _ _))<|oc (zJ (f:=fPV m q) 6 kH (hz:=z4 _ _))<|oc (zLj (T3 m (· - ·)) zE iiz (fun u v W hb (h1:(fPV m p).p u W) (h2:(fPV m q).p v W)=>⟨u,v,p,q,rfl,h1,h2,hT.below (s.up hb),rfl⟩))<|zD) fun Q' hQ a w2 s=> ?_
 refine zN (CU.agg (fPN (p.1 - q.1,p.2 - q.2))) ((fPN (p.1 - q.1,p.2 - q.2)).tS) rfl s kH rfl rfl rfl iiz iiz qZ fun a w s=> ?_
 refine zA rfl (hQ _ _ ?_)
 refine tK ?_
 exact wJ s (CU.agg (fPN (p.1 - q.1,p.2 - q.2))) rfl kH rfl rfl (z4 _ _) (fun cs W h=>h)
theorem zQ1 {m:Nat} {W:Wi} {u v:Wj} {p q:V2} (h1:(fPV m p).p u W) (h2:(fPV m q).p v W) (hm:m<=650) (hm0:0<m) (hT:Tab W):Calls prog 108 #[u,v] W (Ret W (fPN (p.1+q.1,p.2+q.2)).tS):=by
 refine yE [(fPV m p).tS,(fPV m q).tS] func108 rfl kH ⟨h1,h2,trivial⟩ fun a s=> ?_
 refine tJ ?_
 refine zB 0 [] hmix s kH
  zD fun a w1 s=> ?_
 refine yV (CU.agg (fPV m p)) rfl s kH (fun v W h=>q8 h) fun b2 a w s=> ?_
 refine yV (CU.agg (fPV m q)) rfl s kH (fun v W h=>q8 h) fun b3 a w s=> ?_
 refine zW (CU.len 6) (cs:=zP6) kH rfl s kH (fun W=>rfl) rfl fun b4 a w s=> ?_
 refine zA rfl ?_
 refine tJ ?_
 refine yT [] 5 ((5, .s (SF.fn prog (T2 m (·+·))))::(6, .s (SF.fn prog (T3 m (·+·))))::(7, .Z (fPV m p))::(8, .Z (fPV m q))::(9, .u (fPN (p.1+q.1,p.2+q.2))):: []) hmix s kH
  (oc (zH zE zSb (fun u0 W hb h0=>zSK (enters_of func45 kH rfl) (zRQ hm) hm0 h0))<|oc (zH zE zQD (fun u0 W hb (h0:(SF.fn prog (T2 m (·+·))).p u0 W)=>zHU h0))<|oc (zJ (f:=fPV m p) 6 kH (hz:=z4 _ _))<|oc (zJ (f:=fPV m q) 6 kH (hz:=z4 _ _))<|oc (zLj (T3 m (·+·)) zE iiz (fun u v W hb (h1:(fPV m p).p u W) (h2:(fPV m q).p v W)=>⟨u,v,p,q,rfl,h1,h2,hT.below (s.up hb),rfl⟩))<|zD) fun Q' hQ a w2 s=> ?_
 refine zN (CU.agg (fPN (p.1+q.1,p.2+q.2))) ((fPN (p.1+q.1,p.2+q.2)).tS) rfl s kH rfl rfl rfl iiz iiz qZ fun a w s=> ?_
 refine zA rfl (hQ _ _ ?_)
 refine tK ?_
 exact wJ s (CU.agg (fPN (p.1+q.1,p.2+q.2))) rfl kH rfl rfl (z4 _ _) (fun cs W h=>h)
theorem zC0 {m:Nat} {W:Wi} {u v:Wj} {p q:V2} (h1:(fPV m p).p u W) (h2:(fPV m q).p v W) (hp:QB p.1 m/\QB p.2 m) (hq:QB q.1 m/\QB q.2 m) (hm:m<=320) (hm0:0<m) (hT:Tab W):Calls prog 67 #[u,v] W (Ret W (fQN (p.1*q.2 - p.2*q.1)).tS):=by
 refine yE [(fPV m p).tS,(fPV m q).tS] func67 rfl kH ⟨h1,h2,trivial⟩ fun a s=> ?_
 refine tJ ?_
 refine zB 0 [] hmix s kH
  zD fun a w1 s=> ?_
 refine yV (CU.agg (fPV m p)) rfl s kH (fun v W h=>q8 h) fun b2 a w s=> ?_
 refine yV (CU.agg (fPV m q)) rfl s kH (fun v W h=>q8 h) fun b3 a w s=> ?_
 refine zW (CU.len 3) (cs:=zR3) kH rfl s kH (fun W=>rfl) rfl fun b4 a w s=> ?_
 refine zA rfl ?_
 refine tJ ?_
 refine yT [] 13 ((5, .X (fPV m p) 0)::(6, .Z (fRV m ((p).1)))::(7, .X (fPV m q) 3)::(8, .Z (fRV m ((q).2)))::(9, .s (fQS m [(p).1,(q).2]))::(10, .Z (fQN ((p).1*(q).2)))::(11, .X (fPV m p) 3)::(12, .Z (fRV m ((p).2)))::(13, .X (fPV m q) 0)::(14, .Z (fRV m ((q).1)))::(15, .s (fQS m [(p).2,(q).1]))::(16, .Z (fQN ((p).2*(q).1)))::(17, .u (fQN ((p).1*(q).2 - (p).2*(q).1))):: []) hmix s kH
  (oc (zR (C:=cg (fPV m p)) 0 kH)<|oc (yG (C:=cg (fPV m p)) (k:=0) 3 kH (h:=zHq))<|oc (zR (C:=cg (fPV m q)) 3 kH)<|oc (yG (C:=cg (fPV m q)) (k:=3) 3 kH (h:=zHp))<|oc (yM (fun u v W (hu:RVp m ((p).1) u W) (hv:RVp m ((q).2) v W)=>zCO hu hv))<|oc (zH zE zRY (fun u0 W hb (h0:(fQS m [(p).1,(q).2]).p u0 W)=>zKF h0 hp.1 hq.2 oO (hT.below (s.up hb))))<|oc (zR (C:=cg (fPV m p)) 3 kH)<|oc (yG (C:=cg (fPV m p)) (k:=3) 3 kH (h:=zHp))<|oc (zR (C:=cg (fPV m q)) 0 kH)<|oc (yG (C:=cg (fPV m q)) (k:=0) 3 kH (h:=zHq))<|oc (yM (fun u v W (hu:RVp m ((p).2) u W) (hv:RVp m ((q).1) v W)=>zCO hu hv))<|oc (zH zE zRY (fun u0 W hb (h0:(fQS m [(p).2,(q).1]).p u0 W)=>zKF h0 hp.2 hq.1 oO (hT.below (s.up hb))))<|oc (zL zE zL8 (fun u0 u1 W hb (h0:QNp ((p).1*(q).2) u0 W) (h1:QNp ((p).2*(q).1) u1 W)=>zE9 (wG h0 (hp.1.mul hq.2)) (wG h1 (hp.2.mul hq.1)) oO oO (hT.below (s.up hb))))<|zD) fun Q' hQ a w2 s=> ?_
 refine zN (CU.agg (fQN ((p).1*(q).2 - (p).2*(q).1))) ((fQN ((p).1*(q).2 - (p).2*(q).1)).tS) rfl s kH rfl rfl rfl iiz iiz zY fun a w s=> ?_
 refine zA rfl (hQ _ _ ?_)
 refine tK ?_
 exact wJ s (CU.agg (fQN (p.1*q.2 - p.2*q.1))) rfl kH rfl rfl (y5 _) (fun cs W h=>h)
end Go.Proofs.Wd

namespace Lb
set_option maxHeartbeats 1000000
theorem zQ2 {l:List Nat} (ht:Lt l) {j s x:Nat} (hj:j<l.length) (hz: ∀i,i<j->lm l i=0) (hx:lm l j=2^s*x) (ho:x % 2=1):TZ (val l) (32*j+s)/\s<32:=by
 have hb:=qI ht j
 have hs:s<32:=by
  have h1:2^s*1<=2^s*x:=Nat.mul_le_mul_left _ oO
  rw [Nat.mul_one, <-hx] at h1
  exact (Nat.pow_lt_pow_iff_right dA).1 (tL h1 (by rw [zT9] at hb;simpa using hb))
 refine ⟨?_,hs⟩
 have e0:val (l.take j)=0:=by
  rw [zFq oO]
  have:sm (lm l) j=sm (lm l) 0:=zCI (tS _) fun i _ hi=>hz i hi
  rw [this];rfl
 have e1:=jY l j oO
 rw [e0,Nat.zero_add,zBe hj,hx,zFo] at e1
 obtain ⟨y,hy⟩: ∃y,val (l.drop (j+1))=y:=⟨_,rfl⟩
 rw [hy,show BB=2^s*(2*2^(31 - s)) from by rw [<-Nat.pow_succ', <-Nat.pow_add,show s+(31 - s+1)=32 from by omega];rfl,zVd, <-Nat.mul_add, <-zVd, <-Nat.pow_add] at e1
 refine ⟨x / 2+2^(31 - s)*y, ?_⟩
 rw [e1]
 congr 1
 rw [Nat.mul_add, <-zVd]
 omega
end Lb
namespace Go.Proofs.Wd
open Tryz
open Go.RowKit Lb
theorem zMK (A:Wl Addr) (n c:Nat) (l:List Nat) (w:Wi) (h:Rd w A n c l) (ht:Lt l) (h0:0<val l) (hn:n<=2000):
  ∃q t:Nat,TZ (val l) (32*q+t)/\t<=31/\q<n/\Calls prog 103 #[.slice A n c] w fun e w'=>e= .returned (.int .i64 ((32*q+t:Nat):Int))/\w'=w:=by
 obtain ⟨j,hjn,hjz,hj0⟩: ∃j,j<n/\(∀i,i<j->lm l i=0)/\lm l j≠0:=by
  have hex: ∃j,lm l j≠0:=by
   refine zVr fun hc=> ?_
   have hz: ∀i,lm l i=0:=fun i=>zVr fun e=>hc ⟨i,e⟩
   have:sm (lm l) l.length=sm (lm l) 0:=zCI (tS _) fun i _ _=>hz i
   have e:val l=sm (lm l) l.length:=rfl
   rw [e,this] at h0
   simp [sm] at h0
  have hmin: ∀k,(∃j,j<=k/\lm l j≠0)-> ∃j,(∀i,i<j->lm l i=0)/\lm l j≠0:=by
   intro k
   induction k with
   |zero=>rintro ⟨j,hj,e⟩;exact ⟨j,fun i hi=>by omega,e⟩
   |succ k ih=>
    rintro ⟨j,hj,e⟩
    by_cases hk: ∃j,j<=k/\lm l j≠0
    ·exact ih hk
    ·exact ⟨j,fun i hi=>zVr fun e'=>hk ⟨i,by omega,e'⟩,e⟩
  obtain ⟨j0,hj0⟩:=hex
  obtain ⟨j,h1,h2⟩:=hmin j0 ⟨j0,tU _,hj0⟩
  refine ⟨j, ?_,h1,h2⟩
  rw [<-h.len]
  exact Nat.lt_of_not_le fun e=>h2 (zDk e)
 obtain ⟨s,hs⟩:=vK (lm l j) oO
 obtain ⟨m,hm⟩:=hs
 obtain ⟨htz,hs32⟩:=zQ2 ht (s:=s) (x:=2*m+1) (by rw [h.len];exact hjn) hjz hm oO
 refine ⟨j,s,htz,by omega,hjn, ?_⟩
 have hb:=qI ht j
 have hle:=h.le;have hcap:=h.cap
 have HJZ:=hid hjz;have HM:=hid hm;have HB:=hid hb
 obtain ⟨d,hd⟩: ∃d:Nat->Nat,d=fun i=>2^(s - i)*(2*m+1):=⟨_,rfl⟩
 have hd0:d 0=lm l j:=by rw [hd,hm];rfl
 have hds:d s % 2=1:=by rw [hd];simp
 have hdi: ∀i,i<s->d i % 2=0/\d i / 2=d (i+1):=fun i hi=>by
  rw [hd]
  show 2^(s - i)*(2*m+1) % 2=0/\2^(s - i)*(2*m+1) / 2=2^(s - (i+1))*(2*m+1)
  rw [show s - i=(s - (i+1))+1 from by omega,Nat.pow_succ',zVd]
  omega
 have hdl: ∀i,d i<=d 0:=fun i=>by
  rw [hd]
  exact Nat.mul_le_mul_right _ (zU1 oO oO)
 have HD0:=hid hd0;have HDS:=hid hds;have HDI:=hid hdi;have HDL:=hid hdl
 clear hd hd0 hds hdi hdl
 have HL:Hid (∀i,lm l i<4294967296):=hid fun i=>qI ht i
 clear hjz hm htz hb h0
 go_enter func103,ntmps103
 go_wp2
 go_loopw [3,4] (fun t i wr=> ∃k:Nat,k<=j/\i= .int .i64 k/\t= .int .i64 ((32*k:Nat):Int)/\wr=w) (fun _ i _=>j - (intOf i).toNat)
 case atStart=>exact ⟨0,tS _,rfl,rfl,rfl⟩
 case round=>
  obtain ⟨k,hk,rfl,rfl,rfl⟩:=hrel
  obtain ⟨b,o,rfl,hc⟩:=h.cells k oO
  by_cases hkj:k<j
  ·have hz:=HJZ.out k hkj
   rw [hz] at hc
   clear hz
   go_wp2
   go_roundw
   case rel=>exact ⟨k+1,by omega,by go_num,by go_num,trivial⟩
   case measure=>simp [intOf];omega
  ·obtain rfl:k=j:=by omega
   have hlk:=HL.out k
   obtain ⟨x,hx⟩: ∃x,lm l k=x:=⟨_,rfl⟩
   rw [hx] at hc hj0 hlk
   have HX:=hid hx
   clear hx
   have e1:((32*k:Nat):Int).tdiv 32=(k:Int):=by rw [zVs oO];omega
   have e2:(((32*k:Nat):Int) / 32)=(k:Int):=by omega
   have hx2:((x:Int)==0)=false:=by simpa using hj0
   go_wp2
   go_loopw [3,5] (fun t y wr2=> ∃i:Nat,i<=s/\t= .int .i64 ((32*k+i:Nat):Int)/\y= .int .u32 (d i:Nat)/\wr2=wr) (fun t _ _=>32*k+s - (intOf t).toNat)
   case atStart=>exact ⟨0,tS _,rfl,by rw [HD0.out,HX.out],rfl⟩
   case round=>
    obtain ⟨i,hi,rfl,rfl,rfl⟩:=hrel
    have hdx:=HDL.out i
    rw [HD0.out,HX.out] at hdx
    by_cases his:i<s
    ·obtain ⟨q1,q2⟩:=HDI.out i his
     obtain ⟨y,hy⟩: ∃y,d i=y:=⟨_,rfl⟩
     rw [hy] at q1 q2 hdx ⊢
     have HY:=hid q2
     clear q2 hy
     go_wp2
     go_roundw
     case rel=>exact ⟨i+1,by omega,by go_num,by rw [<-HY.out];go_num,trivial⟩
     case measure=>simp [intOf];omega
    ·obtain rfl:i=s:=by omega
     have q1:=HDS.out
     obtain ⟨y,hy⟩: ∃y,d i=y:=⟨_,rfl⟩
     rw [hy] at q1 hdx ⊢
     clear hy
     go_wp2
     go_ret
     exact ⟨rfl,rfl⟩
theorem zOD {W:Wi} {m:Nat} {v v':Wj} {a b:Nat} (h:LV W m v a) (h':LV W m v' b) (hm:m<=100000):Calls prog 53 #[v,v'] W (zMz W (a*b)):=by
 obtain ⟨A,n,c,l,rfl,h1,h2,h3,rfl⟩:=h
 obtain ⟨A',n',c',l',rfl,h1',h2',h3',rfl⟩:=h'
 exact (zIK A n c l A' n' c' l' W h1 h1' h2 h2' oO oO).mono fun _ _=>jC.v
theorem zFD {W:Wi} {m:Nat} {v:Wj} {a:Nat} (h:LV W m v a) (hm:m<=100000):Calls prog 24 #[v] W (zMz W a):=by
 obtain ⟨A,n,c,l,rfl,h1,h2,h3,rfl⟩:=h
 exact (jL A n c l W h1 h2 oO).mono fun _ _=>jC.v
theorem qM.open {W:Wi} {v:Wj} {x:Nat} (h:qM W v x): ∃A n c,v= .slice A n c/\(x=0->n=0)/\(0<x->0<n)/\n<=c/\c<=9223372036854775807/\qM W (.slice A n c) x:=by
 obtain ⟨A,n,c,l,rfl,h1,h2⟩:=h
 have h3:=h1.zero_iff;have h4:=h1.pos_iff
 rw [h2.len] at h3 h4
 exact ⟨A,n,c,rfl,h3.1,h4.1,h2.le,h2.cap,⟨A,n,c,l,rfl,h1,h2⟩⟩
end Go.Proofs.Wd

namespace Lb
set_option maxHeartbeats 2000000
theorem zOU {x k:Nat} (h:TZ x k):x / 2^k % 2=1/\x / 2^k<=x/\0<x / 2^k:=by
 have:=h.part.2
 exact ⟨this,tW _ _,Nat.pos_of_ne_zero fun e=>by rw [e] at this;simp at this⟩
def Bin (G x y:Nat):Prop:=0<y/\(x=0->y=G)/\ ∀i j,TZ x i->TZ y j->Nat.gcd (x / 2^i) (y / 2^j)=G
theorem Bin.start {a b i j:Nat} (hi:TZ a i) (hj:TZ b j):Bin (Nat.gcd (a / 2^i) (b / 2^j)) a b:=
 ⟨hj.pos,fun e=>by have:=hi.pos;omega,fun i' j' h1 h2=>by rw [h1.unique hi,h2.unique hj]⟩
theorem Bin.turn {G x y:Nat} (hx:x % 2=1) (hy:y % 2=1) (hg:Nat.gcd x y=G) (hle:y<=x):Bin G (x - y) y:=by
 refine ⟨by omega,fun e=> ?_,fun i j h1 h2=> ?_⟩
 ·have:x=y:=by omega
  rw [<-hg,this,Nat.gcd_self]
 ·have hj:j=0:=h2.unique (wW hy)
  rw [hj,Nat.pow_zero,Nat.div_one,Nat.gcd_comm,vD hy h1,Nat.gcd_comm,zF6 hle,hg]
end Lb
namespace Go.Proofs.Wd
open Tryz
open Go.RowKit Lb
theorem zKI {W:Wi} {m:Nat} {A:Wl Addr} {n c:Nat} {x q t:Nat} (h:qM W (.slice A n c) x) (hx:x<BB^m) (hm:m<=2000) (htt:t<=31) (hq:q<n):Calls prog 104 #[.slice A n c, .int .i64 ((32*q+t:Nat):Int)] W (zMz W (x / 2^(32*q+t))):=by
 obtain ⟨A1,n1,c1,l1,e1,h1,h2⟩:=h
 cases e1
 have hn:n<=m:=zG5 h1 h2 hx
 have:=zKJ A n c l1 q t W h2 h1.lt htt oO oO oO
 rw [h1.val] at this
 exact this.mono fun _ _=>jC.v
theorem zSS {W:Wi} {m:Nat} {A:Wl Addr} {n c:Nat} {x q t:Nat} (h:LV W m (.slice A n c) x) (hm:m<=2000) (htt:t<=31) (hq:q<=2000):Calls prog 107 #[.slice A n c, .int .i64 ((32*q+t:Nat):Int)] W (zMz W (x*2^(32*q+t))):=by
 obtain ⟨A1,n1,c1,l1,e1,h1,h2,h3,rfl⟩:=h
 cases e1
 exact (zKv A n c l1 q t W h1 h2 htt oO oO).mono fun _ _=>jC.v
def zT3 (w:Wi) (x:Nat):Ending->Wi->Prop:=fun e w'=> ∃v,e= .returned (.tuple #[v, .int .i64 0])/\qM w' v x/\Below w.heap.size w w'
theorem zOB {W:Wi} {m:Nat} {v v':Wj} {a b:Nat} (h:LV W m v a) (h':LV W m v' b) (hm:m<=2000) (hab:b<=a):Calls prog 106 #[v,v'] W (zT3 W (a - b)):=by
 obtain ⟨A,n,c,l,rfl,h1,h2,h3,rfl⟩:=h
 obtain ⟨A',n',c',l',rfl,h1',h2',h3',rfl⟩:=h'
 refine (zFE A n c l A' n' c' l' W h1 h1' h2 h2' hab oO).mono ?_
 rintro e w' ⟨A1,n1,c1,l1,rfl,i1,r1,hb⟩
 exact ⟨_,rfl,⟨A1,n1,c1,l1,rfl,i1,r1⟩,hb⟩
theorem zIu {W:Wi} {m:Nat} {A:Wl Addr} {n c:Nat} {x:Nat} (h:qM W (.slice A n c) x) (hx:x<BB^m) (hm:m<=2000) (h0:0<x):
  ∃q t:Nat,TZ x (32*q+t)/\t<=31/\q<n/\n<=m/\Calls prog 103 #[.slice A n c] W fun e w'=>e= .returned (.int .i64 ((32*q+t:Nat):Int))/\w'=W:=by
 obtain ⟨A1,n1,c1,l1,e1,h1,h2⟩:=h
 cases e1
 have hn:n<=m:=zG5 h1 h2 hx
 obtain ⟨q,t,k1,k2,k3,k4⟩:=zMK A n c l1 W h2 h1.lt (by rw [h1.val];exact h0) oO
 rw [h1.val] at k1
 exact ⟨q,t,k1,k2,k3,hn,k4⟩
theorem qM.rdv {W:Wi} {v:Wj} {x:Nat} (h:qM W v x):rdv W v=x:=by
 obtain ⟨A1,n1,c1,l1,rfl,h1,h2⟩:=h
 exact h2.rdv h1
def RgI (w:Wi) (m G:Nat) (u v:Wj) (W:Wi):Prop:= ∃A n c A' n' c' x y,u= .slice A n c/\v= .slice A' n' c'/\qM W (.slice A n c) x/\qM W (.slice A' n' c') y/\x<BB^m/\y<BB^m/\Bin G x y/\Below w.heap.size w W
theorem zPZ {W:Wi} {m:Nat} {v v':Wj} {a b:Nat} (h:LV W m v a) (h':LV W m v' b) (hm:m<=2000):Calls prog 78 #[v,v'] W (zMz W (Nat.gcd a b)):=by
 have hla:=h.bound;have hlb:=h'.bound
 obtain ⟨A0,n0,c0,rfl,-,k1,k2,h⟩:=h.open
 obtain ⟨B0,m0,d0,rfl,-,k3,k4,h'⟩:=h'.open
 go_enter func78,ntmps78
 go_wp2_with fail
 refine (zFD h oO).mono ?_
 rintro e w1 ⟨va,rfl,ha,b1⟩
 obtain ⟨A,n,c,rfl,za,pa,ia,ja,ha⟩:=ha.open
 go_wp2_with fail
 refine (zFD (h'.below b1) oO).mono ?_
 rintro e w2 ⟨vb,rfl,hb,b2⟩
 obtain ⟨A',n',c',rfl,zb,pb,ib,jb,hb⟩:=hb.open
 have b02:=b1.trans (b2.mono b1.size)
 have ha2:=ha.below b2
 clear h h' ha b1 b2 k1 k2 k3 k4
 by_cases h0:a=0∨b=0
 ·have hg:Nat.gcd a b=a+b:=by
   rcases h0 with e|e
   ·rw [e];simp
   ·rw [e];simp
  have h00:n=0∨(0<n/\n'=0):=by
   rcases zU3 n with e|e
   ·exact .inl e
   ·refine .inr ⟨e,zb (h0.resolve_left fun e'=> ?_)⟩
    have:=za e';omega
  have HG:=hid hg
  clear za pa zb pb h0 hg
  have ad:=zPN (ha2.lv hla) (hb.lv hlb) oO 25
  have bS:Below w2.heap.size w2 (w2.alloc (.cells #[.slice A n c, .slice A' n' c'] 25)):=(tR _ w2).alloc (tU _) _
  have HLA:=hid hla;have HLB:=hid hlb
  clear hla hlb
  rcases h00 with rfl|⟨e1,rfl⟩
  all_goals
   go_wp2_with fail
   refine ad.mono ?_
   rintro e w4 ⟨vs,rfl,hs,b4⟩
   go_wp2_with fail
   go_ret
   exact ⟨vs,rfl,by rw [HG.out];exact hs,b02.trans ((bS.trans (b4.mono bS.size)).mono b02.size)⟩
 ·have hn0:0<n:=pa oO
  have hn0':0<n':=pb oO
  have hnb:((n:Int)==0)=false:=by simp;omega
  have hnb':((n':Int)==0)=false:=by simp;omega
  obtain ⟨q,t,hz,ht,hq,hnm,htw⟩:=zIu ha2 hla hm oO
  obtain ⟨q',t',hz',ht',hq',hnm',htw'⟩:=zIu hb hlb hm oO
  have hgcd:=hz.gcd hz'
  have hbin:=Bin.start hz hz'
  have hG0:Nat.gcd (a / 2^(32*q+t)) (b / 2^(32*q'+t'))<BB^m:=zOZ (tL (tW _ _) hla) (tL (tW _ _) hlb)
  obtain ⟨G,hG⟩: ∃G,Nat.gcd (a / 2^(32*q+t)) (b / 2^(32*q'+t'))=G:=⟨_,rfl⟩
  rw [hG] at hgcd hbin hG0
  obtain ⟨p,s,hs,hps,hpq⟩: ∃p s:Nat,s<=31/\p<=2000/\min (32*q+t) (32*q'+t')=32*p+s:=by
   rcases Nat.le_total (32*q+t) (32*q'+t') with e|e
   ·exact ⟨q,t,ht,by omega,by omega⟩
   ·exact ⟨q',t',ht',by omega,by omega⟩
  rw [hpq] at hgcd
  have hmin:min ((32*q+t:Nat):Int) ((32*q'+t':Nat):Int)=((32*p+s:Nat):Int):=by omega
  have HGC:=hid hgcd;have HBI:=hid hbin;have HG0:=hid hG0
  obtain ⟨k,hk⟩: ∃k,32*q+t=k:=⟨_,rfl⟩
  obtain ⟨k',hk'⟩: ∃k,32*q'+t'=k:=⟨_,rfl⟩
  rw [hk] at htw hmin
  rw [hk'] at htw' hmin
  obtain ⟨K,hK⟩: ∃K,32*p+s=K:=⟨_,rfl⟩
  rw [hK] at hmin
  have HK:=hid hK
  have hK2:K<=64500:=by omega
  have hk2:k<=64500:=by omega
  have hk2':k'<=64500:=by omega
  have HLA:=hid hla;have HLB:=hid hlb
  clear hgcd hbin hG0 hz hz' hG hpq hk hk' hK za pa zb pb hq hq' ht ht' hnm hnm' h0 hla hlb
  go_wp2_with fail
  refine htw.mono ?_
  rintro e w3 ⟨rfl,rfl⟩
  go_wp2_with fail
  refine htw'.mono ?_
  rintro e w3 ⟨rfl,rfl⟩
  go_wp2
  go_loopw [0,1] (RgI W m G) (fun u v wr=>rdv wr u+rdv wr v)
  case atStart=>exact ⟨A,n,c,A',n',c',a,b,rfl,rfl,ha2,hb,HLA.out,HLB.out,HBI.out,b02⟩
  case round=>
   clear ha2 hb b02 hn0 hn0' hnb hnb' htw htw' ia ja ib jb hmin
   obtain ⟨A1,n1,c1,A2,n2,c2,x,y,rfl,rfl,hx,hy,hxl,hyl,hbn,hB⟩:=hrel
   obtain ⟨_,_,_,e1,zx,px,ix,jx,_⟩:=hx.open
   cases e1
   obtain ⟨_,_,_,e1,zy,py,iy,jy,_⟩:=hy.open
   cases e1
   have hy0:=hbn.1
   have HBN:=hid hbn
   have HXL:=hid hxl;have HYL:=hid hyl
   rcases zU3 n1 with h0|h0
   ·have hx0:x=0:=by
     rcases zU3 x with e|e
     ·exact e
     ·have:=px e;omega
    have hyG:=hbn.2.1 hx0
    have HYG:=hid hyG
    have hup:=zSS (q:=p) (t:=s) (hy.lv hyl) hm hs hps
    rw [HK.out] at hup
    subst h0
    clear hbn hxl hyl hx0 hyG zx px zy py
    go_wp2_with fail
    refine hup.mono ?_
    rintro e w5 ⟨v5,rfl,hv5,hb5⟩
    go_wp2_with fail
    go_ret
    exact ⟨v5,rfl,by rw [HGC.out,HK.out, <-HYG.out,Nat.mul_comm];exact hv5,hB.trans (hb5.mono hB.size)⟩
   ·have hx0:0<x:=Nat.pos_of_ne_zero fun e=>by have:=zx e;omega
    obtain ⟨q1,t1,z1,ht1,hq1,hnm1,htw1⟩:=zIu hx hxl hm hx0
    have hd1:=zKI hx hxl hm ht1 hq1
    obtain ⟨o1,o2,o3⟩:=zOU z1
    obtain ⟨k1,hk1⟩: ∃k,32*q1+t1=k:=⟨_,rfl⟩
    have hk1l:k1<=64500:=by omega
    rw [hk1] at htw1 hd1 z1 o1 o2 o3
    have Z1:=hid z1
    obtain ⟨X,hX⟩: ∃X,x / 2^k1=X:=⟨_,rfl⟩
    have HX:=hid hX
    rw [hX] at hd1 o1 o2 o3
    clear z1 hX hk1 ht1 hq1 hnm1 hbn zx px zy py
    have HO1:=hid o1
    have hrx:=hx.rdv;have hry:=hy.rdv
    have HRX:=hid hrx;have HRY:=hid hry
    clear hrx hry o1
    go_wp2_with fail
    refine htw1.mono ?_
    rintro e w5 ⟨rfl,rfl⟩
    go_wp2_with fail
    refine hd1.mono ?_
    rintro e w6 ⟨v6,rfl,h6,b6⟩
    obtain ⟨A6,n6,c6,rfl,z6,p6,i6,j6,h6⟩:=h6.open
    have hy6:=hy.below b6
    obtain ⟨q2,t2,z2,ht2,hq2,hnm2,htw2⟩:=zIu hy6 hyl hm hy0
    have hd2:=zKI hy6 hyl hm ht2 hq2
    obtain ⟨o4,o5,o6⟩:=zOU z2
    obtain ⟨k2,hk2⟩: ∃k,32*q2+t2=k:=⟨_,rfl⟩
    have hk2l:k2<=64500:=by omega
    rw [hk2] at htw2 hd2 z2 o4 o5 o6
    have Z2:=hid z2
    obtain ⟨Y,hY⟩: ∃Y,y / 2^k2=Y:=⟨_,rfl⟩
    have HY:=hid hY
    rw [hY] at hd2 o4 o5 o6
    clear z2 hY hk2 ht2 hq2 hnm2 htw1 hd1 z6 p6
    have HO4:=hid o4
    clear o4
    go_wp2_with fail
    refine htw2.mono ?_
    rintro e w7 ⟨rfl,rfl⟩
    go_wp2_with fail
    refine hd2.mono ?_
    rintro e w8 ⟨v8,rfl,h8,b8⟩
    obtain ⟨A8,n8,c8,rfl,z8,p8,i8,j8,h8⟩:=h8.open
    have h68:=h6.below b8
    have b68:=b6.trans (b8.mono b6.size)
    have hB8:=hB.trans (b68.mono hB.size)
    have hXl:X<BB^m:=tL o2 HXL.out
    have hYl:Y<BB^m:=tL o5 HYL.out
    have hXY:Nat.gcd X Y=G:=by rw [<-HX.out, <-HY.out];exact HBN.out.2.2 _ _ Z1.out Z2.out
    have HXY:=hid hXY
    obtain ⟨cz,hcz⟩: ∃cz,zAt X Y=cz:=⟨_,rfl⟩
    have hc1:=zRl (h68.lv hXl) (h8.lv hYl)
    have hcl:cz<0↔X<Y:=by
     rw [<-hcz]
     unfold zAt
     split
     ·exact ⟨fun _=>by assumption,fun _=>by omega⟩
     ·split
      ·exact ⟨fun h=>by omega,fun h=>by omega⟩
      ·exact ⟨fun h=>by omega,fun h=>by omega⟩
    rw [hcz] at hc1
    clear htw2 hd2 z8 p8 h6 hy6 hx hy hXY hcz hxl hyl
    have HXl:=hid hXl;have HYl:=hid hYl
    clear hXl hYl
    rcases Nat.lt_or_ge X Y with hlt|hge
    ·have hcz:cz<0:=hcl.2 hlt
     have hsb:=zOB (h8.lv HYl.out) (h68.lv HXl.out) hm (zVc hlt)
     have hbt:=Bin.turn (G:=G) HO4.out HO1.out (by rw [Nat.gcd_comm];exact HXY.out) (zVc hlt)
     have HBT:=hid hbt
     clear hbt hcl
     go_wp2_with fail
     refine hc1.mono ?_
     rintro e w9 ⟨rfl,rfl⟩
     go_wp2_with fail
     refine hsb.mono ?_
     rintro e w10 ⟨v10,rfl,h10,b10⟩
     obtain ⟨A10,n10,c10,rfl,z10,p10,i10,j10,h10⟩:=h10.open
     clear z10 p10
     go_wp2_with fail
     refine ⟨⟨A10,n10,c10,A6,n6,c6,Y - X,X,rfl,rfl,h10,h68.below b10,tL (Nat.sub_le _ _) HYl.out,HXl.out,HBT.out,hB8.trans (b10.mono hB8.size)⟩, ?_⟩
     show rdv _ _+rdv _ _<rdv _ _+rdv _ _
     rw [h10.rdv,(h68.below b10).rdv,HRX.out,HRY.out]
     omega
    ·have hcz: ¬cz<0:=fun e=>by have:=hcl.1 e;omega
     have hsb:=zOB (h68.lv HXl.out) (h8.lv HYl.out) hm hge
     have hbt:=Bin.turn (G:=G) HO1.out HO4.out HXY.out hge
     have HBT:=hid hbt
     clear hbt hcl
     go_wp2_with fail
     refine hc1.mono ?_
     rintro e w9 ⟨rfl,rfl⟩
     go_wp2_with fail
     refine hsb.mono ?_
     rintro e w10 ⟨v10,rfl,h10,b10⟩
     obtain ⟨A10,n10,c10,rfl,z10,p10,i10,j10,h10⟩:=h10.open
     clear z10 p10
     go_wp2_with fail
     refine ⟨⟨A10,n10,c10,A8,n8,c8,X - Y,Y,rfl,rfl,h10,h8.below b10,tL (Nat.sub_le _ _) HXl.out,HYl.out,HBT.out,hB8.trans (b10.mono hB8.size)⟩, ?_⟩
     show rdv _ _+rdv _ _<rdv _ _+rdv _ _
     rw [h10.rdv,(h8.below b10).rdv,HRX.out,HRY.out]
     omega
theorem zRr {W:Wi} {u:Wj} (k:Int) (hu:u= .int .i64 k) (h: -9223372036854775808<=k/\k<=9223372036854775807):Calls prog 30 #[u] W (zGp W k):=by
 subst hu
 exact zRs k h
end Go.Proofs.Wd

namespace Go.Proofs.Wd
open Tryz
set_option maxRecDepth 100000
open Go.RowKit Lb
def zL3:Nat:=10000
theorem zRJ {x:Nat} (h:x<18446744073709551616) (m:Nat) (hm:2<=m):x<BB^m:=tP h (tO (show 18446744073709551616<=BB^2 by decide) (zU1 y6 hm))
theorem zGH {W:Wi} {m:Nat} {v:Wj} {x:Nat} (h:LV W m v x) (hm:m<=100000):Calls prog 76 #[v] W (Ret W (zAB (UF.eq (.int .u64 ((zI x:Nat):Int))) (fB (yO x))).tS):=by
 obtain ⟨A,n,c,l,rfl,h1,h2,h3,rfl⟩:=h
 refine (zJr A n c l W h1 h2 oO).mono ?_
 rintro e w' ⟨rfl,hb⟩
 exact ⟨_,rfl,⟨_,_,rfl,rfl,rfl⟩,hb⟩
theorem zOF {W:Wi} {v:Wj} (x:Nat) (hx:x<18446744073709551616) (hv:v= .int .u64 (x:Int)):Calls prog 54 #[v] W (Ret W (qW x).tS):=by
 subst hv
 exact (zHI x hx W).mono fun _ _ h=>jC.v h
theorem zAE (x:Nat):zI x<18446744073709551616:=by unfold zI;split<;>omega
theorem zLc {F:Fence} {m:Nat} {P:Wn} {w0:Wi} {ops:Array Oper} {G:Nat->SF} {d:Tmp} {ty:Wk} {pos:String} {aft:Array Edge} {t:Wk} {x y:Wm} {t':Wk} (k:IntKind) (u v r:Int) (hx: ∀q W,(fct G x).p q W->q= .int k u) (hy: ∀q W,(fct G y).p q W->q= .int k v) (hv:v≠0) (hr:k.wrap (u.tdiv v)=r) (hd: ∀W,(G d).p (.int k r) W:=by exact fun _=>rfl):qG F m P w0 ops G ⟨some d, .binOp .quo t x y t',ty,pos,aft,none⟩:=
 zDg (.int k u) (.int k v) (.int k r) hx hy (fun W=>by simp [eqGuard]) (fun W=>by simp [binOp,Op.intDiv,hv,hr]) hd
theorem zQY (u:Int) (r:Nat) (h:u=r) (hr:r<18446744073709551616):IntKind.u64.wrap u=r:=by
 subst h
 rw [IntKind.wrap_u64]
 omega
theorem zIR {W:Wi} {v:Wj} {x:Nat} (h:qM W v x):Calls prog 29 #[v] W (Ret W (fNV (x:Int)).tS):=by
 refine yE [(qW x).tS] func29 rfl kH ⟨h,trivial⟩ fun a s=> ?_
 refine tJ ?_
 refine zB 0 [] hmix s kH
  zD fun a w1 s=> ?_
 refine zW (CU.len 2) (cs:= [.bool false, .slice none 0 0]) kH rfl s kH (fun W=>rfl) rfl fun b2 a w s=> ?_
 refine zA rfl ?_
 refine tJ ?_
 refine zB 2 ((3, .Z (qW x))::(4, .u (fNV (x:Int))):: []) hmix s kH
  (oc zC<|oc (zCd (fun u W (hu:qM W u x)=>zMn hu))<|zD) fun a w2 s=> ?_
 refine zN (CU.agg (fNV (x:Int))) ((fNV (x:Int)).tS) rfl s kH rfl rfl rfl iiz iiz zFU fun a w s=> ?_
 refine zA rfl ?_
 refine tK ?_
 exact wJ s (CU.agg (fNV (x:Int))) rfl kH rfl rfl (zOV _) (fun cs W h=>h)
theorem zC9 {W:Wi} {v:Wj} (z:Int) (hv:v= .int .i64 z) (hz: -9223372036854775808<=z/\z<=9223372036854775807):Calls prog 10 #[v] W (Ret W (fQN (z:Rat)).tS):=by
 refine yE [(fI z).tS] func10 rfl kH ⟨hv,trivial⟩ fun a s=> ?_
 refine tJ ?_
 refine zB 0 [] hmix s kH
  zD fun a w1 s=> ?_
 refine zW (CU.len 3) (cs:=zR3) kH rfl s kH (fun W=>rfl) rfl fun b2 a w s=> ?_
 refine zA rfl ?_
 refine tJ ?_
 refine zB 4 ((3, .Z (uI z))::(4, .Z (fNV z))::(5, .Z (qW 1))::(6, .u (fQN (z:Rat))):: []) hmix s kH
  (oc zC<|oc (zH zE zTE (fun u0 W hb (h0:u0= .int .i64 z)=>zRr z h0 hz))<|oc (zAP (fun u W (hu:u= .int .u32 1)=>zOz hu))<|oc (yR (fun u v W (hu:NV W u z) (hv:qM W v 1)=>zHi (q:=(z:Rat)) hu hv))<|zD) fun a w2 s=> ?_
 refine zN (CU.agg (fQN (z:Rat))) ((fQN (z:Rat)).tS) rfl s kH rfl rfl rfl iiz iiz zY fun a w s=> ?_
 refine zA rfl ?_
 refine tK ?_
 exact wJ s (CU.agg (fQN (z:Rat))) rfl kH rfl rfl (y5 _) (fun cs W h=>h)
theorem zDT (k:Int) (d:Nat) (h:0<d):(if decide (k<0) then -((k.natAbs / Nat.gcd k.natAbs d:Nat):Int) else ((k.natAbs / Nat.gcd k.natAbs d:Nat):Int))=(mkRat k d).num:=by
 have h1:=zDi k d h
 have h2:=zDj k d h
 rw [<-h1, <-h2]
 by_cases hs:(mkRat k d).num<0
 ·rw [zU4 hs,if_pos rfl]
  omega
 ·rw [zU5 hs,if_neg dA]
  omega
theorem zPQ {W:Wi} {m:Nat} {v v':Wj} {k:Int} {d:Nat} (h:UV W m v k) (h':LV W m v' d) (hm:m<=2000) (hd:d=0):Calls prog 50 #[v,v'] W (Ret W (zAB (fQN (mkRat k d)) (fI 30)).tS):=by
 have bk:k.natAbs<BB^m:=h.bound
 have hz:true=decide (d=0):=(zU4 hd).symm
 have hq0:mkRat k d=((0:Int):Rat):=by rw [hd,Rat.mkRat_zero];rfl
 refine yE [(fUV m k).tS,(fLV m d).tS] func50 rfl kH ⟨h,h',trivial⟩ fun a s=> ?_
 refine tJ ?_
 refine zB 0 [] hmix s kH
  zD fun a w1 s=> ?_
 refine yV (CU.agg (fUV m k)) rfl s kH (fun v W h=>zIr h) fun b2 a w s=> ?_
 refine zW (CU.len 3) (cs:=zR3) kH rfl s kH (fun W=>rfl) rfl fun b4 a w s=> ?_
 refine y8 (uI 0) rfl s kH iiz fun a w s=> ?_
 refine zA rfl ?_
 refine tJ ?_
 refine tJ ?_
 refine zB 4 ((18, .Z (fLV m d))::(19, .Z (qW d))::(20, .s (zQX d))::(21, .u (uB true)):: []) hmix s kH
  (oc zC<|oc (zH zE zR6 (fun u0 W hb (h0:LV W m u0 d)=>(zFD h0 oO)))<|oc (zFR kH iiz)<|oc (zFT hz)<|zD) fun a w2 s=> ?_
 refine zA rfl ?_
 refine StS.cond s true iiz (fun e=> ?_) (fun e=>by cases e)
 refine tJ ?_
 replace s:=s.drop [5]
 refine zB 1 ((22, .u (fQN ((0:Int):Rat))):: []) hmix s kH
  (oc (zH zE zGd (fun u0 W hb (h0:u0= .int .i64 0)=>zC9 0 h0 dA))<|zD) fun a w3 s=> ?_
 refine zN (CU.agg (fQN ((0:Int):Rat))) ((fQN ((0:Int):Rat)).tS) rfl s kH rfl rfl rfl iiz iiz zY fun a w s=> ?_
 refine y8 (uI 30) rfl s kH iiz fun a w s=> ?_
 refine zA rfl ?_
 refine tK ?_
 exact wR s (CU.agg (fQN ((0:Int):Rat))) rfl kH rfl rfl (y5 _) (fun cs v W h1 h2=>⟨_,_,rfl,by rw [hq0];exact h1,h2⟩)
theorem zPR {W:Wi} {m:Nat} {v v':Wj} {k:Int} {d:Nat} (h:UV W m v k) (h':LV W m v' d) (hm:m<=2000) (hd0:0<d):Calls prog 50 #[v,v'] W (Ret W (zAB (fQN (mkRat k d)) (fI 0)).tS):=by
 have bk:k.natAbs<BB^m:=h.bound
 have hz:false=decide (d=0):=(zU5 oO).symm
 have hdiv: ∀W u0 u1 x,LV W m u0 x->qM W u1 (Nat.gcd k.natAbs d)->Calls prog 79 #[u0,u1] W (Ret W (zDL (qW (x / (Nat.gcd k.natAbs d))) (qW (x % (Nat.gcd k.natAbs d))) (fI 0)).tS):=fun W u0 u1 x h1 h2=>by
  refine (zRk h1 (qM.lv (m:=m) h2 (tL (Nat.gcd_le_right _ hd0) h'.bound)) oO (zVx _ hd0)).mono ?_
  rintro e w' ⟨v1,v2,rfl,h3,h4,hb⟩
  exact ⟨_,rfl,⟨v1,v2,_,rfl,h3,h4,rfl⟩,hb⟩
 refine yE [(fUV m k).tS,(fLV m d).tS] func50 rfl kH ⟨h,h',trivial⟩ fun a s=> ?_
 refine tJ ?_
 refine zB 0 [] hmix s kH
  zD fun a w1 s=> ?_
 refine yV (CU.agg (fUV m k)) rfl s kH (fun v W h=>zIr h) fun b2 a w s=> ?_
 refine zW (CU.len 3) (cs:=zR3) kH rfl s kH (fun W=>rfl) rfl fun b4 a w s=> ?_
 refine y8 (uI 0) rfl s kH iiz fun a w s=> ?_
 refine zA rfl ?_
 refine tJ ?_
 refine tJ ?_
 refine zB 4 ((18, .Z (fLV m d))::(19, .Z (qW d))::(20, .s (zQX d))::(21, .u (uB false)):: []) hmix s kH
  (oc zC<|oc (zH zE zR6 (fun u0 W hb (h0:LV W m u0 d)=>(zFD h0 oO)))<|oc (zFR kH iiz)<|oc (zFT hz)<|zD) fun a w2 s=> ?_
 refine zA rfl ?_
 refine StS.cond s false iiz (fun e=>by cases e) (fun e=> ?_)
 refine tM ?_
 refine tJ ?_
 refine zB 2 ((23, .Z (fUV m k))::(24, .u (fNV k)):: []) hmix s kH
  (oc (zJ (f:=fUV m k) 2 kH (hz:=zIq _ _))<|oc (zH zE zQF (fun u0 W hb (h0:UV W m u0 k)=>zFK h0 oO))<|zD) fun a w3 s=> ?_
 refine zN (CU.agg (fNV k)) ((fNV k).tS) rfl s kH rfl rfl rfl (zIq _ _) iiz zFU fun a w s=> ?_
 refine zA rfl ?_
 refine tJ ?_
 refine zB 8 ((26, .X (fNV k) 1)::(27, .Z (qW ((k).natAbs)))::(28, .Z (zAB (UF.eq (.int .u64 ((zI ((k).natAbs):Nat):Int))) (uB (yO ((k).natAbs)))))::(25, .Z (zAB (UF.eq (.int .u64 ((zI ((k).natAbs):Nat):Int))) (uB (yO ((k).natAbs)))))::(29, .Z (UF.eq (.int .u64 ((zI ((k).natAbs):Nat):Int))))::(30, .Z (uB (yO ((k).natAbs))))::(6, .u (UF.eq (.int .u64 ((zI ((k).natAbs):Nat):Int))))::(7, .u (uB (yO ((k).natAbs)))):: []) hmix s kH
  (oc (zR (C:=cg (fNV k)) 1 kH)<|oc (jP (C:=cg (fNV k)) (k:=1) kH (h:=zGT))<|oc (zH zE zR0 (fun u0 W hb (h0:qM W u0 ((k).natAbs))=>zGH (qM.lv (m:=m) h0 bk) oO))<|oc zC<|oc (zA3 (A:=(UF.eq (.int .u64 ((zI ((k).natAbs):Nat):Int))).tS) (B:=(uB (yO ((k).natAbs))).tS) iiz)<|oc (zA2 (A:=(UF.eq (.int .u64 ((zI ((k).natAbs):Nat):Int))).tS) (B:=(uB (yO ((k).natAbs))).tS) iiz)<|oc zG<|oc zG<|zD) fun a w4 s=> ?_
 refine zA rfl ?_
 refine tJ ?_
 refine zB 7 ((32, .Z (fLV m d))::(33, .Z (zAB (UF.eq (.int .u64 ((zI d:Nat):Int))) (uB (yO d))))::(31, .Z (zAB (UF.eq (.int .u64 ((zI d:Nat):Int))) (uB (yO d))))::(34, .Z (UF.eq (.int .u64 ((zI d:Nat):Int))))::(35, .Z (uB (yO d)))::(8, .u (UF.eq (.int .u64 ((zI d:Nat):Int))))::(9, .u (uB (yO d))):: []) hmix s kH
  (oc zC<|oc (zH zE zR0 (fun u0 W hb (h0:LV W m u0 d)=>zGH h0 oO))<|oc zC<|oc (zA3 (A:=(UF.eq (.int .u64 ((zI d:Nat):Int))).tS) (B:=(uB (yO d)).tS) iiz)<|oc (zA2 (A:=(UF.eq (.int .u64 ((zI d:Nat):Int))).tS) (B:=(uB (yO d)).tS) iiz)<|oc zG<|oc zG<|zD) fun a w5 s=> ?_
 refine zA rfl ?_
 refine tJ ?_
 refine tJ ?_
 refine zB 4 ((36, .Z (uB (yO ((k).natAbs))))::(37, .Z (uB (yO ((k).natAbs))))::(38, .s (SF.imp ((yO ((k).natAbs))=true) ((uB (yO d)).tS)))::(39, .u (uB ((yO ((k).natAbs))&&(yO d)))):: []) hmix s kH
  (oc zC<|oc zC<|oc (zF 37 (yO ((k).natAbs)) kH iiz (fun e=>qO [] ((uB (yO d)).tS) fnz (fun _ _ h _=>h) kH zC) (fun e W h=>absurd h e))<|oc (yC (yO ((k).natAbs)) iiz (fun e v W h=>zDb (yS e h) e) (fun e v W h=>zCa h e))<|zD) fun a w6 s=> ?_
 refine zA rfl ?_
 refine StS.cond s ((yO ((k).natAbs))&&(yO d)) iiz (fun e=> ?_) (fun e=> ?_)
 ·rw [Bool.and_eq_true] at e
  have hs1:zI k.natAbs=k.natAbs:=by have:=e.1;unfold yO at this;unfold zI;rw [if_pos (tX this)]
  have hs2:zI d=d:=by have:=e.2;unfold yO at this;unfold zI;rw [if_pos (tX this)]
  have hg0:((Nat.gcd (zI k.natAbs) (zI d):Nat):Int)≠0:=by rw [hs1,hs2];have:=zVx k.natAbs hd0;omega
  have hden:(mkRat k d).den=zI d / (Nat.gcd (zI k.natAbs) (zI d)):=by rw [hs1,hs2];exact zCf k d hd0
  have hlt: ∀x,x<18446744073709551616->x<BB^zL3:=fun x hx=>zRJ hx _ dA
  have hnum: ∀W u,UV W zL3 u (if decide (k<0) then -(((zI k.natAbs / (Nat.gcd (zI k.natAbs) (zI d))):Nat):Int) else (((zI k.natAbs / (Nat.gcd (zI k.natAbs) (zI d))):Nat):Int))->Calls prog 49 #[u] W (zGp W (mkRat k d).num):=fun W u hu=>by
   have:=zFK hu dA
   rw [hs1,hs2,zDT k d hd0] at this
   exact this
  refine tJ ?_
  refine zB 4 ((40, .Z (UF.eq (.int .u64 ((zI ((k).natAbs):Nat):Int))))::(41, .Z (UF.eq (.int .u64 ((zI d:Nat):Int))))::(42, .Z (UF.eq (.int .u64 ((Nat.gcd (zI k.natAbs) (zI d):Nat):Int))))::(10, .u (UF.eq (.int .u64 ((Nat.gcd (zI k.natAbs) (zI d):Nat):Int)))):: []) hmix s kH
   (oc zC<|oc zC<|oc (zL zE zTo (fun u0 u1 W hb (h0:u0= .int .u64 ((zI ((k).natAbs):Nat):Int)) (h1:u1= .int .u64 ((zI d:Nat):Int))=>zKN _ _ h0 h1 (zAE _) (zAE _)))<|oc zG<|zD) fun a w7 s=> ?_
  refine zA rfl ?_
  refine tJ ?_
  replace s:=s.drop [5]
  refine yT [2,3,8,9] 13 ((43, .X (fNV k) 0)::(44, .Z (uB (decide (k<0))))::(45, .Z (UF.eq (.int .u64 ((zI ((k).natAbs):Nat):Int))))::(46, .Z (UF.eq (.int .u64 ((Nat.gcd (zI k.natAbs) (zI d):Nat):Int))))::(47, .Z (UF.eq (.int .u64 ((zI k.natAbs / (Nat.gcd (zI k.natAbs) (zI d)):Nat):Int))))::(48, .Z (qW (zI k.natAbs / (Nat.gcd (zI k.natAbs) (zI d)))))::(49, .Z (fUV zL3 (if decide (k<0) then -((zI k.natAbs / (Nat.gcd (zI k.natAbs) (zI d)):Nat):Int) else ((zI k.natAbs / (Nat.gcd (zI k.natAbs) (zI d)):Nat):Int))))::(50, .Z (fNV ((mkRat k d).num)))::(51, .Z (UF.eq (.int .u64 ((zI d:Nat):Int))))::(52, .Z (UF.eq (.int .u64 ((Nat.gcd (zI k.natAbs) (zI d):Nat):Int))))::(53, .Z (UF.eq (.int .u64 ((zI d / (Nat.gcd (zI k.natAbs) (zI d)):Nat):Int))))::(54, .Z (qW (zI d / (Nat.gcd (zI k.natAbs) (zI d)))))::(55, .u (fQN (mkRat k d))):: []) hmix s kH
   (oc (zR (C:=cg (fNV k)) 0 kH)<|oc (jP (C:=cg (fNV k)) (k:=0) kH (h:=zLp))<|oc zC<|oc zC<|oc (zLc .u64 ((zI ((k).natAbs):Nat):Int) ((Nat.gcd (zI k.natAbs) (zI d):Nat):Int) ((zI k.natAbs / (Nat.gcd (zI k.natAbs) (zI d)):Nat):Int) iiz iiz hg0 (zQY _ _ (by rw [zVs oO,Int.natCast_ediv]) (tL (tW _ _) (zAE _))))<|oc (zH zE zR1 (fun u0 W hb (h0:u0= .int .u64 ((zI k.natAbs / (Nat.gcd (zI k.natAbs) (zI d)):Nat):Int))=>zOF _ (tL (tW _ _) (zAE _)) h0))<|oc (yR (fun u v W (hu:u= .bool (decide (k<0))) (hv:qM W v (zI k.natAbs / (Nat.gcd (zI k.natAbs) (zI d))))=>zOe hu hv (hlt _ (by first|exact tL (tW _ _) (zAE _)|exact hk64|exact tL (tW _ _) (tP bk (zU1 y6 (tO hm dA)))))))<|oc (zH zE zQF (fun u0 W hb (h0:UV W zL3 u0 (if decide (k<0) then -((zI k.natAbs / (Nat.gcd (zI k.natAbs) (zI d)):Nat):Int) else ((zI k.natAbs / (Nat.gcd (zI k.natAbs) (zI d)):Nat):Int)))=>hnum W u0 (h0:UV W zL3 u0 _)))<|oc zC<|oc zC<|oc (zLc .u64 ((zI d:Nat):Int) ((Nat.gcd (zI k.natAbs) (zI d):Nat):Int) ((zI d / (Nat.gcd (zI k.natAbs) (zI d)):Nat):Int) iiz iiz hg0 (zQY _ _ (by rw [zVs oO,Int.natCast_ediv]) (tL (tW _ _) (zAE _))))<|oc (zH zE zR1 (fun u0 W hb (h0:u0= .int .u64 ((zI d / (Nat.gcd (zI k.natAbs) (zI d)):Nat):Int))=>zOF _ (tL (tW _ _) (zAE _)) h0))<|oc (yR (fun u v W (hu:NV W u ((mkRat k d).num)) (hv:qM W v (zI d / (Nat.gcd (zI k.natAbs) (zI d))))=>zHi (q:=mkRat k d) hu (by first|exact hv|(rw [hden];exact hv))))<|zD) fun Q' hQ a w8 s=> ?_
  refine zN (CU.agg (fQN (mkRat k d))) ((fQN (mkRat k d)).tS) rfl s kH rfl rfl rfl iiz iiz zY fun a w s=> ?_
  refine y8 (uI 0) rfl s kH iiz fun a w s=> ?_
  refine zA rfl (hQ _ _ ?_)
  refine tK ?_
  exact wR s (CU.agg (fQN (mkRat k d))) rfl kH rfl rfl (y5 _) (fun cs v W h1 h2=>⟨_,_,rfl,h1,h2⟩)
 ·have hlt: ∀x,x<BB^zL3->x<BB^zL3:=fun x hx=>hx
  have hden:(mkRat k d).den=d / (Nat.gcd k.natAbs d):=zCf k d hd0
  have hnum: ∀W u,UV W zL3 u (if decide (k<0) then -((((k).natAbs / (Nat.gcd k.natAbs d)):Nat):Int) else ((((k).natAbs / (Nat.gcd k.natAbs d)):Nat):Int))->Calls prog 49 #[u] W (zGp W (mkRat k d).num):=fun W u hu=>by
   have:=zFK hu dA
   rw [zDT k d hd0] at this
   exact this
  refine tM ?_
  refine tJ ?_
  refine zB 5 ((56, .X (fNV k) 1)::(57, .Z (qW ((k).natAbs)))::(58, .Z (fLV m d))::(59, .Z (qW (Nat.gcd k.natAbs d)))::(11, .u (qW (Nat.gcd k.natAbs d))):: []) hmix s kH
   (oc (zR (C:=cg (fNV k)) 1 kH)<|oc (jP (C:=cg (fNV k)) (k:=1) kH (h:=zGT))<|oc zC<|oc (zL zE zTn (fun u0 u1 W hb (h0:qM W u0 ((k).natAbs)) (h1:LV W m u1 d)=>zPZ (qM.lv (m:=m) h0 bk) h1 oO))<|oc zG<|zD) fun a w9 s=> ?_
  refine zA rfl ?_
  refine tJ ?_
  refine zB 11 ((61, .X (fNV k) 1)::(62, .Z (qW ((k).natAbs)))::(63, .Z (qW (Nat.gcd k.natAbs d)))::(64, .Z (zDL (qW (((k).natAbs) / (Nat.gcd k.natAbs d))) (qW (((k).natAbs) % (Nat.gcd k.natAbs d))) (uI 0)))::(60, .Z (zDL (qW (((k).natAbs) / (Nat.gcd k.natAbs d))) (qW (((k).natAbs) % (Nat.gcd k.natAbs d))) (uI 0)))::(65, .Z (qW (((k).natAbs) / (Nat.gcd k.natAbs d))))::(66, .Z (qW (((k).natAbs) % (Nat.gcd k.natAbs d))))::(67, .Z (uI 0))::(12, .u (qW (((k).natAbs) / (Nat.gcd k.natAbs d))))::(13, .Z (qW (((k).natAbs) % (Nat.gcd k.natAbs d))))::(14, .Z (uI 0)):: []) hmix s kH
   (oc (zR (C:=cg (fNV k)) 1 kH)<|oc (jP (C:=cg (fNV k)) (k:=1) kH (h:=zGT))<|oc zC<|oc (zL zE zRZ (fun u0 u1 W hb (h0:qM W u0 ((k).natAbs)) (h1:qM W u1 (Nat.gcd k.natAbs d))=>hdiv W u0 u1 _ (qM.lv (m:=m) h0 bk) h1))<|oc zC<|oc (zD9 (A:=(qW (((k).natAbs) / (Nat.gcd k.natAbs d))).tS) (B:=(qW (((k).natAbs) % (Nat.gcd k.natAbs d))).tS) (C:=(uI 0).tS) iiz)<|oc (zD8 (A:=(qW (((k).natAbs) / (Nat.gcd k.natAbs d))).tS) (B:=(qW (((k).natAbs) % (Nat.gcd k.natAbs d))).tS) (C:=(uI 0).tS) iiz)<|oc (zD7 (A:=(qW (((k).natAbs) / (Nat.gcd k.natAbs d))).tS) (B:=(qW (((k).natAbs) % (Nat.gcd k.natAbs d))).tS) (C:=(uI 0).tS) iiz)<|oc zG<|oc zG<|oc zG<|zD) fun a w10 s=> ?_
  refine zA rfl ?_
  refine tJ ?_
  refine zB 10 ((69, .Z (fLV m d))::(70, .Z (qW (Nat.gcd k.natAbs d)))::(71, .Z (zDL (qW (d / (Nat.gcd k.natAbs d))) (qW (d % (Nat.gcd k.natAbs d))) (uI 0)))::(68, .Z (zDL (qW (d / (Nat.gcd k.natAbs d))) (qW (d % (Nat.gcd k.natAbs d))) (uI 0)))::(72, .Z (qW (d / (Nat.gcd k.natAbs d))))::(73, .Z (qW (d % (Nat.gcd k.natAbs d))))::(74, .Z (uI 0))::(15, .u (qW (d / (Nat.gcd k.natAbs d))))::(16, .Z (qW (d % (Nat.gcd k.natAbs d))))::(17, .Z (uI 0)):: []) hmix s kH
   (oc zC<|oc zC<|oc (zL zE zRZ (fun u0 u1 W hb (h0:LV W m u0 d) (h1:qM W u1 (Nat.gcd k.natAbs d))=>hdiv W u0 u1 _ h0 h1))<|oc zC<|oc (zD9 (A:=(qW (d / (Nat.gcd k.natAbs d))).tS) (B:=(qW (d % (Nat.gcd k.natAbs d))).tS) (C:=(uI 0).tS) iiz)<|oc (zD8 (A:=(qW (d / (Nat.gcd k.natAbs d))).tS) (B:=(qW (d % (Nat.gcd k.natAbs d))).tS) (C:=(uI 0).tS) iiz)<|oc (zD7 (A:=(qW (d / (Nat.gcd k.natAbs d))).tS) (B:=(qW (d % (Nat.gcd k.natAbs d))).tS) (C:=(uI 0).tS) iiz)<|oc zG<|oc zG<|oc zG<|zD) fun a w11 s=> ?_
  refine zA rfl ?_
  refine tJ ?_
  replace s:=s.drop [5]
  refine zB 7 ((75, .X (fNV k) 0)::(76, .Z (uB (decide (k<0))))::(77, .Z (qW (((k).natAbs) / (Nat.gcd k.natAbs d))))::(78, .Z (fUV zL3 (if decide (k<0) then -((((k).natAbs) / (Nat.gcd k.natAbs d):Nat):Int) else ((((k).natAbs) / (Nat.gcd k.natAbs d):Nat):Int))))::(79, .Z (fNV ((mkRat k d).num)))::(80, .Z (qW (d / (Nat.gcd k.natAbs d))))::(81, .u (fQN (mkRat k d))):: []) hmix s kH
   (oc (zR (C:=cg (fNV k)) 0 kH)<|oc (jP (C:=cg (fNV k)) (k:=0) kH (h:=zLp))<|oc zC<|oc (yR (fun u v W (hu:u= .bool (decide (k<0))) (hv:qM W v (((k).natAbs) / (Nat.gcd k.natAbs d)))=>zOe hu hv (hlt _ (by first|exact tL (tW _ _) (zAE _)|exact hk64|exact tL (tW _ _) (tP bk (zU1 y6 (tO hm dA)))))))<|oc (zH zE zQF (fun u0 W hb (h0:UV W zL3 u0 (if decide (k<0) then -((((k).natAbs) / (Nat.gcd k.natAbs d):Nat):Int) else ((((k).natAbs) / (Nat.gcd k.natAbs d):Nat):Int)))=>hnum W u0 (h0:UV W zL3 u0 _)))<|oc zC<|oc (yR (fun u v W (hu:NV W u ((mkRat k d).num)) (hv:qM W v (d / (Nat.gcd k.natAbs d)))=>zHi (q:=mkRat k d) hu (by first|exact hv|(rw [hden];exact hv))))<|zD) fun a w12 s=> ?_
  refine zN (CU.agg (fQN (mkRat k d))) ((fQN (mkRat k d)).tS) rfl s kH rfl rfl rfl iiz iiz zY fun a w s=> ?_
  refine y8 (uI 0) rfl s kH iiz fun a w s=> ?_
  refine zA rfl ?_
  refine tK ?_
  exact wR s (CU.agg (fQN (mkRat k d))) rfl kH rfl rfl (y5 _) (fun cs v W h1 h2=>⟨_,_,rfl,h1,h2⟩)
theorem zHM {W:Wi} {m:Nat} {v v':Wj} {k:Int} {d:Nat} (h:UV W m v k) (h':LV W m v' d) (hm:m<=2000):Calls prog 50 #[v,v'] W (Ret W (zAB (fQN (mkRat k d)) (fI (if d=0 then 30 else 0))).tS):=by
 by_cases hd:d=0
 ·rw [if_pos hd]
  exact zPQ h h' hm hd
 ·rw [if_neg hd]
  exact zPR h h' hm oO
end Go.Proofs.Wd

namespace Go.Proofs.Wd
open Tryz
set_option maxRecDepth 100000
open Go.RowKit Lb
theorem zNi {W:Wi} {m:Nat} {v:Wj} {k:Int} {d:Nat} (h:QVp m k d v W) (hm:m<=2000):Calls prog 26 #[v] W (Ret W (fQN (mkRat k d)).tS):=by
 refine yE [(fQV m k d).tS] func26 rfl kH ⟨h,trivial⟩ fun a s=> ?_
 refine tJ ?_
 refine zB 0 [] hmix s kH
  zD fun a w1 s=> ?_
 refine yV (CU.agg (fQV m k d)) rfl s kH (fun v W h=>zEE h) fun b1 a w s=> ?_
 refine zW (CU.len 3) (cs:=zR3) kH rfl s kH (fun W=>rfl) rfl fun b2 a w s=> ?_
 refine zA rfl ?_
 refine tJ ?_
 refine zB 8 ((6, .X (fQV m k d) 0)::(7, .Z (fUV m k))::(8, .X (fQV m k d) 2)::(9, .Z (fLV m d))::(10, .Z (zAB (fQN (mkRat k d)) (uI (if d=0 then 30 else 0))))::(5, .Z (zAB (fQN (mkRat k d)) (uI (if d=0 then 30 else 0))))::(11, .u (fQN (mkRat k d)))::(12, .u (uI (if d=0 then 30 else 0))):: []) hmix s kH
  (oc (zR (C:=cg (fQV m k d)) 0 kH)<|oc (yG (C:=cg (fQV m k d)) (k:=0) 2 kH (h:=zOI))<|oc (zR (C:=cg (fQV m k d)) 2 kH)<|oc (jP (C:=cg (fQV m k d)) (k:=2) kH (h:=zKS))<|oc (zL zE zQE (fun u0 u1 W hb (h0:UV W m u0 k) (h1:LV W m u1 d)=>zHM h0 h1 hm))<|oc zC<|oc (zA3 (A:=(fQN (mkRat k d)).tS) (B:=(uI (if d=0 then 30 else 0)).tS) iiz)<|oc (zA2 (A:=(fQN (mkRat k d)).tS) (B:=(uI (if d=0 then 30 else 0)).tS) iiz)<|zD) fun a w2 s=> ?_
 refine zW (CU.len 3) (cs:=zR3) kH rfl s kH (fun W=>rfl) rfl fun b3 a w s=> ?_
 refine zN (CU.agg (fQN (mkRat k d))) ((fQN (mkRat k d)).tS) rfl s kH rfl rfl rfl iiz iiz zY fun a w s=> ?_
 refine y8 (uI (if d=0 then 30 else 0)) rfl s kH iiz fun a w s=> ?_
 refine zA rfl ?_
 refine tJ ?_
 refine zB 1 ((13, .u (fQN (mkRat k d))):: []) hmix s kH
  (oc (zJ (f:=fQN (mkRat k d)) 3 kH (hz:=y5 _))<|zD) fun a w3 s=> ?_
 refine zN (CU.agg (fQN (mkRat k d))) ((fQN (mkRat k d)).tS) rfl s kH rfl rfl rfl iiz iiz zY fun a w s=> ?_
 refine zA rfl ?_
 refine tK ?_
 exact wJ s (CU.agg (fQN (mkRat k d))) rfl kH rfl rfl (y5 _) (fun cs W h=>h)
theorem zCx {W:Wi} {m:Nat} {v:Wj} {q:Rat} (h:RVp m q v W) (hm:m<=2000):Calls prog 26 #[v] W (Ret W (fQN q).tS):=by
 obtain ⟨k,d,h1,rfl⟩:=h
 exact zNi h1 hm
theorem zPO {W:Wi} {m:Nat} {u v:Wj} {p q:Rat} (h:QNp p u W) (h':QNp q v W) (hp:QB p m) (hq:QB q m) (hm:m<=990):Calls prog 72 #[u,v] W (Ret W (fQN (p+q)).tS):=by
 have hnew: ∀W u0 u1,NV W u0 (((p).num*((q).den:Int))+((q).num*((p).den:Int)))->qM W u1 ((p).den*(q).den)->Calls prog 50 #[u0,u1] W (Ret W (zAB (fQN (p+q)) UF.any).tS):=fun W u0 u1 h0 h1=>by
  have:=zHM (m:=m+m+1) (h0.uv' (hp.num_add hq)) (h1.lv (tP (hp.den_mul hq) (zU1 y6 oO))) oO
  rw [<-Rat.add_def' p q] at this
  exact this.mono fun e w' ⟨v,e1,⟨x,y,e2,h2,_⟩,hb⟩=>⟨v,e1,⟨x,y,e2,h2,trivial⟩,hb⟩
 refine yE [(fQN p).tS,(fQN q).tS] func72 rfl kH ⟨h,h',trivial⟩ fun a s=> ?_
 refine tJ ?_
 refine zB 0 [] hmix s kH
  zD fun a w1 s=> ?_
 refine yV (CU.agg (fQN p)) rfl s kH (fun v W h=>zON h) fun b2 a w s=> ?_
 refine yV (CU.agg (fQN q)) rfl s kH (fun v W h=>zON h) fun b3 a w s=> ?_
 refine zW (CU.len 3) (cs:=zR3) kH rfl s kH (fun W=>rfl) rfl fun b4 a w s=> ?_
 refine zA rfl ?_
 refine tJ ?_
 have so:=s.old;have sg:=s.gr
 refine zAg (fun i=> [24].contains i) [⟨25,5,29, [.bool false, .slice none 0 0, .slice none 0 0],wF w 29 (CU.len 3)⟩] 26 ((8, .X (fQN p) 0)::(9, .Z (fNV ((p).num)))::(10, .X (fQN q) 2)::(11, .Z (qW ((q).den)))::(12, .Z (fNV ((q).den:Int)))::(13, .s (zJK (m+m) [(p).num,((q).den:Int)]))::(14, .Z (fNV ((p).num*((q).den:Int))))::(15, .X (fQN q) 0)::(16, .Z (fNV ((q).num)))::(17, .X (fQN p) 2)::(18, .Z (qW ((p).den)))::(19, .Z (fNV ((p).den:Int)))::(20, .s (zJK (m+m) [(q).num,((p).den:Int)]))::(21, .Z (fNV ((q).num*((p).den:Int))))::(22, .s (zJK (m+m) [((p).num*((q).den:Int)),((q).num*((p).den:Int))]))::(23, .Z (fNV (((p).num*((q).den:Int))+((q).num*((p).den:Int)))))::(24, .X (fQN p) 2)::(25, .Z (qW ((p).den)))::(26, .X (fQN q) 2)::(27, .Z (qW ((q).den)))::(28, .Z (qW ((p).den*(q).den)))::(29, .Z (zAB (fQN (p+q)) (UF.any)))::(7, .Z (zAB (fQN (p+q)) (UF.any)))::(30, .u (fQN (p+q)))::(5, .s (wF w 29 (CU.len 3))):: []) hmix s (fmz ⟨⟨by show 25<26;decide, .tail _ (.tail _ (.tail _ (.tail _ (.tail _ (.tail _ (.tail _ (.tail _ (.tail _ zFh)))))))),⟨_,_,_,rfl⟩,by kernel_rfl,jE (fun _=>rfl) rfl⟩,fnz⟩) kH
  (oc (zR (C:=cg (fQN p)) 0 kH)<|oc (yG (C:=cg (fQN p)) (k:=0) 2 kH (h:=zBr))<|oc (zR (C:=cg (fQN q)) 2 kH)<|oc (jP (C:=cg (fQN q)) (k:=2) kH (h:=zAV))<|oc (zH zE zN3 (fun u0 W hb (h0:qM W u0 ((q).den))=>zIR h0))<|oc (yM (fun u v W (hu:NV W u ((p).num)) (hv:NV W v ((q).den:Int))=>zAY (NV.uv' hu (Bd.mono (hp).1 (m':=(m+m)) (by first|omega|decide))) (NV.uv' hv (Bd.mono (zAb hq.2) (m':=(m+m)) (by first|omega|decide)))))<|oc (zH zE zL9 (fun u0 W hb (h0:ISV W (m+m) u0 [(p).num,((q).den:Int)])=>zED h0 (by show (m+m)*2+(m+m)+1<=40000;omega) fL fL))<|oc (zR (C:=cg (fQN q)) 0 kH)<|oc (yG (C:=cg (fQN q)) (k:=0) 2 kH (h:=zBr))<|oc (zR (C:=cg (fQN p)) 2 kH)<|oc (jP (C:=cg (fQN p)) (k:=2) kH (h:=zAV))<|oc (zH zE zN3 (fun u0 W hb (h0:qM W u0 ((p).den))=>zIR h0))<|oc (yM (fun u v W (hu:NV W u ((q).num)) (hv:NV W v ((p).den:Int))=>zAY (NV.uv' hu (Bd.mono (hq).1 (m':=(m+m)) (by first|omega|decide))) (NV.uv' hv (Bd.mono (zAb hp.2) (m':=(m+m)) (by first|omega|decide)))))<|oc (zH zE zL9 (fun u0 W hb (h0:ISV W (m+m) u0 [(q).num,((p).den:Int)])=>zED h0 (by show (m+m)*2+(m+m)+1<=40000;omega) fL fL))<|oc (yM (fun u v W (hu:NV W u ((p).num*((q).den:Int))) (hv:NV W v ((q).num*((p).den:Int)))=>zAY (NV.uv' hu (Bd.mul (hp).1 (zAb hq.2))) (NV.uv' hv (Bd.mul (hq).1 (zAb hp.2)))))<|oc (zH zE zTx (fun u0 W hb (h0:ISV W (m+m) u0 [((p).num*((q).den:Int)),((q).num*((p).den:Int))])=>zPX h0 oO fL fL))<|oc (zR (C:=cg (fQN p)) 2 kH)<|oc (jP (C:=cg (fQN p)) (k:=2) kH (h:=zAV))<|oc (zR (C:=cg (fQN q)) 2 kH)<|oc (jP (C:=cg (fQN q)) (k:=2) kH (h:=zAV))<|oc (zL zE zR2 (fun u0 u1 W hb (h0:qM W u0 ((p).den)) (h1:qM W u1 ((q).den))=>zOD (qM.lv (m:=m) h0 hp.2) (qM.lv (m:=m) h1 hq.2) oO))<|oc (zL zE zQE (fun u0 u1 W hb (h0:NV W u0 (((p).num*((q).den:Int))+((q).num*((p).den:Int)))) (h1:qM W u1 ((p).den*(q).den))=>hnew W u0 u1 h0 h1))<|oc zC<|oc (zA3 (A:=(fQN (p+q)).tS) (B:=(UF.any).tS) iiz)<|oc (zA2 (A:=(fQN (p+q)).tS) (B:=(UF.any).tS) iiz)<|oc (zAz (cs:=zR3) kH (jE (fun _=>rfl) rfl))<|zD) fun Q' hQ a w2 s hr hd=> ?_
 obtain ⟨b5,_,e5,s⟩:=s.adoptA false 5 (hr (_,_) (.tail _ (.tail _ (.tail _ (.tail _ (.tail _ (.tail _ (.tail _ (.tail _ (.tail _ zFh)))))))))) sg (fun y hy=> .inl (so y hy))
 refine zN (CU.agg (fQN (p+q))) ((fQN (p+q)).tS) rfl s kH rfl rfl rfl iiz iiz zY fun a w s=> ?_
 refine y8 UF.any rfl s kH (fun _ _ _=>trivial) fun a w s=> ?_
 refine zA rfl (hQ _ _ ?_)
 refine tJ ?_
 refine zB 1 ((32, .u (fQN (p+q))):: []) hmix s kH
  (oc (zJ (f:=fQN (p+q)) 3 kH (hz:=y5 _))<|zD) fun a w3 s=> ?_
 refine zN (CU.agg (fQN (p+q))) ((fQN (p+q)).tS) rfl s kH rfl rfl rfl iiz iiz zY fun a w s=> ?_
 refine zA rfl ?_
 refine tK ?_
 exact wJ s (CU.agg (fQN (p+q))) rfl kH rfl rfl (y5 _) (fun cs W h=>h)
theorem zSX {W:Wi} {m:Nat} {v:Wj} {q:Rat} (h:RVp m q v W) (hm:m<=990) (hm0:0<m):Calls prog 87 #[v] W (Ret W (fQN (-q)).tS):=by
 have hq:QB q m:=h.qb hm0
 refine yE [(fRV m q).tS] func87 rfl kH ⟨h,trivial⟩ fun a s=> ?_
 refine tJ ?_
 refine zB 0 [] hmix s kH
  zD fun a w1 s=> ?_
 refine yV (CU.agg (fRV m q)) rfl s kH (fun v W h=>zAu h) fun b1 a w s=> ?_
 refine zW (CU.len 3) (cs:=zR3) kH rfl s kH (fun W=>rfl) rfl fun b2 a w s=> ?_
 refine zA rfl ?_
 refine tJ ?_
 refine zB 2 ((3, .Z (fRV m q))::(4, .u (fQN q)):: []) hmix s kH
  (oc (zJ (f:=fRV m q) 3 kH (hz:=yQ _ _))<|oc (zH zE zJQ (fun u0 W hb (h0:RVp m q u0 W)=>zCx h0 oO))<|zD) fun a w2 s=> ?_
 refine zN (CU.agg (fQN q)) ((fQN q).tS) rfl s kH rfl rfl rfl (yQ _ _) iiz zY fun a w s=> ?_
 refine zA rfl ?_
 refine tJ ?_
 refine yT [] 6 ((5, .X (fQN q) 0)::(6, .Z (fNV ((q).num)))::(7, .Z (fNV (-(q).num)))::(8, .X (fQN q) 2)::(9, .Z (qW ((q).den)))::(10, .u (fQN (-q))):: []) hmix s kH
  (oc (zR (C:=cg (fQN q)) 0 kH)<|oc (yG (C:=cg (fQN q)) (k:=0) 2 kH (h:=zBr))<|oc (zH zE zTw (fun u0 W hb (h0:NV W u0 ((q).num))=>zPV (NV.uv' h0 (hq).1) oO))<|oc (zR (C:=cg (fQN q)) 2 kH)<|oc (jP (C:=cg (fQN q)) (k:=2) kH (h:=zAV))<|oc (yR (fun u v W (hu:NV W u (-(q).num)) (hv:qM W v ((q).den))=>zHi (q:= -q) hu hv))<|zD) fun Q' hQ a w3 s=> ?_
 refine zN (CU.agg (fQN (-q))) ((fQN (-q)).tS) rfl s kH rfl rfl rfl iiz iiz zY fun a w s=> ?_
 refine zA rfl (hQ _ _ ?_)
 refine tK ?_
 exact wJ s (CU.agg (fQN (-q))) rfl kH rfl rfl (y5 _) (fun cs W h=>h)
theorem zPS {W:Wi} {m:Nat} {u v:Wj} {p q:Rat} (h:RVp m p u W) (h':RVp m q v W) (hm:m<=990) (hm0:0<m):Calls prog 9 #[u,v] W (Ret W (fI (qsg p q)).tS):=by
 have hp:QB p m:=h.qb hm0
 have hq:QB q m:=h'.qb hm0
 refine yE [(fRV m p).tS,(fRV m q).tS] func9 rfl kH ⟨h,h',trivial⟩ fun a s=> ?_
 refine tJ ?_
 refine zB 0 [] hmix s kH
  zD fun a w1 s=> ?_
 refine yV (CU.agg (fRV m p)) rfl s kH (fun v W h=>zAu h) fun b2 a w s=> ?_
 refine yV (CU.agg (fRV m q)) rfl s kH (fun v W h=>zAu h) fun b3 a w s=> ?_
 refine y8 (uI 0) rfl s kH iiz fun a w s=> ?_
 refine zA rfl ?_
 refine tJ ?_
 refine yT [] 4 ((5, .Z (fRV m p))::(6, .u (fQN p))::(7, .Z (fRV m q))::(8, .u (fQN q)):: []) hmix s kH
  (oc (zJ (f:=fRV m p) 3 kH (hz:=yQ _ _))<|oc (zH zE zJQ (fun u0 W hb (h0:RVp m p u0 W)=>zCx h0 oO))<|oc (zJ (f:=fRV m q) 3 kH (hz:=yQ _ _))<|oc (zH zE zJQ (fun u0 W hb (h0:RVp m q u0 W)=>zCx h0 oO))<|zD) fun Q' hQ a w2 s=> ?_
 refine zN (CU.agg (fQN p)) ((fQN p).tS) rfl s kH rfl rfl rfl (yQ _ _) iiz zY fun a w s=> ?_
 refine zN (CU.agg (fQN q)) ((fQN q).tS) rfl s kH rfl rfl rfl (yQ _ _) iiz zY fun a w s=> ?_
 refine zA rfl (hQ _ _ ?_)
 refine tJ ?_
 replace s:=s.drop [4]
 refine zB 17 ((9, .X (fQN p) 0)::(10, .Z (fNV ((p).num)))::(11, .X (fQN q) 2)::(12, .Z (qW ((q).den)))::(13, .Z (fNV ((q).den:Int)))::(14, .s (zJK (m+m) [(p).num,((q).den:Int)]))::(15, .Z (fNV ((p).num*((q).den:Int))))::(16, .X (fQN q) 0)::(17, .Z (fNV ((q).num)))::(18, .X (fQN p) 2)::(19, .Z (qW ((p).den)))::(20, .Z (fNV ((p).den:Int)))::(21, .s (zJK (m+m) [(q).num,((p).den:Int)]))::(22, .Z (fNV ((q).num*((p).den:Int))))::(23, .Z (fNV (((p).num*((q).den:Int)) - ((q).num*((p).den:Int)))))::(24, .Z (uI (qsg p q)))::(4, .u (uI (qsg p q))):: []) hmix s kH
  (oc (zR (C:=cg (fQN p)) 0 kH)<|oc (yG (C:=cg (fQN p)) (k:=0) 2 kH (h:=zBr))<|oc (zR (C:=cg (fQN q)) 2 kH)<|oc (jP (C:=cg (fQN q)) (k:=2) kH (h:=zAV))<|oc (zH zE zN3 (fun u0 W hb (h0:qM W u0 ((q).den))=>zIR h0))<|oc (yM (fun u v W (hu:NV W u ((p).num)) (hv:NV W v ((q).den:Int))=>zAY (NV.uv' hu (Bd.mono (hp).1 (m':=(m+m)) (by first|omega|decide))) (NV.uv' hv (Bd.mono (zAb hq.2) (m':=(m+m)) (by first|omega|decide)))))<|oc (zH zE zL9 (fun u0 W hb (h0:ISV W (m+m) u0 [(p).num,((q).den:Int)])=>zED h0 (by show (m+m)*2+(m+m)+1<=40000;omega) fL fL))<|oc (zR (C:=cg (fQN q)) 0 kH)<|oc (yG (C:=cg (fQN q)) (k:=0) 2 kH (h:=zBr))<|oc (zR (C:=cg (fQN p)) 2 kH)<|oc (jP (C:=cg (fQN p)) (k:=2) kH (h:=zAV))<|oc (zH zE zN3 (fun u0 W hb (h0:qM W u0 ((p).den))=>zIR h0))<|oc (yM (fun u v W (hu:NV W u ((q).num)) (hv:NV W v ((p).den:Int))=>zAY (NV.uv' hu (Bd.mono (hq).1 (m':=(m+m)) (by first|omega|decide))) (NV.uv' hv (Bd.mono (zAb hp.2) (m':=(m+m)) (by first|omega|decide)))))<|oc (zH zE zL9 (fun u0 W hb (h0:ISV W (m+m) u0 [(q).num,((p).den:Int)])=>zED h0 (by show (m+m)*2+(m+m)+1<=40000;omega) fL fL))<|oc (zL zE zTF (fun u0 u1 W hb (h0:NV W u0 ((p).num*((q).den:Int))) (h1:NV W u1 ((q).num*((p).den:Int)))=>zPU (NV.uv' h0 (Bd.mul (hp).1 (zAb hq.2))) (NV.uv' h1 (Bd.mul (hq).1 (zAb hp.2))) oO))<|oc (zH zE zTG (fun u0 W hb (h0:NV W u0 (((p).num*((q).den:Int)) - ((q).num*((p).den:Int))))=>zGf (zNl (NV.uv' h0 (Bd.sub (Bd.mul (hp).1 (zAb hq.2)) (Bd.mul (hq).1 (zAb hp.2)))) oO)))<|oc zG<|zD) fun a w3 s=> ?_
 refine zA rfl ?_
 refine tK ?_
 exact wH s (t:=4) rfl iiz
theorem zFI {W:Wi} {m:Nat} {u v:Wj} {p q:Rat} (h:RVp m p u W) (h':RVp m q v W) (hm:m<=990) (hm0:0<m):Calls prog 18 #[u,v] W (Ret W (fB (qsg p q==0)).tS):=by
 refine yE [(fRV m p).tS,(fRV m q).tS] func18 rfl kH ⟨h,h',trivial⟩ fun a s=> ?_
 refine tJ ?_
 refine zB 0 [] hmix s kH
  zD fun a w1 s=> ?_
 refine yV (CU.agg (fRV m p)) rfl s kH (fun v W h=>zAu h) fun b2 a w s=> ?_
 refine yV (CU.agg (fRV m q)) rfl s kH (fun v W h=>zAu h) fun b3 a w s=> ?_
 refine y8 (uB false) rfl s kH iiz fun a w s=> ?_
 refine zA rfl ?_
 refine tJ ?_
 replace s:=s.drop [4]
 refine zB 5 ((5, .Z (fRV m p))::(6, .Z (fRV m q))::(7, .Z (uI (qsg p q)))::(8, .Z (uB ((qsg p q)==0)))::(4, .u (uB ((qsg p q)==0))):: []) hmix s kH
  (oc (zJ (f:=fRV m p) 3 kH (hz:=yQ _ _))<|oc (zJ (f:=fRV m q) 3 kH (hz:=yQ _ _))<|oc (zL zE zUJ (fun u0 u1 W hb (h0:RVp m p u0 W) (h1:RVp m q u1 W)=>zPS h0 h1 hm hm0))<|oc (zT .i64 (qsg p q) 0 ((qsg p q)==0) iiz iiz rfl rfl)<|oc zG<|zD) fun a w2 s=> ?_
 refine zA rfl ?_
 refine tK ?_
 exact wH s (t:=4) rfl iiz
theorem zPP {W:Wi} {m:Nat} {u v:Wj} {p q:Rat} (h:RVp m p u W) (h':RVp m q v W) (hm:m<=990) (hm0:0<m):Calls prog 43 #[u,v] W (Ret W (zAB (fQN (p / q)) (fI (if q=0 then 30 else 0))).tS):=by
 have hp:QB p m:=h.qb hm0
 have hq:QB q m:=h'.qb hm0
 have bk2:Bd (if decide ((q).num<0) then -((q).den:Int) else ((q).den:Int)) m:=by split;exact (zAb hq.2).neg;exact zAb hq.2
 have hval:mkRat ((p).num*(if decide ((q).num<0) then -((q).den:Int) else ((q).den:Int))) ((p).den*(q).num.natAbs)=p / q:=zKL p q
 have herr:((p).den*(q).num.natAbs=0)=(q=0):=by rw [Nat.mul_eq_zero,Int.natAbs_eq_zero,Rat.num_eq_zero];have:=p.den_pos;simp;omega
 have hnew: ∀W u0 u1,NV W u0 ((p).num*(if decide ((q).num<0) then -((q).den:Int) else ((q).den:Int)))->qM W u1 ((p).den*(q).num.natAbs)->Calls prog 50 #[u0,u1] W (Ret W (zAB (fQN (p / q)) (fI (if q=0 then 30 else 0))).tS):=fun W u0 u1 h0 h1=>by
  have:=zHM (m:=m+m) (h0.uv' (Bd.mul hp.1 bk2)) (h1.lv (zDE hp.2 hq.1)) oO
  simp only [hval,herr] at this
  exact this
 refine yE [(fRV m p).tS,(fRV m q).tS] func43 rfl kH ⟨h,h',trivial⟩ fun a s=> ?_
 refine tJ ?_
 refine zB 0 [] hmix s kH
  zD fun a w1 s=> ?_
 refine yV (CU.agg (fRV m p)) rfl s kH (fun v W h=>zAu h) fun b2 a w s=> ?_
 refine yV (CU.agg (fRV m q)) rfl s kH (fun v W h=>zAu h) fun b3 a w s=> ?_
 refine zW (CU.len 3) (cs:=zR3) kH rfl s kH (fun W=>rfl) rfl fun b4 a w s=> ?_
 refine y8 (uI 0) rfl s kH iiz fun a w s=> ?_
 refine zA rfl ?_
 refine tJ ?_
 refine yT [] 4 ((6, .Z (fRV m p))::(7, .u (fQN p))::(8, .Z (fRV m q))::(9, .u (fQN q)):: []) hmix s kH
  (oc (zJ (f:=fRV m p) 3 kH (hz:=yQ _ _))<|oc (zH zE zJQ (fun u0 W hb (h0:RVp m p u0 W)=>zCx h0 oO))<|oc (zJ (f:=fRV m q) 3 kH (hz:=yQ _ _))<|oc (zH zE zJQ (fun u0 W hb (h0:RVp m q u0 W)=>zCx h0 oO))<|zD) fun Q' hQ a w2 s=> ?_
 refine zN (CU.agg (fQN p)) ((fQN p).tS) rfl s kH rfl rfl rfl (yQ _ _) iiz zY fun a w s=> ?_
 refine zN (CU.agg (fQN q)) ((fQN q).tS) rfl s kH rfl rfl rfl (yQ _ _) iiz zY fun a w s=> ?_
 refine zA rfl (hQ _ _ ?_)
 refine tJ ?_
 replace s:=s.drop [5]
 refine yT [] 19 ((10, .X (fQN p) 0)::(11, .Z (fNV ((p).num)))::(12, .X (fQN q) 0)::(13, .X (fQN q) 0)::(14, .Z (uB (decide ((q).num<0))))::(15, .X (fQN q) 2)::(16, .Z (qW ((q).den)))::(17, .Z (fUV m (if decide ((q).num<0) then -((q).den:Int) else ((q).den:Int))))::(18, .s (zJK (m+m) [(p).num,(if decide ((q).num<0) then -((q).den:Int) else ((q).den:Int))]))::(19, .Z (fNV ((p).num*(if decide ((q).num<0) then -((q).den:Int) else ((q).den:Int)))))::(20, .X (fQN p) 2)::(21, .Z (qW ((p).den)))::(22, .X (fQN q) 0)::(23, .X (fQN q) 1)::(24, .Z (qW ((q).num.natAbs)))::(25, .Z (qW ((p).den*(q).num.natAbs)))::(26, .Z (zAB (fQN (p / q)) (uI (if q=0 then 30 else 0))))::(27, .u (fQN (p / q)))::(28, .u (uI (if q=0 then 30 else 0))):: []) hmix s kH
  (oc (zR (C:=cg (fQN p)) 0 kH)<|oc (yG (C:=cg (fQN p)) (k:=0) 2 kH (h:=zBr))<|oc (zR (C:=cg (fQN q)) 0 kH)<|oc (yP (C:=cg (fQN q)) 0 0 kH)<|oc (jP (C:=cg (fQN q)) (k:=0) kH (h:=zOM))<|oc (zR (C:=cg (fQN q)) 2 kH)<|oc (jP (C:=cg (fQN q)) (k:=2) kH (h:=zAV))<|oc (yR (fun u v W (hu:u= .bool (decide ((q).num<0))) (hv:qM W v ((q).den))=>zOe hu hv hq.2))<|oc (yM (fun u v W (hu:NV W u ((p).num)) (hv:UV W m v (if decide ((q).num<0) then -((q).den:Int) else ((q).den:Int)))=>zAY (NV.uv' hu (Bd.mono (hp).1 (m':=(m+m)) (by first|omega|decide))) (UV.mono hv (m':=(m+m)) (by first|omega|decide))))<|oc (zH zE zL9 (fun u0 W hb (h0:ISV W (m+m) u0 [(p).num,(if decide ((q).num<0) then -((q).den:Int) else ((q).den:Int))])=>zED h0 (by show (m+m)*2+(m+m)+1<=40000;omega) fL fL))<|oc (zR (C:=cg (fQN p)) 2 kH)<|oc (jP (C:=cg (fQN p)) (k:=2) kH (h:=zAV))<|oc (zR (C:=cg (fQN q)) 0 kH)<|oc (yP (C:=cg (fQN q)) 0 1 kH)<|oc (jP (C:=cg (fQN q)) (k:=1) kH (h:=zOO))<|oc (zL zE zR2 (fun u0 u1 W hb (h0:qM W u0 ((p).den)) (h1:qM W u1 ((q).num.natAbs))=>zOD (qM.lv (m:=m) h0 hp.2) (qM.lv (m:=m) h1 hq.1) oO))<|oc (zL zE zQE (fun u0 u1 W hb (h0:NV W u0 ((p).num*(if decide ((q).num<0) then -((q).den:Int) else ((q).den:Int)))) (h1:qM W u1 ((p).den*(q).num.natAbs))=>hnew W u0 u1 h0 h1))<|oc (zA3 (A:=(fQN (p / q)).tS) (B:=(uI (if q=0 then 30 else 0)).tS) iiz)<|oc (zA2 (A:=(fQN (p / q)).tS) (B:=(uI (if q=0 then 30 else 0)).tS) iiz)<|zD) fun Q' hQ a w3 s=> ?_
 refine zN (CU.agg (fQN (p / q))) ((fQN (p / q)).tS) rfl s kH rfl rfl rfl iiz iiz zY fun a w s=> ?_
 refine y8 (uI (if q=0 then 30 else 0)) rfl s kH iiz fun a w s=> ?_
 refine zA rfl (hQ _ _ ?_)
 refine tK ?_
 exact wR s (CU.agg (fQN (p / q))) rfl kH rfl rfl (y5 _) (fun cs v W h1 h2=>⟨_,_,rfl,h1,h2⟩)
end Go.Proofs.Wd

namespace Go.Proofs.Wd
open Tryz
set_option maxRecDepth 100000
open Go.RowKit Lb
theorem zLx {W:Wi} {b o:Nat} {cs ds:List Wj} (k:Nat) (h:Mem W b o cs) (hd: ∀j u,ds[j]?=some u->cs[k+j]?=some u):Mem W b (o+k) ds:=fun j u hj=>by
 have:=h (k+j) u (hd j u hj)
 rwa [<-zVt] at this
abbrev rvs (m:Nat) (qs:List Rat):List CU:=qs.map fun q=>CU.agg (fRV m q)
theorem zPC {m:Nat} {qs:List Rat} {k:Nat} (h:k<qs.length):(rvs m qs)[k]?=some (CU.agg (fRV m (qAt qs k))):=by
 rw [zU0,tQ h]
 simp [qAt,h]
theorem zP3 {qs:List Rat} {k:Nat} (h:k<qs.length):qAt qs k∈qs:=by
 simp [qAt,h]
theorem zIH {m:Nat} {q:Rat} {v:Wj} {W:Wi} (h:RVp m q v W): ∃s A n c D i j,v= .agg #[.bool s, .slice A n c, .slice D i j]:=by
 obtain ⟨k,d,h1,_⟩:=h
 exact zB5 h1
theorem zKm {u v:Wj} {W:Wi} {m:Nat} {p q:Rat} (hu:RVp m p u W) (hv:RVp m q v W): ∃e cs,yI prog 54 2 [(0,u),(1,v)]=some (e,cs)/\(SF.row 3 (rvs m [p,q])).p (.slice (some ⟨W.heap.size,0,none⟩) 2 2) (W.alloc (.cells cs e)):=by
 obtain ⟨s,A,n,c,D,i,j,rfl⟩:=zIH hu
 obtain ⟨s',A',n',c',D',i',j',rfl⟩:=zIH hv
 refine ⟨_,_,zOA s s' A A' D D' n n' c c' i i' j j',some ⟨W.heap.size,0,none⟩,2,rfl,tU _,by decide,fun e=>(by cases e),fun x C hx=> ?_⟩
 have hb:=zCo W (.cells #[.bool s, .slice A n c, .slice D i j, .bool s', .slice A' n' c', .slice D' i' j'] 29)
 have hm:=zBt W #[.bool s, .slice A n c, .slice D i j, .bool s', .slice A' n' c', .slice D' i' j'] 29
 rcases (by have:=(tT.1 hx).1;simp at this;omega:x=0∨x=1) with rfl|rfl
 ·obtain rfl:CU.agg (fRV m p)=C:=by simpa using hx
  exact ⟨W.heap.size,0, [.bool s, .slice A n c, .slice D i j],rfl,zLx 0 hm (fun j u hj=>by match j with|0=>exact hj|1=>exact hj|2=>exact hj|j+3=>simp at hj),(fRV m p).tS.st _ _ _ hu hb⟩
 ·obtain rfl:CU.agg (fRV m q)=C:=by simpa using hx
  exact ⟨W.heap.size,0, [.bool s', .slice A' n' c', .slice D' i' j'],rfl,zLx 3 hm (fun j u hj=>by match j with|0=>exact hj|1=>exact hj|2=>exact hj|j+3=>simp at hj),(fRV m q).tS.st _ _ _ hv hb⟩
theorem zPT {W:Wi} {m:Nat} {v:Wj} {qs:List Rat} (M:Nat) (h:(SF.row 3 (rvs m qs)).p v W) (_hm0:0<m) (hmM:m<=M) (hM:M<=990) (hl:qs.length<=1000000) (hq: ∀q,q∈qs->QB q m) (hp: ∀k,k<qs.length->QB (zCX qs k) M):Calls prog 44 #[v] W (Ret W (fQN (zCX qs qs.length)).tS):=by
 refine yE [SF.row 3 (rvs m qs)] func44 rfl kH ⟨h,trivial⟩ fun a s=> ?_
 refine tJ ?_
 refine zB 0 [] hmix s kH
  zD fun a w1 s=> ?_
 refine zW (CU.len 3) (cs:=zR3) kH rfl s kH (fun W=>rfl) rfl fun b2 a w s=> ?_
 refine zA rfl ?_
 refine tJ ?_
 refine zB 1 ((5, .u (fQN ((0:Int):Rat))):: []) hmix s kH
  (oc (zH zE zGd (fun u0 W hb (h0:u0= .int .i64 0)=>zC9 0 h0 dA))<|zD) fun a w2 s=> ?_
 refine zW (CU.len 3) (cs:=zR3) kH rfl s kH (fun W=>rfl) rfl fun b3 a w s=> ?_
 refine zN (CU.agg (fQN ((0:Int):Rat))) ((fQN ((0:Int):Rat)).tS) rfl s kH rfl rfl rfl iiz iiz zY fun a w s=> ?_
 refine zA rfl ?_
 refine tJ ?_
 refine tJ ?_
 refine zB 1 ((4, .u (uI 0)):: []) hmix s kH
  (oc zG<|zD) fun a w3 s=> ?_
 refine zA rfl ?_
 refine tN ?_
 refine zEt 3 (fun p=>CU.agg (fQN (zCX qs p))) (fun p=>p<=qs.length) (fun p=> [(0, .o (SF.row 3 (rvs m qs))),(4, .u (fI ((p:Nat):Int)))]) (fun p=>qs.length - p) (0:Nat) (tS _) (s.keepK _ (fmz ⟨mz2,fmz ⟨.head _,fnz⟩⟩)) rfl fun p a w hx s=> ?_
 refine tJ ?_
 refine tJ ?_
 refine zB 4 ((6, .Z (fI (p:Int)))::(7, .s (SF.row 3 (rvs m qs)))::(8, .Z (uI ((rvs m qs).length:Int)))::(9, .u (uB (decide ((p:Int)<((rvs m qs).length:Int))))):: []) hmix s kH
  (oc zC<|oc zC<|oc (zCb (z:=3) (Cs:=rvs m qs) kH iiz (fun _=>rfl))<|oc (zT .i64 (p:Int) ((rvs m qs).length:Int) (decide ((p:Int)<((rvs m qs).length:Int))) iiz iiz rfl rfl)<|zD) fun a w4 s=> ?_
 refine zA rfl ?_
 refine StS.cond s (decide ((p:Int)<((rvs m qs).length:Int))) iiz (fun e=> ?_) (fun e=> ?_)
 ·have hk1:p+1<=qs.length:=by have:=tX e;rw [zVa] at this;omega
  have hx2:=zPC (m:=m) (k:=p) hk1
  have hqp:=hq _ (zP3 (k:=p) hk1)
  refine tM ?_
  refine tJ ?_
  refine tN ?_
  refine yT [1,2] 7 ((12, .Z (fQN (zCX qs p)))::(13, .s (SF.row 3 (rvs m qs)))::(14, .Z (fI (p:Int)))::(15, .Y (fRV m (qAt qs p)))::(16, .Z (fRV m (qAt qs p)))::(17, .Z (fQN (qAt qs p)))::(18, .u (fQN (zCX qs p+qAt qs p))):: []) hmix s kH
   (oc (zJ (f:=fQN (zCX qs p)) 3 kH (hz:=y5 _))<|oc zC<|oc zC<|oc (zBz (z:=3) (Cs:=rvs m qs) (i:=p) (C:=CU.agg (fRV m (qAt qs p))) kH hx2 iiz iiz)<|oc (zJ (f:=fRV m (qAt qs p)) 3 kH (hz:=yQ _ _))<|oc (zH zE zJQ (fun u0 W hb (h0:RVp m (qAt qs p) u0 W)=>zCx h0 oO))<|oc (zL zE zTp (fun u0 u1 W hb (h0:QNp (zCX qs p) u0 W) (h1:QNp (qAt qs p) u1 W)=>zPO h0 h1 (hp p hk1) (hqp.mono oO) oO))<|zD) fun Q' hQ a w5 s=> ?_
  refine zN (CU.agg (fQN (zCX qs p+qAt qs p))) ((fQN (zCX qs p+qAt qs p)).tS) rfl s kH rfl rfl rfl (y5 _) iiz zY fun a w s=> ?_
  refine zA rfl (hQ _ _ ?_)
  refine yF 2 ((10, .Z (fI (p:Int)))::(11, .u (fI ((p+1:Nat):Int))):: []) s kH
   (oc zC<|oc (qA .i64 (p:Int) 1 ((p+1:Nat):Int) iiz iiz (wrap64 _ _ oO oO))<|zD) fun a w6 s=> ?_
  replace s:=s.drop [4]
  refine y8 (fI ((p+1:Nat):Int)) rfl s kH iiz fun a w s=> ?_
  refine zA rfl ?_
  exact ⟨p+1,hk1,(by show qs.length - (p+1)<qs.length - p;omega),s.keepK _ (fmz ⟨mz4,fmz ⟨.head _,fnz⟩⟩)⟩
 ·have hk1:p=qs.length:=by have:=tZ e;rw [zVa] at this;omega
  refine zCS ?_
  refine tJ ?_
  refine zB 1 ((19, .u (fQN (zCX qs p))):: []) hmix s kH
   (oc (zJ (f:=fQN (zCX qs p)) 3 kH (hz:=y5 _))<|zD) fun a w7 s=> ?_
  refine zN (CU.agg (fQN (zCX qs p))) ((fQN (zCX qs p)).tS) rfl s kH rfl rfl rfl iiz iiz zY fun a w s=> ?_
  refine zA rfl ?_
  refine tK ?_
  exact wJ s (CU.agg (fQN (zCX qs p))) rfl kH rfl rfl (y5 _) (fun cs W h=>by rw [hk1] at h;exact h)
theorem zFJ {W:Wi} {m:Nat} {v:Wj} {p q:Rat} (h:(SF.row 3 (rvs m [p,q])).p v W) (hp:QB p m) (hq:QB q m) (hm:m<=990):Calls prog 44 #[v] W (Ret W (fQN (p+q)).tS):=by
 have:=zPT m h hp.pos lr hm fL (fun x hx=>by simp at hx;rcases hx with rfl|rfl;exact hp;exact hq) (fun k hk=>by
  rcases (by simp at hk;omega:k=0∨k=1) with rfl|rfl
  ·exact QB.zero hp.pos
  ·show QB (0+p) _
   rw [Rat.zero_add]
   exact hp)
 rw [show ([p,q]:List Rat).length=2 from rfl,zP1] at this
 exact this
theorem zBg {m:Nat} {q:Rat} (v:Wj) (W:Wi) (h:(fRV m q).p v W): ∃vs:List Wj,v= .agg vs.toArray/\vs.length=3/\(∀u,u∈vs->u.oneCell'=true)/\vs.all zU=true/\(CU.agg (fRV m q)).p vs W:=by
 obtain ⟨k,d,h1,h2⟩:=h
 obtain ⟨vs,e,hl,h3,h4,h5⟩:=zNo v W h1
 exact ⟨vs,e,hl,h3,h4,k,d,h5,h2⟩
theorem zFO {F:Fence} {m:Nat} {P:Wn} {w0:Wi} {ops:Array Oper} {G:Nat->SF} {d:Tmp} {ty:Wk} {pos:String} {aft:Array Edge} {t:Wk} {x y:Wm} {t':Wk} (k:IntKind) (u v r:Int) (hx: ∀q W,(fct G x).p q W->q= .int k u) (hy: ∀q W,(fct G y).p q W->q= .int k v) (hr:k.wrap (u - v)=r) (hd: ∀W,(G d).p (.int k r) W:=by exact fun _=>rfl):qG F m P w0 ops G ⟨some d, .binOp .sub t x y t',ty,pos,aft,none⟩:=
 zDg (.int k u) (.int k v) (.int k r) hx hy (fun W=>by simp [eqGuard]) (fun W=>by simp [binOp,Op.intArith,hr]) hd
theorem zKO {W:Wi} {m:Nat} {u v:Wj} {p q:Rat} (h:RVp m p u W) (h':RVp m q v W) (hm:m<=490) (hm0:0<m):Calls prog 16 #[u,v] W (Ret W (fQN ((p+q) / 2)).tS):=by
 have hp:QB p m:=h.qb hm0
 have hq:QB q m:=h'.qb hm0
 have hq2:QB ((2:Int):Rat) (m+m+1):=QB.mono (m:=1) ⟨by unfold Bd BB;decide+kernel,by unfold BB;decide+kernel⟩ oO
 refine yE [(fRV m p).tS,(fRV m q).tS] func16 rfl kH ⟨h,h',trivial⟩ fun a s=> ?_
 refine tJ ?_
 refine zB 0 [] hmix s kH
  zD fun a w1 s=> ?_
 refine yV (CU.agg (fRV m p)) rfl s kH (fun v W h=>zAu h) fun b2 a w s=> ?_
 refine yV (CU.agg (fRV m q)) rfl s kH (fun v W h=>zAu h) fun b3 a w s=> ?_
 refine zW (CU.len 3) (cs:=zR3) kH rfl s kH (fun W=>rfl) rfl fun b4 a w s=> ?_
 refine zA rfl ?_
 refine tJ ?_
 refine zB 9 ((8, .Z (fRV m p))::(9, .Z (fRV m q))::(10, .s (SF.row 3 (rvs m [p,q])))::(11, .Z (fQN (p+q)))::(12, .Z (fQN ((2:Int):Rat)))::(13, .Z (zAB (fQN ((p+q) / ((2:Int):Rat))) (UF.any)))::(7, .Z (zAB (fQN ((p+q) / ((2:Int):Rat))) (UF.any)))::(14, .u (fQN ((p+q) / ((2:Int):Rat)))):: []) hmix s kH
  (oc (zJ (f:=fRV m p) 3 kH (hz:=yQ _ _))<|oc (zJ (f:=fRV m q) 3 kH (hz:=yQ _ _))<|oc (yM (fun u v W (hu:RVp m p u W) (hv:RVp m q v W)=>zKm hu hv))<|oc (zH zE zQG (fun u0 W hb (h0:(SF.row 3 (rvs m [p,q])).p u0 W)=>zFJ h0 hp hq oO))<|oc (zH zE zGd (fun u0 W hb (h0:u0= .int .i64 2)=>zC9 2 h0 dA))<|oc (zL zE zTA (fun u0 u1 W hb (h0:QNp (p+q) u0 W) (h1:QNp ((2:Int):Rat) u1 W)=>(zPP (wG h0 (hp.add hq)) (wG h1 hq2) oO oO).mono (fun e w' ⟨v,e1,⟨x,y,e2,h2,_⟩,hb⟩=>⟨v,e1,⟨x,y,e2,h2,trivial⟩,hb⟩)))<|oc zC<|oc (zA3 (A:=(fQN ((p+q) / ((2:Int):Rat))).tS) (B:=(UF.any).tS) iiz)<|oc (zA2 (A:=(fQN ((p+q) / ((2:Int):Rat))).tS) (B:=(UF.any).tS) iiz)<|zD) fun a w2 s=> ?_
 refine zW (CU.len 3) (cs:=zR3) kH rfl s kH (fun W=>rfl) rfl fun b5 a w s=> ?_
 refine zN (CU.agg (fQN ((p+q) / ((2:Int):Rat)))) ((fQN ((p+q) / ((2:Int):Rat))).tS) rfl s kH rfl rfl rfl iiz iiz zY fun a w s=> ?_
 refine y8 UF.any rfl s kH (fun _ _ _=>trivial) fun a w s=> ?_
 refine zA rfl ?_
 refine tJ ?_
 refine zB 1 ((16, .u (fQN ((p+q) / ((2:Int):Rat)))):: []) hmix s kH
  (oc (zJ (f:=fQN ((p+q) / ((2:Int):Rat))) 3 kH (hz:=y5 _))<|zD) fun a w3 s=> ?_
 refine zN (CU.agg (fQN ((p+q) / ((2:Int):Rat)))) ((fQN ((p+q) / ((2:Int):Rat))).tS) rfl s kH rfl rfl rfl iiz iiz zY fun a w s=> ?_
 refine zA rfl ?_
 refine tK ?_
 exact wJ s (CU.agg (fQN ((p+q) / ((2:Int):Rat)))) rfl kH rfl rfl (y5 _) (fun cs W h=>h)
abbrev QX.q (x:QX):Rat:=mkRat x.k x.d
theorem zUd {n n' m:Nat} {k:Int} {d:Nat} {v:Wj} {W:Wi} (h:QXp n n' k d v W) (h1:n<=m) (h2:n'<=m):RVp m (mkRat k d) v W:=⟨k,d,zSY h h1 h2,rfl⟩
theorem zHG {W:Wi} {v:Wj} (z:Int) (hv:v= .int .i64 z) (hz: -9223372036854775808<=z/\z<=9223372036854775807):Calls prog 39 #[v] W (Ret W (fQN (z:Rat)).tS):=by
 subst hv
 exact zNb z hz
end Go.Proofs.Wd

namespace Go.Proofs.Wd
open Tryz
set_option maxRecDepth 100000
set_option maxHeartbeats 1000000
open Go.RowKit Lb
theorem zFa {W:Wi} {u v:Wj} {x y:Int} (hu:u= .int .i64 x) (hv:v= .int .i64 y) (hx: -9223372036854775808<=x/\x<=9223372036854775807) (hy: -9223372036854775808<=y/\y<=9223372036854775807):Calls prog 32 #[u,v] W (Ret W (fPN (((x:Int):Rat),((y:Int):Rat))).tS):=by
 refine yE [(uI x).tS,(uI y).tS] func32 rfl kH ⟨hu,hv,trivial⟩ fun a s=> ?_
 refine tJ ?_
 refine zB 0 [] hmix s kH
  zD fun a w1 s=> ?_
 refine zW (CU.len 6) (cs:=zP6) kH rfl s kH (fun W=>rfl) rfl fun b4 a w s=> ?_
 refine zA rfl ?_
 refine tJ ?_
 refine zB 5 ((5, .Z (uI x))::(6, .Z (fQN ((x:Int):Rat)))::(7, .Z (uI y))::(8, .Z (fQN ((y:Int):Rat)))::(9, .u (fPN (((x:Int):Rat),((y:Int):Rat)))):: []) hmix s kH
  (oc zC<|oc (zH zE zGd (fun u0 W hb (h0:u0= .int .i64 x)=>zC9 x h0 hx))<|oc zC<|oc (zH zE zGd (fun u0 W hb (h0:u0= .int .i64 y)=>zC9 y h0 hy))<|oc (yR (fun u v W (hu:QNp ((x:Int):Rat) u W) (hv:QNp ((y:Int):Rat) v W)=>zTU (zA7 _) (zA7 _) hu hv))<|zD) fun a w2 s=> ?_
 refine zN (CU.agg (fPN (((x:Int):Rat),((y:Int):Rat)))) ((fPN (((x:Int):Rat),((y:Int):Rat))).tS) rfl s kH rfl rfl rfl iiz iiz qZ fun a w s=> ?_
 refine zA rfl ?_
 refine tK ?_
 exact wJ s (CU.agg (fPN (((x:Int):Rat),((y:Int):Rat)))) rfl kH rfl rfl (z4 _ _) (fun cs W h=>h)
theorem zEC {m:Nat} {W:Wi} {u v:Wj} {p q:V2} (h1:(fPV m p).p u W) (h2:(fPV m q).p v W) (hp:QB p.1 m/\QB p.2 m) (hq:QB q.1 m/\QB q.2 m) (hm:m<=990):Calls prog 21 #[u,v] W (Ret W (fPN (p.1+q.1,p.2+q.2)).tS):=by
 refine yE [(fPV m p).tS,(fPV m q).tS] func21 rfl kH ⟨h1,h2,trivial⟩ fun a s=> ?_
 refine tJ ?_
 refine zB 0 [] hmix s kH
  zD fun a w1 s=> ?_
 refine yV (CU.agg (fPV m p)) rfl s kH (fun v W h=>q8 h) fun b2 a w s=> ?_
 refine yV (CU.agg (fPV m q)) rfl s kH (fun v W h=>q8 h) fun b3 a w s=> ?_
 refine zW (CU.len 6) (cs:=zP6) kH rfl s kH (fun W=>rfl) rfl fun b4 a w s=> ?_
 refine zA rfl ?_
 refine tJ ?_
 refine yT [] 13 ((5, .X (fPV m p) 0)::(6, .Z (fRV m ((p).1)))::(7, .X (fPV m q) 0)::(8, .Z (fRV m ((q).1)))::(9, .s (SF.row 3 (rvs m [(p).1,(q).1])))::(10, .Z (fQN ((p).1+(q).1)))::(11, .X (fPV m p) 3)::(12, .Z (fRV m ((p).2)))::(13, .X (fPV m q) 3)::(14, .Z (fRV m ((q).2)))::(15, .s (SF.row 3 (rvs m [(p).2,(q).2])))::(16, .Z (fQN ((p).2+(q).2)))::(17, .u (fPN (p.1+q.1,p.2+q.2))):: []) hmix s kH
  (oc (zR (C:=cg (fPV m p)) 0 kH)<|oc (yG (C:=cg (fPV m p)) (k:=0) 3 kH (h:=zHq))<|oc (zR (C:=cg (fPV m q)) 0 kH)<|oc (yG (C:=cg (fPV m q)) (k:=0) 3 kH (h:=zHq))<|oc (yM (fun u v W (hu:RVp m ((p).1) u W) (hv:RVp m ((q).1) v W)=>zKm hu hv))<|oc (zH zE zQG (fun u0 W hb (h0:(SF.row 3 (rvs m [(p).1,(q).1])).p u0 W)=>zFJ h0 hp.1 hq.1 hm))<|oc (zR (C:=cg (fPV m p)) 3 kH)<|oc (yG (C:=cg (fPV m p)) (k:=3) 3 kH (h:=zHp))<|oc (zR (C:=cg (fPV m q)) 3 kH)<|oc (yG (C:=cg (fPV m q)) (k:=3) 3 kH (h:=zHp))<|oc (yM (fun u v W (hu:RVp m ((p).2) u W) (hv:RVp m ((q).2) v W)=>zKm hu hv))<|oc (zH zE zQG (fun u0 W hb (h0:(SF.row 3 (rvs m [(p).2,(q).2])).p u0 W)=>zFJ h0 hp.2 hq.2 hm))<|oc (yR (fun u v W (hu:QNp ((p).1+(q).1) u W) (hv:QNp ((p).2+(q).2) v W)=>zTU (zA7 _) (zA7 _) hu hv))<|zD) fun Q' hQ a w2 s=> ?_
 refine zN (CU.agg (fPN (p.1+q.1,p.2+q.2))) ((fPN (p.1+q.1,p.2+q.2)).tS) rfl s kH rfl rfl rfl iiz iiz qZ fun a w s=> ?_
 refine zA rfl (hQ _ _ ?_)
 refine tK ?_
 exact wJ s (CU.agg (fPN (p.1+q.1,p.2+q.2))) rfl kH rfl rfl (z4 _ _) (fun cs W h=>h)
theorem zKV {m:Nat} (hm:0<m):QB ((0:Int):Rat) m:=QB.int (by unfold Bd;exact Nat.pow_pos y6) hm
theorem zUB (s:Bool) (A A':Wl Addr) (n n' c c':Nat) (s2:Bool) (B B':Wl Addr) (k k' d d':Nat):yI prog 22 1 [(0, .agg #[.bool s, .slice A n c, .slice A' n' c', .bool s2, .slice B k d, .slice B' k' d'])]=some (31,#[.bool s, .slice A n c, .slice A' n' c', .bool s2, .slice B k d, .slice B' k' d']):=by kernel_rfl
theorem zID {f g:UF} {u:Wj} {W:Wi} (h:(fPT f g).p u W): ∃e cs,yI prog 22 1 [(0,u)]=some (e,cs)/\(SF.row 6 [CU.agg (fPT f g)]).p (.slice (some ⟨W.heap.size,0,none⟩) 1 1) (W.alloc (.cells cs e)):=by
 obtain ⟨s,A,n,c,A',n',c',s2,B,k,d,B',k',d',rfl,h1,h2⟩:=h
 refine ⟨_,_,zUB s A A' n n' c c' s2 B B' k k' d d',some ⟨W.heap.size,0,none⟩,1,rfl,tU _,by decide,fun e=>(by cases e),fun i C hi=> ?_⟩
 have hb:=zCo W (.cells #[.bool s, .slice A n c, .slice A' n' c', .bool s2, .slice B k d, .slice B' k' d'] 31)
 have hm:=zBt W #[.bool s, .slice A n c, .slice A' n' c', .bool s2, .slice B k d, .slice B' k' d'] 31
 obtain rfl:i=0:=by have:=(tT.1 hi).1;simp at this;omega
 obtain rfl:CU.agg (fPT f g)=C:=by simpa using hi
 refine ⟨W.heap.size,0, [.bool s, .slice A n c, .slice A' n' c', .bool s2, .slice B k d, .slice B' k' d'],rfl, ?_,(CU.agg (fPT f g)).us _ _ _ ⟨s,A,n,c,A',n',c',s2,B,k,d,B',k',d',rfl,h1,h2⟩ (zP hb)⟩
 rw [show 0+0*6=0 from rfl]
 exact hm
theorem zIT (f g:UF): ∀C,C∈ [CU.agg (fPT f g)]->CU.ok 6 C:=fun C hC=>by
 obtain rfl:C=CU.agg (fPT f g):=by simpa using hC
 exact zB7 f g
theorem zNv {ps:List V2} {k:Nat} (h:k<ps.length):pns (ps.take (k+1))=pns (ps.take k)++ [CU.agg (fPN (at_ ps k))]:=by
 unfold pns at_
 rw [List.take_add_one,zVu,tY,tQ h]
 rfl
end Go.Proofs.Wd

namespace Go.Proofs.Wd
open Tryz
set_option maxRecDepth 100000
set_option maxHeartbeats 1000000
open Go.RowKit Lb
def TB (m:Nat) (g:V2->Bool) (xs:Array Wj) (W:Wi) (R:SF):Prop:= ∃u p,xs=#[u]/\(fPV m p).p u W/\R=(fB (g p)).tS
def zEY {α:Type} (g:α->Bool) (l:List α):Int:=if l.any g then ((l.findIdx g:Nat):Int) else -1
theorem zI7 {α:Type} (g:α->Bool) (l:List α):decide (zEY g l≥0)=l.any g:=by
 unfold zEY
 cases h:l.any g with
 |true=>simp
 |false=>simp
theorem zQp {g:V2->Bool} {l:List V2} {k:Nat} (hk:k<l.length) (h0: ∀j,j<k->g (at_ l j)=false) (h1:g (at_ l k)=true):zEY g l=(k:Int):=by
 have ha:l.any g=true:=zU8.2 ⟨_,jO hk,h1⟩
 unfold zEY
 rw [if_pos ha]
 congr 1
 have ge: ∀j,at_ l j=l.getD j (0,0):=fun _=>rfl
 refine (List.findIdx_eq hk).2 ⟨by have:=h1;unfold at_ at this;rwa [tY,tQ hk] at this,fun j hj=> ?_⟩
 have:=h0 j hj
 unfold at_ at this
 rwa [tY,tQ (Nat.lt_trans hj hk)] at this
theorem zLQ {g:V2->Bool} {l:List V2} (h0: ∀j,j<l.length->g (at_ l j)=false):zEY g l= -1:=by
 unfold zEY
 rw [if_neg]
 intro ha
 obtain ⟨p,hp,e⟩:=zU8.1 ha
 obtain ⟨j,hj,rfl⟩:=zGY hp
 rw [h0 j hj] at e
 cases e
theorem zS5 {m:Nat} {g:V2->Bool} {W:Wi} {l f:Wj} {ps:List V2} (hl:(SF.row 6 (pvs m ps)).p l W) (hf:(SF.fn prog (TB m g)).p f W) (hn:ps.length<=1000000):Calls prog 145 #[l,f] W (Ret W (fI (zEY g ps)).tS):=by
 refine yE [SF.row 6 (pvs m ps),SF.fn prog (TB m g)] func145 rfl kH ⟨hl,hf,trivial⟩ fun a s=> ?_
 refine tJ ?_
 refine zB 1 ((4, .u (uI 0)):: []) hmix s kH
  (oc zG<|zD) fun a w1 s=> ?_
 refine zA rfl ?_
 refine tJ ?_
 refine tJ ?_
 refine zB 3 ((6, .s (SF.row 6 (pvs m ps)))::(7, .u (uI ((pvs m ps).length:Int)))::(8, .u (uI 0)):: []) hmix s kH
  (oc zC<|oc (zCb (z:=6) (Cs:=pvs m ps) kH iiz (fun _=>rfl))<|oc zC<|zD) fun a w2 s=> ?_
 refine zA rfl ?_
 refine tN ?_
 refine zBp (fun k=>k<=ps.length/\ ∀j,j<k->g (at_ ps j)=false) (fun k=> [(0, .o (SF.row 6 (pvs m ps))),(1, .o (SF.fn prog (TB m g))),(7, .u (uI ((pvs m ps).length:Int))),(8, .u (uI ((k:Nat):Int)))]) (fun k=>ps.length - k) (0:Nat) (⟨tS _,fun j hj=>absurd hj (zVe _)⟩) (s.keepK _ (fmz ⟨mz3,fmz ⟨mz4,fmz ⟨.head _,fmz ⟨mz1,fnz⟩⟩⟩⟩)) fun k a w hx s=> ?_
 refine tJ ?_
 refine zB 1 ((9, .u (uB (decide ((k:Int)<((pvs m ps).length:Int))))):: []) hmix s kH
  (oc (zT .i64 (k:Int) ((pvs m ps).length:Int) (decide ((k:Int)<((pvs m ps).length:Int))) iiz iiz rfl rfl)<|zD) fun a w3 s=> ?_
 refine zA rfl ?_
 refine tJ ?_
 refine StS.cond s (decide ((k:Int)<((pvs m ps).length:Int))) iiz (fun e=> ?_) (fun e=> ?_)
 ·have hk:k<ps.length:=by have:=tX e;simp at this;omega
  refine tM ?_
  refine tJ ?_
  refine tN ?_
  refine tJ ?_
  refine zB 2 ((10, .Z (uI (k:Int)))::(5, .u (uI (k:Int))):: []) hmix s kH
   (oc zC<|oc zG<|zD) fun a w4 s=> ?_
  refine zA rfl ?_
  refine tJ ?_
  refine zB 6 ((11, .s (SF.fn prog (TB m g)))::(12, .s (SF.row 6 (pvs m ps)))::(13, .Z (uI (k:Int)))::(14, .Y (fPV m (at_ ps k)))::(15, .Z (fPV m (at_ ps k)))::(16, .u (uB (g (at_ ps k)))):: []) hmix s kH
   (oc zC<|oc zC<|oc zC<|oc (zBz (z:=6) (Cs:=pvs m ps) (i:=k) (C:=CU.agg (fPV m (at_ ps k))) kH (jU hk) iiz iiz)<|oc (zJ (f:=fPV m (at_ ps k)) 6 kH (hz:=z4 _ _))<|oc (zOS (TB m g) zE iiz (fun u W hb (h:(fPV m (at_ ps k)).p u W)=>⟨u,_,rfl,h,rfl⟩))<|zD) fun a w5 s=> ?_
  refine zA rfl ?_
  refine StS.cond s (g (at_ ps k)) iiz (fun e=> ?_) (fun e=> ?_)
  ·refine tJ ?_
   refine zB 2 ((17, .Z (uI (k:Int)))::(4, .u (uI (k:Int))):: []) hmix s kH
    (oc zC<|oc zG<|zD) fun a w6 s=> ?_
   refine zA rfl ?_
   refine tK ?_
   exact wH s (t:=4) rfl (fun v W h=>by rw [zQp hk hx.2 e];exact h)
  ·refine tM ?_
   refine yF 1 ((18, .u (uI ((k+1:Nat):Int))):: []) s kH
    (oc (qA .i64 (k:Int) 1 ((k+1:Nat):Int) iiz iiz (wrap64 _ _ oO oO))<|zD) fun a w7 s=> ?_
   replace s:=s.drop [8]
   refine zCt (uI ((k+1:Nat):Int)) rfl s kH zC kH fun a w s=> ?_
   refine zA rfl ?_
   exact ⟨k+1,⟨hk,fun j hj=>by rcases zVf (zVg hj) with h|h;exact hx.2 j h;rw [h];exact e⟩,(by show ps.length - (k+1)<ps.length - k;omega),s.keepK _ (fmz ⟨mz5,fmz ⟨mz6,fmz ⟨mz7,fmz ⟨.head _,fnz⟩⟩⟩⟩)⟩
 ·have hk:k=ps.length:=by have h7:=tZ e;have h8:=hx.1;simp at h7;omega
  refine zCS ?_
  refine tJ ?_
  refine zB 1 ((4, .u (uI (-1))):: []) hmix s kH
   (oc zG<|zD) fun a w8 s=> ?_
  refine zA rfl ?_
  refine tK ?_
  exact wH s (t:=4) rfl (fun v W h=>by rw [zLQ (fun j hj=>hx.2 j oO)];exact h)
theorem zUL {m:Nat} {g:V2->Bool} {W:Wi} {l f:Wj} {ps:List V2} (hl:(SF.row 6 (pvs m ps)).p l W) (hf:(SF.fn prog (TB m g)).p f W) (hn:ps.length<=1000000):Calls prog 133 #[l,f] W (Ret W (fB (ps.any g)).tS):=by
 refine yE [SF.row 6 (pvs m ps),SF.fn prog (TB m g)] func133 rfl kH ⟨hl,hf,trivial⟩ fun a s=> ?_
 refine tJ ?_
 refine zB 1 ((4, .u (uB false)):: []) hmix s kH
  (oc zG<|zD) fun a w1 s=> ?_
 refine zA rfl ?_
 refine tJ ?_
 replace s:=s.drop [4]
 refine zB 5 ((5, .s (SF.row 6 (pvs m ps)))::(6, .s (SF.fn prog (TB m g)))::(7, .Z (uI (zEY g ps)))::(8, .Z (uB (decide (zEY g ps≥0))))::(4, .u (uB (decide (zEY g ps≥0)))):: []) hmix s kH
  (oc zC<|oc zC<|oc (zL zE zR9 (fun u0 u1 W hb (h0:(SF.row 6 (pvs m ps)).p u0 W) (h1:(SF.fn prog (TB m g)).p u1 W)=>zS5 h0 h1 hn))<|oc (zT .i64 (zEY g ps) 0 (decide (zEY g ps≥0)) iiz iiz rfl rfl)<|oc zG<|zD) fun a w2 s=> ?_
 refine zA rfl ?_
 refine tK ?_
 exact wH s (t:=4) rfl (fun v W h=>by rw [<-zI7];exact h)
theorem zM2 (q:Rat):decide (q.num.sign>0)=decide (0<q):=by
 have h0:0<q↔0<q.num:=by rw [Rat.lt_iff];simp
 rw [zVv,h0]
 constructor
 ·intro h;exact Int.sign_eq_one_iff_pos.1 (by have:=Int.sign_trichotomy q.num;omega)
 ·intro h;rw [Int.sign_eq_one_of_pos h];decide
theorem zK4 {m:Nat} {W:Wi} {u v x:Wj} {y z p:V2} (h1:(fPV m p).p u W) (h2:(wB (cg (fPN (z.1 - y.1,z.2 - y.2)))).p v W) (h3:(wB (cg (fPV m y))).p x W) (hp:QB p.1 m/\QB p.2 m) (hy:QB y.1 m/\QB y.2 m) (hz:QB z.1 m/\QB z.2 m) (hm:m<=60) (hm0:0<m) (hT:Tab W):Calls prog 134 #[u,v,x] W (Ret W (fB (decide (0<crs y z p))).tS):=by
 have hd:QB (z.1 - y.1) (2*m+1)/\QB (z.2 - y.2) (2*m+1):=⟨(hz.1.sub hy.1).mono oO,(hz.2.sub hy.2).mono oO⟩
 have hs:QB (p.1 - y.1) (2*m+1)/\QB (p.2 - y.2) (2*m+1):=⟨(hp.1.sub hy.1).mono oO,(hp.2.sub hy.2).mono oO⟩
 refine yE [(fPV m p).tS,wB (cg (fPN (z.1 - y.1,z.2 - y.2))),wB (cg (fPV m y))] func134 rfl kH ⟨h1,h2,h3,trivial⟩ fun a s=> ?_
 refine tJ ?_
 refine zB 0 [] hmix s kH
  zD fun a w1 s=> ?_
 refine yV (CU.agg (fPV m p)) rfl s kH (fun v W h=>q8 h) fun b3 a w s=> ?_
 refine y8 (uB false) rfl s kH iiz fun a w s=> ?_
 refine zA rfl ?_
 refine tJ ?_
 replace s:=s.drop [4]
 refine zB 8 ((5, .Z (fPN (z.1 - y.1,z.2 - y.2)))::(6, .Z (fPV m p))::(7, .Z (fPV m y))::(8, .Z (fPN (p.1 - y.1,p.2 - y.2)))::(9, .Z (fQN ((z.1 - y.1)*(p.2 - y.2) - (z.2 - y.2)*(p.1 - y.1))))::(10, .Z (uI (((z.1 - y.1)*(p.2 - y.2) - (z.2 - y.2)*(p.1 - y.1)).num.sign)))::(11, .Z (uB (decide (((z.1 - y.1)*(p.2 - y.2) - (z.2 - y.2)*(p.1 - y.1)).num.sign>0))))::(4, .u (uB (decide (((z.1 - y.1)*(p.2 - y.2) - (z.2 - y.2)*(p.1 - y.1)).num.sign>0)))):: []) hmix s kH
  (oc (zJ (f:=fPN (z.1 - y.1,z.2 - y.2)) 6 kH (hz:=z4 _ _))<|oc (zJ (f:=fPV m p) 6 kH (hz:=z4 _ _))<|oc (zJ (f:=fPV m y) 6 kH (hz:=z4 _ _))<|oc (zL zE zN2 (fun u0 u1 W hb (h0:(fPV m p).p u0 W) (h1:(fPV m y).p u1 W)=>zIp (p:=p) (q:=y) h0 h1 oO hm0 (hT.below (s.up hb))))<|oc (zL zE zL7 (fun u0 u1 W hb (h0:(fPN (z.1 - y.1,z.2 - y.2)).p u0 W) (h1:(fPN (p.1 - y.1,p.2 - y.2)).p u1 W)=>zC0 (p:=(z.1 - y.1,z.2 - y.2)) (q:=(p.1 - y.1,p.2 - y.2)) (zCH (p:=(z.1 - y.1,z.2 - y.2)) (m:=(2*m+1)) (hd.1.mono (by first|omega|decide)) (hd.2.mono (by first|omega|decide)) h0) (zCH (p:=(p.1 - y.1,p.2 - y.2)) (m:=(2*m+1)) (hs.1.mono (by first|omega|decide)) (hs.2.mono (by first|omega|decide)) h1) hd hs oO oO (hT.below (s.up hb))))<|oc (zH zE zQB (fun u0 W hb (h0:QNp ((z.1 - y.1)*(p.2 - y.2) - (z.2 - y.2)*(p.1 - y.1)) u0 W)=>zHL (wG (m:=2*(2*m+1)+2*(2*m+1)+1) h0 (((hd.1.mul hs.2).sub (hd.2.mul hs.1)).mono oO)) oO oO (hT.below (s.up hb))))<|oc (zT .i64 (((z.1 - y.1)*(p.2 - y.2) - (z.2 - y.2)*(p.1 - y.1)).num.sign) 0 (decide (((z.1 - y.1)*(p.2 - y.2) - (z.2 - y.2)*(p.1 - y.1)).num.sign>0)) iiz iiz rfl rfl)<|oc zG<|zD) fun a w2 s=> ?_
 refine zA rfl ?_
 refine tK ?_
 exact wH s (t:=4) rfl (fun v W h=>by rw [show decide (0<crs y z p)=decide (((z.1 - y.1)*(p.2 - y.2) - (z.2 - y.2)*(p.1 - y.1)).num.sign>0) from (zM2 _).symm];exact h)
theorem zA8 {m:Nat} (hm0:0<m) {p:V2} {v:Wj} {W:Wi} (h:(fPV m p).p v W):QB p.1 m/\QB p.2 m:=by
 obtain ⟨_,_,_,_,_,_,_,_,_,_,_,_,_,_,_,h1,h2⟩:=h
 exact ⟨h1.qb hm0,h2.qb hm0⟩
theorem zK3 (y z:V2) (ps:List V2):q9 y z ps= !(ps.any fun p=>decide (0<crs y z p)):=by
 unfold q9
 induction ps with
 |nil=>rfl
 |cons p ps ih=>rw [List.all_cons,List.any_cons,ih,Bool.not_or]
theorem zOj {m:Nat} {W:Wi} {u v l:Wj} {y z:V2} {ps:List V2} (h1:(fPV m y).p u W) (h2:(fPV m z).p v W) (hl:(SF.row 6 (pvs m ps)).p l W) (hm:m<=60) (hm0:0<m) (hn:ps.length<=1000000) (hT:Tab W):Calls prog 111 #[u,v,l] W (Ret W (fB (q9 y z ps)).tS):=by
 have hy:=zA8 hm0 h1
 have hz:=zA8 hm0 h2
 refine yE [(fPV m y).tS,(fPV m z).tS,SF.row 6 (pvs m ps)] func111 rfl kH ⟨h1,h2,hl,trivial⟩ fun a s=> ?_
 refine tJ ?_
 refine zB 0 [] hmix s kH
  zD fun a w1 s=> ?_
 refine yV (CU.agg (fPV m y)) rfl s kH (fun v W h=>q8 h) fun b3 a w s=> ?_
 refine yV (CU.agg (fPV m z)) rfl s kH (fun v W h=>q8 h) fun b4 a w s=> ?_
 refine y8 (uB false) rfl s kH iiz fun a w s=> ?_
 refine zA rfl ?_
 refine tJ ?_
 refine zB 3 ((8, .Z (fPV m z))::(9, .Z (fPV m y))::(10, .u (fPN (z.1 - y.1,z.2 - y.2))):: []) hmix s kH
  (oc (zJ (f:=fPV m z) 6 kH (hz:=z4 _ _))<|oc (zJ (f:=fPV m y) 6 kH (hz:=z4 _ _))<|oc (zL zE zN2 (fun u0 u1 W hb (h0:(fPV m z).p u0 W) (h1:(fPV m y).p u1 W)=>zIp (p:=z) (q:=y) h0 h1 oO hm0 (hT.below (s.up hb))))<|zD) fun a w2 s=> ?_
 refine zW (CU.len 6) (cs:=zP6) kH rfl s kH (fun W=>rfl) rfl fun b7 a w s=> ?_
 refine zN (CU.agg (fPN (z.1 - y.1,z.2 - y.2))) ((fPN (z.1 - y.1,z.2 - y.2)).tS) rfl s kH rfl rfl rfl iiz iiz qZ fun a w s=> ?_
 refine zA rfl ?_
 refine tJ ?_
 replace s:=s.drop [6]
 refine zB 5 ((11, .s (SF.row 6 (pvs m ps)))::(12, .s (SF.fn prog (TB m (fun p=>decide (0<crs y z p)))))::(13, .Z (uB (ps.any (fun p=>decide (0<crs y z p)))))::(14, .Z (uB (!(ps.any (fun p=>decide (0<crs y z p))))))::(6, .u (uB (!(ps.any (fun p=>decide (0<crs y z p)))))):: []) hmix s kH
  (oc zC<|oc (zND (fun u v W hb (h:(wD b7 (cg (fPN (z.1 - y.1,z.2 - y.2)))).p u W) (h':(wD b3 (cg (fPV m y))).p v W)=>zFj (enters_of func134 kH rfl) (fun W' hb' args R ⟨u1,p,e,h1,hR⟩=>by subst e hR;simpa using zK4 h1 ((wB _).st _ _ _ h.2 hb') ((wB _).st _ _ _ h'.2 hb') (zA8 hm0 h1) hy hz hm hm0 ((hT.below (s.up hb)).below hb'))))<|oc (zL zE zSa (fun u0 u1 W hb (h0:(SF.row 6 (pvs m ps)).p u0 W) (h1:(SF.fn prog (TB m (fun p=>decide (0<crs y z p)))).p u1 W)=>zUL h0 h1 hn))<|oc (zAr (ps.any (fun p=>decide (0<crs y z p))) iiz (fun _=>rfl))<|oc zG<|zD) fun a w3 s=> ?_
 refine zA rfl ?_
 refine tK ?_
 exact wH s (t:=6) rfl (fun v W h=>by rw [show q9 y z ps= !(ps.any (fun p=>decide (0<crs y z p))) from zK3 y z ps];exact h)
theorem zKZ {ps:List V2} {t:V2} {k:Nat} (h:k<ps.length):pns ((yN ps t).take (k+1))=pns ((yN ps t).take k)++ [CU.agg (fPN (zBb (at_ ps k) t))]:=by
 rw [zNv (by rw [zAM];exact h),zDw h]
theorem zOg {m:Nat} {W:Wi} {l v:Wj} {t:V2} {ps:List V2} (hl:(SF.row 6 (pvs m ps)).p l W) (h1:(fPV m t).p v W) (hm:m<=60) (hm0:0<m) (hps:ps.length<=1000000) (hT:Tab W):Calls prog 81 #[l,v] W (Ret W (wL W 31 6 (pns (yN ps t)))):=by
 refine yE [(UF.eq l).tS,(fPV m t).tS] func81 rfl kH ⟨rfl,h1,trivial⟩ fun a s=> ?_
 replace s:=s.renew [(0, .u (UF.eq l)),(1, .u (fPV m t))] (fmz ⟨.inr ⟨_,rfl, .head _⟩,fmz ⟨.inr ⟨_,rfl,mz1⟩,fnz⟩⟩)
 refine tJ ?_
 refine zB 0 [] hmix s kH
  zD fun a w1 s=> ?_
 refine yV (CU.agg (fPV m t)) rfl s kH (fun v W h=>q8 h) fun b3 a w s=> ?_
 refine y8 (UF.eq (.slice none 0 0)) rfl s kH iiz fun a w s=> ?_
 refine zA rfl ?_
 refine tJ ?_
 refine tJ ?_
 refine zB 3 ((7, .u (UF.eq l))::(8, .u (uI ((pvs m ps).length:Int)))::(9, .u (uI 0)):: []) hmix s kH
  (oc zC<|oc (yZ (z:=6) (Cs:=pvs m ps) kH (fun v W hb h=>(yJ hl h (s.up hb))) (fun _=>rfl))<|oc zC<|zD) fun a w2 s=> ?_
 refine zA rfl ?_
 refine tN ?_
 replace s:StS _ _ _ [⟨3,31,CU.agg (fPV m t),b3,true⟩] _ _ _ _:=s.freeze
 obtain ⟨base,hbase⟩: ∃b,b=w2.heap.size:=⟨_,rfl⟩
 have hb3:b3<base:=by rw [hbase];exact s.old _ (.head _)
 have hb0:W.heap.size<=base:=by rw [hbase];exact s.gr.size
 have hsz0:base<=w2.heap.size:=by rw [hbase];exact tU _
 refine zFy (fun (p:Nat×Wj) w=>p.1<=ps.length/\base<=w.heap.size/\zBJ w base 31 6 p.2 (pns ((yN ps t).take p.1))) (fun p=> [(0, .u (UF.eq l)),(7, .u (UF.eq l)),(8, .u (uI ((pvs m ps).length:Int))),(4, .u (UF.eq (p.2))),(9, .u (uI (p.1:Int)))]) (fun p=>ps.length - p.1) (0, .slice none 0 0) (⟨tS _,hsz0,zBJ.nil _ _ _ _⟩) (s.keepK _ (fmz ⟨mz4,fmz ⟨.head _,fmz ⟨mz1,fmz ⟨mz3,fmz ⟨mz2,fnz⟩⟩⟩⟩⟩)) fun p a w hI s=> ?_
 have s0:=s
 have hlw:=(SF.row 6 (pvs m ps)).st _ _ _ hl s0.below
 have hT0:=hT
 have hT:=hT0.below s0.below
 replace s:=s.reb rfl [(0, .u (UF.eq l)),(7, .u (UF.eq l)),(8, .u (uI ((pvs m ps).length:Int))),(4, .u (UF.eq (p.2))),(9, .u (uI (p.1:Int)))] (fmz ⟨.inl (.head _),fmz ⟨.inl mz1,fmz ⟨.inl mz2,fmz ⟨.inl mz3,fmz ⟨.inl mz4,fnz⟩⟩⟩⟩⟩)
 refine tJ ?_
 refine zB 1 ((10, .u (uB (decide ((p.1:Int)<((pvs m ps).length:Int))))):: []) hmix s kH
  (oc (zT .i64 (p.1:Int) ((pvs m ps).length:Int) (decide ((p.1:Int)<((pvs m ps).length:Int))) iiz iiz rfl rfl)<|zD) fun a w3 s=> ?_
 refine zA rfl ?_
 refine tJ ?_
 refine StS.cond s (decide ((p.1:Int)<((pvs m ps).length:Int))) iiz (fun e=> ?_) (fun e=> ?_)
 ·have hk:p.1<ps.length:=by have:=tX e;simp at this;omega
  refine tM ?_
  refine tJ ?_
  refine tN ?_
  refine tJ ?_
  refine zB 2 ((11, .Y (fPV m (at_ ps p.1)))::(12, .u (fPV m (at_ ps p.1))):: []) hmix s kH
   (oc (yX (z:=6) (Cs:=pvs m ps) (i:=p.1) (C:=CU.agg (fPV m (at_ ps p.1))) kH (jU hk) (fun v W hb h=>(yJ hlw h (s.up hb))) iiz)<|oc (zJ (f:=fPV m (at_ ps p.1)) 6 kH (hz:=z4 _ _))<|zD) fun a w4 s=> ?_
  refine zW (CU.len 6) (cs:=zP6) kH rfl s kH (fun W=>rfl) rfl fun b6 a w s=> ?_
  refine zN (CU.agg (fPV m (at_ ps p.1))) ((fPV m (at_ ps p.1)).tS) rfl s kH rfl rfl rfl iiz iiz qZ fun a w s=> ?_
  refine zA rfl ?_
  refine zCP 5 ((13, .u (UF.eq (p.2)))::(14, .Z (fPV m (at_ ps p.1)))::(15, .Z (fPV m t))::(16, .Z (fPN ((at_ ps p.1).1+t.1,(at_ ps p.1).2+t.2)))::(17, .s (SF.row 6 [CU.agg (fPN ((at_ ps p.1).1+t.1,(at_ ps p.1).2+t.2))])):: []) s kH
   (oc zC<|oc (zJ (f:=fPV m (at_ ps p.1)) 6 kH (hz:=z4 _ _))<|oc (zJ (f:=fPV m t) 6 kH (hz:=z4 _ _))<|oc (zL zE zSj (fun u0 u1 W hb (h0:(fPV m (at_ ps p.1)).p u0 W) (h1:(fPV m t).p u1 W)=>zQ1 (p:=at_ ps p.1) (q:=t) h0 h1 oO hm0 (hT.below (s.up hb))))<|oc (zAP (fun u W (hu:(fPN ((at_ ps p.1).1+t.1,(at_ ps p.1).2+t.2)).p u W)=>zID hu))<|zD) fun a w5 s hr=> ?_
  refine zKh ([CU.agg (fPN ((at_ ps p.1).1+t.1,(at_ ps p.1).2+t.2))]) s0 (s.keepK [(13, .u (UF.eq (p.2))),(12, .u (fPV m (at_ ps p.1))),(10, .u (uB (decide ((p.1:Int)<((pvs m ps).length:Int))))),(0, .u (UF.eq l)),(7, .u (UF.eq l)),(8, .u (uI ((pvs m ps).length:Int))),(4, .u (UF.eq (p.2))),(9, .u (uI (p.1:Int)))] (fmz ⟨.head _,fmz ⟨mz1,fmz ⟨mz2,fmz ⟨mz3,fmz ⟨mz4,fmz ⟨mz5,fmz ⟨mz6,fmz ⟨mz7,fnz⟩⟩⟩⟩⟩⟩⟩⟩)) hb0 hI.2 rfl kH kH kH (s.fct (.tmp 13)) (hr (_,_) mz4) (zIT _ _) (by simp [zAM];omega) (fun q hq hr=>by rcases tV.1 hq with rfl|hq;cases hr;rcases tV.1 hq with rfl|hq;exact hb3;cases hq) fun v' a w hI' s=> ?_
  have s1:=s
  replace s:StS _ _ _ [⟨6,31,CU.agg (fPV m (at_ ps p.1)),b6,true⟩,⟨3,31,CU.agg (fPV m t),b3,true⟩] _ _ _ _:=s.freeze
  replace s:=s.reb rfl [(18, .u (UF.eq v')),(13, .u (UF.eq (p.2))),(12, .u (fPV m (at_ ps p.1))),(10, .u (uB (decide ((p.1:Int)<((pvs m ps).length:Int))))),(0, .u (UF.eq l)),(7, .u (UF.eq l)),(8, .u (uI ((pvs m ps).length:Int))),(4, .u (UF.eq (p.2))),(9, .u (uI (p.1:Int)))] (fmz ⟨.inl (.head _),fmz ⟨.inl mz1,fmz ⟨.inl mz2,fmz ⟨.inl mz3,fmz ⟨.inl mz4,fmz ⟨.inl mz5,fmz ⟨.inl mz6,fmz ⟨.inl mz7,fmz ⟨.inl mz8,fnz⟩⟩⟩⟩⟩⟩⟩⟩⟩)
  replace s:=s.drop [4]
  refine y8 (UF.eq v') rfl s kH iiz fun a w s=> ?_
  refine zA rfl ?_
  refine yF 1 ((19, .u (uI ((p.1+1:Nat):Int))):: []) s kH
   (oc (qA .i64 (p.1:Int) 1 ((p.1+1:Nat):Int) iiz iiz (wrap64 _ _ oO oO))<|zD) fun a w6 s=> ?_
  replace s:=s.drop [9]
  refine zCt (uI ((p.1+1:Nat):Int)) rfl s kH zC kH fun a w s=> ?_
  refine zA rfl ?_
  replace s:=s.popB
  have hbw:=s.below
  replace s:=s1.back (s.keepK [(9, .u (uI ((p.1+1:Nat):Int))),(19, .u (uI ((p.1+1:Nat):Int))),(4, .u (UF.eq v')),(18, .u (UF.eq v')),(13, .u (UF.eq (p.2))),(12, .u (fPV m (at_ ps p.1))),(10, .u (uB (decide ((p.1:Int)<((pvs m ps).length:Int))))),(0, .u (UF.eq l)),(7, .u (UF.eq l)),(8, .u (uI ((pvs m ps).length:Int)))] (fmz ⟨.head _,fmz ⟨mz1,fmz ⟨mz2,fmz ⟨mz3,fmz ⟨mz4,fmz ⟨mz5,fmz ⟨mz6,fmz ⟨mz7,fmz ⟨mz8,fmz ⟨mz9,fnz⟩⟩⟩⟩⟩⟩⟩⟩⟩⟩)) rfl
  exact ⟨(p.1+1,v'),(by show ps.length - (p.1+1)<ps.length - p.1;omega),⟨hk,tO hI'.1 hbw.size,by rw [zKZ hk];exact hI'.2.below hbw⟩,s.keepK _ (fmz ⟨mz7,fmz ⟨mz8,fmz ⟨mz9,fmz ⟨mz2,fmz ⟨.head _,fnz⟩⟩⟩⟩⟩)⟩
 ·have hk:p.1=ps.length:=by have h7:=tZ e;have h8:=hI.1;simp at h7;omega
  refine zCS ?_
  refine tJ ?_
  refine yF 1 ((20, .u (UF.eq (p.2))):: []) s kH
   (oc zC<|zD) fun a w7 s=> ?_
  replace s:=s.drop [4]
  refine y8 (UF.eq (p.2)) rfl s kH iiz fun a w s=> ?_
  refine zA rfl ?_
  refine tK ?_
  exact StS.resN s s0.below rfl (by rw [s.val (.head _)];have:=(hI.2.2.below s.below).mono hb0;rw [hk,zVb (by rw [zAM];exact tU _)] at this;exact this)
end Go.Proofs.Wd

namespace Go.Proofs.Wd
open Tryz
set_option maxRecDepth 100000
set_option maxHeartbeats 1000000
open Go.RowKit Lb
theorem zDo {N:Nat} {w w1:Wi} (hb:Below w.heap.size w w1) (hN:N<=w.heap.size):Itr N w w1:=
 ⟨hb.os,hb.tape,hb.output,hb.size,fun k hk=>hb.block k (tP hk hN),fun k _o ho _=>(hb.block k (zVq.1 ho).1).trans ho,zP hb⟩
theorem zKE {N:Nat} {C:Nat->Prop} {w0 w w1:Wi} (hb:Below w0.heap.size w0 w) (hr:Rnd N C w w1) (hN:w0.heap.size<=N) (hC: ∀k,C k->w0.heap.size<=k):Below w0.heap.size w0 w1:=
 ⟨hr.os.trans hb.os,hr.tape.trans hb.tape,hr.output.trans hb.output,tO hb.size hr.size,fun k hk=>(hr.low k (tP hk hN) (fun h=>by have:=hC k h;omega)).trans (hb.block k hk)⟩
theorem zBq {z:Nat} {Cs:List CU} {v:Wj} {W:Wi} (h:(SF.row z Cs).p v W):v.cells=#[v]/\zU v=true:=by
 obtain ⟨A,c,rfl,_⟩:=h
 exact ⟨rfl,rfl⟩
theorem zOm {W:Wi} {l:Wj} (hlc:l.cells=#[l]/\zU l=true):Calls prog 110 #[l] W (Ret W (zJL W 132 22 (wC [l]))):=by
 refine yE [(UF.eq l).tS] func110 rfl kH ⟨rfl,trivial⟩ fun a s=> ?_
 refine tJ ?_
 refine zB 0 [] hmix s kH
  zD fun a w1 s=> ?_
 refine yV (wC [l]) rfl s kH (fun v W h=>zLO h hlc.1 hlc.2) fun b1 a w s=> ?_
 refine y8 (UF.eq (.nilFunc)) rfl s kH iiz fun a w s=> ?_
 refine zA rfl ?_
 refine tJ ?_
 replace s:=s.drop [2]
 refine zB 2 ((3, .Z (UF.eq (.func (.func 132) #[] #[pO b1 0])))::(2, .u (UF.eq (.func (.func 132) #[] #[pO b1 0]))):: []) hmix s kH
  (oc (zDe (fun u W hb (h:(wD b1 (wC [l]).cf).p u W)=>by rw [h.1];rfl))<|oc zG<|zD) fun a w2 s=> ?_
 refine zA rfl ?_
 refine tK ?_
 obtain ⟨cs,e1,e2,e3⟩:=s.boxAt (c:=1) rfl
 exact StS.resN s (tR _ _) rfl ⟨b1,cs,s.val (.head _),s.inB_new ⟨_, .head _,rfl,rfl⟩,e1,e2,e3⟩
theorem zHg {S:Nat->Prop} {w0 w w1:Wi} (hb:Below w0.heap.size w0 w) (hr:BlS S w w1) (hC: ∀k,S k->w0.heap.size<=k):Below w0.heap.size w0 w1:=
 ⟨hr.os.trans hb.os,hr.tape.trans hb.tape,hr.output.trans hb.output,tO hb.size hr.size,fun k hk=>(hr.block k (tP hk hb.size) (fun h=>by have:=hC k h;omega)).trans (hb.block k hk)⟩
theorem zN4 {w0 w_:Wi} {m b:Nat} {l:Wj} {ps:List V2} {C:Nat->Prop} (hh:w_.heap[b]?=some (.cells #[l] 22 (0,0))) (hl:(SF.row 6 (pvs m ps)).p l w0) (hb0:Below w0.heap.size w0 w_) (hCl: ∀k,C k->k<w_.heap.size) (hC0: ∀k,C k->w0.heap.size<=k) (hCb: ¬C b) (hn:ps.length<=1000000):
  ItC prog 132 #[pO b 0] (fun k=> [fPV m (at_ ps k),fPV m (tn ps k)]) ps.length False C w_:=by
 intro l_ J Z W hwW hbW hkW hJs hZs hend hround hJ0
 have hlc:=zBq hl
 have hw0:w0.heap.size<=w_.heap.size:=hb0.size
 have hbW0:Below w0.heap.size w0 W:=hb0.trans (hbW.mono hb0.size)
 have hlW:=(SF.row 6 (pvs m ps)).st _ _ _ hl hbW0
 have hhW:W.heap[b]?=some (.cells #[l] 22 (0,0)):=(hbW.block b (zVq.1 hh).1).trans hh
 refine zI6 func132 rfl ?_
 have s:=zIz (w:=W) (fn:=f132) (args:=#[.func (.yield l_) #[] #[]]++#[pO b 0]) noS [(0,UF.eq (.func (.yield l_) #[] #[]))] [⟨1,22,wC [l],b,true⟩] kH (fun q hq=>by obtain rfl:=zF5.1 hq;exact ⟨by simp,rfl⟩) ⟨⟨[l],rfl, .inl rfl,hhW,rfl,by simp [hlc.2],fun y hy=>by cases hy⟩,trivial⟩ (fun x hx=>by obtain rfl:=zF5.1 hx;show 1<2;decide)
 generalize ({ tmps:=#[.func (.yield l_) #[] #[]]++#[pO b 0]++Array.replicate (f132.ntmps - (#[.func (.yield l_) #[] #[]]++#[pO b 0]:Array Wj).size) undef,defers:= [] }:Act)=a at s ⊢
 refine tJ ?_
 refine zB 3 ((5, .u (UF.eq l))::(6, .u (uI ((pvs m ps).length:Int)))::(7, .u (uI 0)):: []) hmix s kH
  (oc (qS (C:=(wC [l]).cf) kH (fun _ _ h=>h.2) zCJ)<|oc (yZ (z:=6) (Cs:=pvs m ps) kH (fun v W hb h=>(yJ hlW h (s.up hb))) (fun _=>rfl))<|oc zC<|zD) fun a w1 s=> ?_
 refine zA rfl ?_
 refine tN ?_
 have hJw:J 0 w1:=hJs 0 _ _ hJ0 (zDo s.below lr)
 have hBw0:Below w0.heap.size w0 w1:=hbW0.trans (s.below.mono hbW0.size)
 have hW0:=s.gr.size
 replace s:=(s.keepK [(0, .u (UF.eq (.func (.yield l_) #[] #[]))),(5, .u (UF.eq l)),(6, .u (uI ((pvs m ps).length:Int))),(7, .u (uI ((0:Nat):Int)))] (fmz ⟨mz3,fmz ⟨.head _,fmz ⟨mz1,fmz ⟨mz2,fnz⟩⟩⟩⟩)).self (qX kH)
 refine zCC (fun k a w=>k<=ps.length/\J k w/\Below w0.heap.size w0 w/\W.heap.size<=w.heap.size/\StS (inB [⟨1,22,wC [l],b,true⟩]) w [(0, .u (UF.eq (.func (.yield l_) #[] #[]))),(5, .u (UF.eq l)),(6, .u (uI ((pvs m ps).length:Int))),(7, .u (uI ((k:Nat):Int)))] [⟨1,22,wC [l],b,true⟩] f132.ntmps [] a w) (fun k=>ps.length - k) 0 ⟨tS _,hJw,hBw0,hW0,s⟩ fun k a w ⟨hk,hJ,hBw,hWs,s⟩=> ?_
 have s0:=s
 replace s:=s.toSt (fun q ⟨x,hx,_,hr⟩=>by obtain rfl:=zF5.1 hx;cases hr) rfl
 have hlw:=(SF.row 6 (pvs m ps)).st _ _ _ hl hBw
 refine tJ ?_
 refine zB 1 ((8, .u (uB (decide ((k:Int)<((pvs m ps).length:Int))))):: []) hmix s kH
  (oc (zT .i64 (k:Int) ((pvs m ps).length:Int) (decide ((k:Int)<((pvs m ps).length:Int))) iiz iiz rfl rfl)<|zD) fun a w2 s=> ?_
 refine zA rfl ?_
 refine tJ ?_
 refine StS.cond s (decide ((k:Int)<((pvs m ps).length:Int))) iiz (fun e=> ?_) (fun e=> ?_)
 ·have hkn:k<ps.length:=by have:=tX e;simp at this;omega
  have hkm:(k+1) % ps.length<ps.length:=Nat.mod_lt _ oO
  refine tM ?_
  refine tJ ?_
  refine tN ?_
  refine tJ ?_
  refine zB 3 ((9, .u (uI (k:Int)))::(10, .Y (fPV m (at_ ps k)))::(11, .u (fPV m (at_ ps k))):: []) hmix s kH
   (oc zC<|oc (yX (z:=6) (Cs:=pvs m ps) (i:=k) (C:=CU.agg (fPV m (at_ ps k))) kH (jU hkn) (fun v W hb h=>(yJ hlw h (s.up hb))) iiz)<|oc (zJ (f:=fPV m (at_ ps k)) 6 kH (hz:=z4 _ _))<|zD) fun a w3 s=> ?_
  refine zW (CU.len 6) (cs:=zP6) kH rfl s kH (fun W=>rfl) rfl fun b4 a w s=> ?_
  refine y8 (uI (k:Int)) rfl s kH iiz fun a w s=> ?_
  refine zN (CU.agg (fPV m (at_ ps k))) ((fPV m (at_ ps k)).tS) rfl s kH rfl rfl rfl iiz iiz qZ fun a w s=> ?_
  refine zA rfl ?_
  refine tJ ?_
  refine yT [0,3] 10 ((12, .u (UF.eq (.func (.yield l_) #[] #[])))::(13, .u (fPV m (at_ ps k)))::(14, .Z (UF.eq l))::(15, .Z (uI (k:Int)))::(16, .Z (uI ((k+1:Nat):Int)))::(17, .Z (UF.eq l))::(18, .Z (uI ((pvs m ps).length:Int)))::(19, .Z (uI (((k+1) % ps.length:Nat):Int)))::(20, .Y (fPV m (tn ps k)))::(21, .u (fPV m (tn ps k))):: []) hmix s kH
   (oc zC<|oc (zJ (f:=fPV m (at_ ps k)) 6 kH (hz:=z4 _ _))<|oc (qS (C:=(wC [l]).cf) kH (fun _ _ h=>h.2) zCJ)<|oc zC<|oc (qA .i64 (k:Int) 1 ((k+1:Nat):Int) iiz iiz (wrap64 _ _ oO oO))<|oc (qS (C:=(wC [l]).cf) kH (fun _ _ h=>h.2) zCJ)<|oc (yZ (z:=6) (Cs:=pvs m ps) kH (fun v W hb h=>(yJ hlw h (s.up hb))) (fun _=>rfl))<|oc (zFP .i64 ((k+1:Nat):Int) ((pvs m ps).length:Int) (((k+1) % ps.length:Nat):Int) iiz iiz (by simp only [zVa];omega) (by simp only [zVa];rw [Int.tmod_eq_emod_of_nonneg oO];rfl))<|oc (yX (z:=6) (Cs:=pvs m ps) (i:=((k+1) % ps.length)) (C:=CU.agg (fPV m (tn ps k))) kH (jU hkm) (fun v W hb h=>(yJ hlw h (s.up hb))) iiz)<|oc (zJ (f:=fPV m (tn ps k)) 6 kH (hz:=z4 _ _))<|zD) fun Q' hQ a w4 s=> ?_
  have hJ1:J k w4:=hJs _ _ _ hJ (zDo s.below hWs)
  have hB1:Below w0.heap.size w0 w4:=hBw.trans (s.below.mono hBw.size)
  have hb4:=s.inB_new (q:=b4) ⟨_, .head _,rfl,rfl⟩
  have hws:=s.gr.size
  have hcx: ∀x,x∈([⟨4,31,CU.agg (fPV m (at_ ps k)),b4,false⟩,⟨1,22,wC [l],b,true⟩]:List Bx)-> ¬C x.b:=fun x hx hc=>by
   rcases tV.1 hx with rfl|hx
   ·have:=hCl _ hc;show False;have h9:b4<w_.heap.size:=this;omega
   ·obtain rfl:=zF5.1 hx;exact hCb hc
  refine zFv rfl s iiz kH (qX kH) hcx (hround k _ _ hkn hJ1 ⟨by simp,fun j f hj=> ?_⟩) fun a w bv hr hbv s=> ?_
  ·match j,hj with
   |0,hj=>obtain rfl:=zUZ hj;rw [zTc];exact s.at.sl 13
   |1,hj=>obtain rfl:=zUZ hj;rw [zTb];exact s.at.sl 21
  have hB2:=zKE hB1 hr hw0 hC0
  have sy:=s
  refine zCt (uB (!bv)) rfl s kH (zAr bv iiz (fun _=>rfl)) kH fun a w s=> ?_
  refine zA rfl (hQ _ _ ?_)
  have hsz2:=hr.size
  have hitr:=sy.itr_to (N:=W.heap.size) s.gr (fun x hx hr1=>by rcases tV.1 hx with rfl|hx;show W.heap.size<=b4;omega;obtain rfl:=zF5.1 hx;cases hr1) oO
  refine StS.cond s (!bv) iiz (fun e=> ?_) (fun e=> ?_)
  ·have hz:=hZs _ _ (by rcases hbv with ⟨e2,_⟩|⟨_,hz⟩;rw [e2] at e;cases e;exact hz) hitr
   refine tK ?_
   exact ⟨s.nd, .tuple #[],by simp [results,results132],⟨_,rfl⟩, .inr hz⟩
  ·have hJ2:=hJs _ _ _ (by rcases hbv with ⟨_,hj⟩|⟨e2,_⟩;exact hj;rw [e2] at e;cases e) hitr
   have hB3:=(tR w0.heap.size w0).trans (zHg hB2 s.gr (fun q ⟨x,hx,e1,hr1⟩=>by rcases tV.1 hx with rfl|hx;have e1:b4=q:=e1;omega;obtain rfl:=zF5.1 hx;cases hr1))
   have hW3:=s.gr.size
   have sx:=s
   replace s:=s.self (qX kH)
   refine tM ?_
   refine yF 1 ((24, .u (uI ((k+1:Nat):Int))):: []) s kH
    (oc (qA .i64 (k:Int) 1 ((k+1:Nat):Int) iiz iiz (wrap64 _ _ oO oO))<|zD) fun a w5 s=> ?_
   replace s:=s.drop [7]
   refine zCt (uI ((k+1:Nat):Int)) rfl s kH zC kH fun a w s=> ?_
   refine zA rfl ?_
   have hsz4:=s.gr.size
   have hit2:=sx.itr_to (N:=W.heap.size) s.gr (fun x hx hr1=>by rcases tV.1 hx with rfl|hx;show W.heap.size<=b4;omega;obtain rfl:=zF5.1 hx;cases hr1) oO
   have hB4:=zHg hB3 s.gr (fun q ⟨x,hx,e1,hr1⟩=>by rcases tV.1 hx with rfl|hx;have e1:b4=q:=e1;omega;obtain rfl:=zF5.1 hx;cases hr1)
   exact ⟨k+1,by show ps.length - (k+1)<ps.length - k;omega,hkn,hJs _ _ _ hJ2 hit2,hB4,by omega,((s.keepK _ (fmz ⟨zLr,fmz ⟨zRH,fmz ⟨zS3,fmz ⟨.head _,fnz⟩⟩⟩⟩)).popB).self (qX kH)⟩
 ·have hkn:k=ps.length:=by have h7:=tZ e;simp at h7;omega
  refine zCS ?_
  exact ⟨s.nd, .tuple #[],by simp [results,results132],⟨_,rfl⟩, .inl (by rw [<-hkn];exact hJs _ _ _ hJ (zDo s.below hWs))⟩
end Go.Proofs.Wd

namespace Go.Proofs.Wd
open Tryz
set_option maxRecDepth 100000
set_option maxHeartbeats 1000000
open Go.RowKit Lb
def wE (v:Wj) (P:Prop):CU:=⟨fun cs _=>cs= [v]/\P,fun _ _ _ h _=>h⟩
theorem zDJ {u:Wj} {P:Prop}: ∀cs W,(wE u P).p cs W-> ∃x,cs[0]?=some x/\(UF.eq u).p x W:=fun cs W h=>by
 obtain ⟨rfl,_⟩:=h
 exact ⟨u,rfl,rfl⟩
theorem zCN {b:Bool} {C:CU} {Q:Prop} (hC: ∀cs W,C.p cs W->cs.length=1/\Q) (v:Wj) (W:Wi) (h:(uB b).p v W):v.cells.size=1/\(∀u,u∈v.cells.toList->u.oneCell'=true)/\v.cells.toList.all zU=true/\ ∀cs,C.p cs W->0+1<=cs.length/\(wE (.bool b) Q).p (jR cs 0 v.cells.toList) W:=by
 obtain rfl:v=_:=h
 refine ⟨rfl,fun u hu=>by simp [Value.cells] at hu;rw [hu];rfl,rfl,fun cs hc=> ?_⟩
 obtain ⟨hc',hq⟩:=hC cs W hc
 obtain ⟨c,rfl⟩:=List.length_eq_one_iff.1 hc'
 exact ⟨by simp,rfl,hq⟩
theorem zF1 {u:Wj} {P:Prop}: ∀cs W,(wE u P).p cs W->cs.length=1/\P:=fun cs W h=>⟨by rw [h.1];rfl,h.2⟩
theorem zMs {vs:List Wj} {k:Nat} (h:vs.length=k): ∀cs:List Wj, ∀W,(UF.eq (.agg vs.toArray)).p (.agg cs.toArray) W->cs.length=k:=fun cs W e=>by
 have:=zU2 Array.toList (jG e)
 simp at this
 rw [this,h]
theorem zDx {vs:List Wj} {k:Nat} (h:vs.length=k) (h1: ∀u,u∈vs->u.oneCell'=true) (h2:vs.all zU=true) (v:Wj) (W:Wi) (e:(UF.eq (.agg vs.toArray)).p v W): ∃us:List Wj,v= .agg us.toArray/\us.length=k/\(∀u,u∈us->u.oneCell'=true)/\us.all zU=true/\(CU.agg (UF.eq (.agg vs.toArray))).p us W:=⟨vs,e,h,h1,h2,rfl⟩
theorem zMt {vs:List Wj} {k:Nat} {u:Wj} (h:vs[k]?=some u): ∀cs W,(CU.agg (UF.eq (.agg vs.toArray))).p cs W-> ∃x,cs[k]?=some x/\(UF.eq u).p x W:=fun cs W e=>by
 have:=zU2 Array.toList (jG e)
 simp at this
 rw [this]
 exact ⟨u,h,rfl⟩
section
variable {F:Fence} {m:Nat} {P:Wn} {w0:Wi} {ops:Array Oper} {G:Nat->SF} {d:Tmp} {ty:Wk} {pos:String} {aft:Array Edge}
def zHj (P:Wn) (t:Wk) (i:Nat):Wl Nat:=match P.underlying t with
 |some (.array n e)=>match P.info? e with
  |some ie=>if i<n then some (i*ie.size) else none
  |none=>none
 |_=>none
theorem zCc {x y:Wm} {t:Wk} {C:CF} (i k:Nat) (hk:zHj P t i=some k) (hx: ∀v W,(fct G x).p v W->(wB C).p v W) (hy: ∀v W,(fct G y).p v W->v= .int .i64 (i:Int)) (hd: ∀v W,(wB (C.at k)).p v W->(G d).p v W:=by exact fun _ _ h=>h):qG F m P w0 ops G ⟨some d, .indexAddr t x y,ty,pos,aft,none⟩:=
 qH (fun _ e=>by cases e) (fun _ e=>by cases e) fun b W hb hh=>by
  obtain ⟨a,q,cs,e,h2,h3⟩:=hx _ _ (hh x (by simp [Op.operands]))
  have e2:=hy _ _ (hh y (by simp [Op.operands]))
  unfold zHj at hk
  split at hk<;>try cases hk
  rename_i n el hu
  split at hk<;>try cases hk
  rename_i ie hie
  split at hk<;>try cases hk
  rename_i hlt
  refine ⟨.pointer (some ⟨a,q+i*ie.size,none⟩), ?_,hd _ _ ⟨_,_,_,rfl,⟨cs,h2,rfl⟩,h3.drop _⟩⟩
  have h9: ¬n<=i:=by omega
  simp [execOp,Instr.indexAt,run_underlying hu,e,e2,Instr.sureAddr,sizeOf,typeInfo,hie,Addr.add_lit,asIntOf,hlt]
theorem zLf {x y:Wm} {t:Wk} (u v r:Wj) (hx: ∀q W,(fct G x).p q W->q=u) (hy: ∀q W,(fct G y).p q W->q=v) (hr: ∀W,(Instr.index t u v).run P W= .ok r W) (hd: ∀W,(G d).p r W:=by exact fun _=>rfl):qG F m P w0 ops G ⟨some d, .index t x y,ty,pos,aft,none⟩:=
 qH (fun _ e=>by cases e) (fun _ e=>by cases e) fun b W hb hh=>by
  have e1:=hx _ _ (hh x (by simp [Op.operands]))
  have e2:=hy _ _ (hh y (by simp [Op.operands]))
  exact ⟨r,by simp [execOp,e1,e2,hr W],hd _⟩
end
theorem bA2 (A A':Wl Addr) (n n' c c':Nat):prog.built 96 [(0, .slice A n c),(1, .slice A' n' c')]=some #[.slice A n c, .slice A' n' c']:=by kernel_rfl
theorem zUo (A A' B B':Wl Addr) (n n' c c' k k' d d':Nat):prog.built 97 [(0, .agg #[.slice A n c, .slice A' n' c']),(1, .agg #[.slice B k d, .slice B' k' d'])]=some #[.slice A n c, .slice A' n' c', .slice B k d, .slice B' k' d']:=by kernel_rfl
theorem ix0 (A A' B B':Wl Addr) (n n' c c' k k' d d':Nat) (W:Wi):(Instr.index 97 (.agg #[.slice A n c, .slice A' n' c', .slice B k d, .slice B' k' d']) (.int .i64 0)).run prog W= .ok (.agg #[.slice A n c, .slice A' n' c']) W:=by kernel_rfl
theorem ix1 (A A' B B':Wl Addr) (n n' c c' k k' d d':Nat) (W:Wi):(Instr.index 97 (.agg #[.slice A n c, .slice A' n' c', .slice B k d, .slice B' k' d']) (.int .i64 1)).run prog W= .ok (.agg #[.slice B k d, .slice B' k' d']) W:=by kernel_rfl
def Lo (W W':Wi):Prop:= ∀p:Addr,p.block<W.heap.size->W'.cell? p=W.cell? p
theorem zFY {W w:Wi} (h:Below W.heap.size W w):Lo W w:=fun _p hp=>h.cell hp
theorem Lo.trans {W w w':Wi} (h:Lo W w) (h': ∀p:Addr,p.block<W.heap.size->w'.cell? p=w.cell? p):Lo W w':=fun p hp=>(h' p hp).trans (h p hp)
theorem zG3 {S:Nat->Prop} {W w w':Wi} (h:Lo W w) (hb:BlS S w w') (hW:W.heap.size<=w.heap.size) (hS: ∀k,S k->W.heap.size<=k):Lo W w':=
 h.trans fun p hp=>World.cell?_of_block (hb.block _ (tP hp hW) fun h=>by have:=hS _ h;omega)
theorem zOC {z:Nat} {Cs:List CU} {v:Wj} {W W':Wi} (h:(SF.row z Cs).p v W) (hl:Lo W W'):(SF.row z Cs).p v W':=by
 obtain ⟨A,c,e,h2,h3,h4,h5⟩:=h
 have hk:jH W W':=fun p x hp=>(hl p (zU6 W _ hp)).trans hp
 refine ⟨A,c,e,h2,h3,h4,fun i C hi=> ?_⟩
 obtain ⟨b,o,cs,g1,g2,g3⟩:=h5 i C hi
 exact ⟨b,o,cs,g1,fun j u hj=>(hl _ (zU6 W _ (g2 j u hj))).trans (g2 j u hj),C.us _ _ _ g3 hk⟩
theorem zKf {W W':Wi} (h:Tab W) (hl:Lo W W'):Tab W':=fun j hj=>(hl _ (zU6 W _ (h j hj))).trans (h j hj)
theorem StS.resMP {w0:Wi} {K:List (Nat×KF)} {B:List Bx} {n:Nat} {ds:List Deferred} {a:Act} {w:Wi} {P:Wn} (h:St w0 K B n ds a w) {fn:Func} (v:Wj) {t:Nat} {e:Wk} {C:CU} (hr:fn.results=#[.cell t e]) (hsz:zBU P e=true) {y:Bx} (hB:zCY B t=some y) (hyC:y.c=C) (hyl: ∀cs W,C.p cs W->cs= [v]):bodyPostM Fence.wide 0 P fn (Ret w0 (UF.eq v).tS) .ret a w:=by
 obtain ⟨hy,rfl⟩:=qT hB
 subst hyC
 obtain ⟨cs,h1,h2,h3,h4,h5⟩:=h.bx.mem y hy
 have e1:=hyl cs w h4
 have h0:a.tmps[y.t]?.getD undef= (pO y.b 0):=by rw [<-Array.getD_eq_getD_getElem?];exact h1
 refine h.resM (v:=v) (fun w' ho=> ?_) fun w' ho=>rfl
 have hm:=qL (zEH ho h3)
 have:=jS hsz hm (u:=v) (by rw [e1];rfl)
 simp [results,hr,asAddr,h0,this]
def zA1 (x y:List V2) (k:Nat):Prop:= ∀j,j<k->q9 (at_ x j) (at_ x ((j+1) % x.length)) y=false
theorem zH0 {x y:List V2} (h:zA1 x y x.length):zFf x y=false:=by
 unfold zFf
 rw [zVw]
 intro i hi
 rw [h i (List.mem_range.1 hi)]
 simp
theorem zMX {x y:List V2} (h: ∃j,j<x.length/\q9 (at_ x j) (at_ x ((j+1) % x.length)) y=true):zFf x y=true:=by
 obtain ⟨j,hj,e⟩:=h
 exact zU8.2 ⟨j,List.mem_range.2 hj,e⟩
theorem zEx {z:Nat} {Cs:List CU} {v:Wj} {W:Wi} (h:(SF.row z Cs).p v W):v.oneCell'=true:=by
 obtain ⟨A,c,rfl,_⟩:=h
 rfl
theorem zLq {px py:List V2} {k:Nat} (hk:k<px.length) (h:zA1 px py k):if q9 (at_ px k) (at_ px ((k+1) % px.length)) py=true then ∃j,j<px.length/\q9 (at_ px j) (at_ px ((j+1) % px.length)) py=true else zA1 px py (k+1):=by
 by_cases e:q9 (at_ px k) (at_ px ((k+1) % px.length)) py=true
 ·rw [if_pos e];exact ⟨k,hk,e⟩
 ·rw [if_neg e]
  intro j hj
  rcases zVf (zVg hj) with h'|h'
  ·exact h j h'
  ·rw [h'];simpa using e
theorem zOh {m:Nat} {W:Wi} {A A':Wl Addr} {c c':Nat} {ps qs:List V2} (hl:(SF.row 6 (pvs m ps)).p (.slice A (pvs m ps).length c) W) (hl2:(SF.row 6 (pvs m qs)).p (.slice A' (pvs m qs).length c') W) (hm:m<=60) (hm0:0<m) (hn:ps.length<=1000000) (hn2:qs.length<=1000000) (hT:Tab W):Calls prog 84 #[.slice A (pvs m ps).length c, .slice A' (pvs m qs).length c'] W (Ret W (uB (qD ps qs)).tS):=by
 refine zKw [(UF.eq (.slice A (pvs m ps).length c)).tS,(UF.eq (.slice A' (pvs m qs).length c')).tS] func84 rfl kH ⟨rfl,rfl,trivial⟩ fun a s=> ?_
 replace s:=s.renew [(0, .u (UF.eq (.slice A (pvs m ps).length c))),(1, .u (UF.eq (.slice A' (pvs m qs).length c')))] (fmz ⟨.inr ⟨_,rfl, .head _⟩,fmz ⟨.inr ⟨_,rfl,mz1⟩,fnz⟩⟩)
 refine tJ ?_
 refine zB 0 [] hmix s kH
  zD fun a w1 s=> ?_
 refine zW (wE (.bool false) True) (cs:= [.bool false]) kH rfl s kH (fun W=>⟨rfl,trivial⟩) rfl fun b4 a w s=> ?_
 refine zA rfl ?_
 refine (wpIn_wide (n:=0)).2 (wp_scope_straight ((wpIn_wide (n:=0)).1 ?_))
 refine tJ ?_
 refine zB 7 ((10, .Z (UF.eq (.slice A (pvs m ps).length c)))::(11, .Z (UF.eq (.slice A' (pvs m qs).length c')))::(12, .Z (UF.eq (.agg #[.slice A (pvs m ps).length c, .slice A' (pvs m qs).length c'])))::(13, .Z (UF.eq (.slice A' (pvs m qs).length c')))::(14, .Z (UF.eq (.slice A (pvs m ps).length c)))::(15, .Z (UF.eq (.agg #[.slice A' (pvs m qs).length c', .slice A (pvs m ps).length c])))::(16, .u (UF.eq (.agg #[.slice A (pvs m ps).length c, .slice A' (pvs m qs).length c', .slice A' (pvs m qs).length c', .slice A (pvs m ps).length c]))):: []) hmix s kH
  (oc zC<|oc zC<|oc (yR (fun u v W (hu:u= .slice A (pvs m ps).length c) (hv:v= .slice A' (pvs m qs).length c')=>by subst hu hv;exact ⟨_,bA2 _ _ _ _ _ _,rfl⟩))<|oc zC<|oc zC<|oc (yR (fun u v W (hu:u= .slice A' (pvs m qs).length c') (hv:v= .slice A (pvs m ps).length c)=>by subst hu hv;exact ⟨_,bA2 _ _ _ _ _ _,rfl⟩))<|oc (yR (fun u v W (hu:u= .agg #[.slice A (pvs m ps).length c, .slice A' (pvs m qs).length c']) (hv:v= .agg #[.slice A' (pvs m qs).length c', .slice A (pvs m ps).length c])=>by subst hu hv;exact ⟨_,zUo _ _ _ _ _ _ _ _ _ _ _ _,rfl⟩))<|zD) fun a w2 s=> ?_
 refine zW (CU.len 4) (cs:= [.slice none 0 0, .slice none 0 0, .slice none 0 0, .slice none 0 0]) kH rfl s kH (fun W=>rfl) rfl fun b5 a w s=> ?_
 refine zN (CU.agg (UF.eq (.agg #[.slice A (pvs m ps).length c, .slice A' (pvs m qs).length c', .slice A' (pvs m qs).length c', .slice A (pvs m ps).length c]))) ((UF.eq (.agg #[.slice A (pvs m ps).length c, .slice A' (pvs m qs).length c', .slice A' (pvs m qs).length c', .slice A (pvs m ps).length c])).tS) rfl s kH rfl rfl rfl iiz iiz (zDx (vs:= [.slice A (pvs m ps).length c, .slice A' (pvs m qs).length c', .slice A' (pvs m qs).length c', .slice A (pvs m ps).length c]) rfl (by intro u hu;simp at hu;rcases hu with rfl|rfl|rfl|rfl<;>rfl) rfl) fun a w s=> ?_
 refine zA rfl ?_
 refine tJ ?_
 refine wpIn_label ?_
 refine tJ ?_
 refine tJ ?_
 refine zB 2 ((17, .u (UF.eq (.agg #[.slice A (pvs m ps).length c, .slice A' (pvs m qs).length c', .slice A' (pvs m qs).length c', .slice A (pvs m ps).length c])))::(18, .u (uI 0)):: []) hmix s kH
  (oc (zJ (f:=UF.eq (.agg #[.slice A (pvs m ps).length c, .slice A' (pvs m qs).length c', .slice A' (pvs m qs).length c', .slice A (pvs m ps).length c])) 4 kH (hz:=zMs (vs:= [.slice A (pvs m ps).length c, .slice A' (pvs m qs).length c', .slice A' (pvs m qs).length c', .slice A (pvs m ps).length c]) rfl))<|oc zC<|zD) fun a w3 s=> ?_
 refine zA rfl ?_
 refine tN ?_
 refine zFx (fun (p:Nat×List Deferred)=>p.1<=2/\(1<=p.1->zFf ps qs=false)/\(2<=p.1->zFf qs ps=false)) (fun p=> [(0, .u (UF.eq (.slice A (pvs m ps).length c))),(1, .u (UF.eq (.slice A' (pvs m qs).length c'))),(17, .u (UF.eq (.agg #[.slice A (pvs m ps).length c, .slice A' (pvs m qs).length c', .slice A' (pvs m qs).length c', .slice A (pvs m ps).length c]))),(18, .u (uI (p.1:Int)))]) (fun _=> [⟨5,97,CU.agg (UF.eq (.agg #[.slice A (pvs m ps).length c, .slice A' (pvs m qs).length c', .slice A' (pvs m qs).length c', .slice A (pvs m ps).length c])),b5,false⟩,⟨4,4,wE (.bool false) True,b4,false⟩]) (fun p=>p.2) (fun p=>2 - p.1) (0, []) ⟨by show 0<=2;decide,fun h=>absurd h (by show ¬1<=0;decide),fun h=>absurd h (by show ¬2<=0;decide)⟩ (s.keepK _ (fmz ⟨mz3,fmz ⟨mz4,fmz ⟨.head _,fmz ⟨mz1,fnz⟩⟩⟩⟩)) fun p a w hI s=> ?_
 refine tJ ?_
 refine zB 1 ((19, .u (uB (decide ((p.1:Int)<2)))):: []) hmix s kH
  (oc (zT .i64 (p.1:Int) 2 (decide ((p.1:Int)<2)) iiz iiz rfl rfl)<|zD) fun a w4 s=> ?_
 refine zA rfl ?_
 refine tJ ?_
 refine StS.cond s (decide ((p.1:Int)<2)) iiz (fun e=> ?_) (fun e=> ?_)
 ·have hp2:p.1<2:=by have:=tX e;omega
  obtain ⟨x,y,px,py,hc⟩: ∃(x y:Wj) (px py:List V2),(p.1=0/\x= .slice A (pvs m ps).length c/\y= .slice A' (pvs m qs).length c'/\px=ps/\py=qs)∨(p.1=1/\x= .slice A' (pvs m qs).length c'/\y= .slice A (pvs m ps).length c/\px=qs/\py=ps):=by
   rcases (by omega:p.1=0∨p.1=1) with h|h
   ·exact ⟨_,_,_,_, .inl ⟨h,rfl,rfl,rfl,rfl⟩⟩
   ·exact ⟨_,_,_,_, .inr ⟨h,rfl,rfl,rfl,rfl⟩⟩
  have hix: ∀W,(Instr.index 97 (.agg #[.slice A (pvs m ps).length c, .slice A' (pvs m qs).length c', .slice A' (pvs m qs).length c', .slice A (pvs m ps).length c]) (.int .i64 (p.1:Int))).run prog W= .ok (.agg #[x,y]) W:=by
   rcases hc with ⟨h,rfl,rfl,_⟩|⟨h,rfl,rfl,_⟩<;>rw [h]
   ·exact ix0 _ _ _ _ _ _ _ _ _ _ _ _
   ·exact ix1 _ _ _ _ _ _ _ _ _ _ _ _
  have hx:(SF.row 6 (pvs m px)).p x W:=by rcases hc with ⟨_,rfl,rfl,rfl,rfl⟩|⟨_,rfl,rfl,rfl,rfl⟩;exact hl;exact hl2
  have hy:(SF.row 6 (pvs m py)).p y W:=by rcases hc with ⟨_,rfl,rfl,rfl,rfl⟩|⟨_,rfl,rfl,rfl,rfl⟩;exact hl2;exact hl
  have hnx:px.length<=1000000:=by rcases hc with ⟨_,rfl,rfl,rfl,rfl⟩|⟨_,rfl,rfl,rfl,rfl⟩;exact hn;exact hn2
  have hny:py.length<=1000000:=by rcases hc with ⟨_,rfl,rfl,rfl,rfl⟩|⟨_,rfl,rfl,rfl,rfl⟩;exact hn2;exact hn
  have hxc:=zBq hx
  have hyc:=zBq hy
  have hx1:=zEx hx
  have hy1:=zEx hy
  refine tM ?_
  refine tJ ?_
  refine tN ?_
  refine tJ ?_
  refine zB 1 ((20, .u (UF.eq (.agg #[x,y]))):: []) hmix s kH
   (oc (zLf (.agg #[.slice A (pvs m ps).length c, .slice A' (pvs m qs).length c', .slice A' (pvs m qs).length c', .slice A (pvs m ps).length c]) (.int .i64 (p.1:Int)) (.agg #[x,y]) iiz iiz hix)<|zD) fun a w5 s=> ?_
  refine zW (CU.len 2) (cs:= [.slice none 0 0, .slice none 0 0]) kH rfl s kH (fun W=>rfl) rfl fun b7 a w s=> ?_
  refine zN (CU.agg (UF.eq (.agg #[x,y]))) ((UF.eq (.agg #[x,y])).tS) rfl s kH rfl rfl rfl iiz iiz (zDx (vs:= [x,y]) rfl (by simp [hx1,hy1]) (by simp [hxc.2,hyc.2])) fun a w s=> ?_
  refine zA rfl ?_
  refine tJ ?_
  replace s:StS noS W _ [⟨7,96,CU.agg (UF.eq (.agg #[x,y])),b7,false⟩,⟨5,97,CU.agg (UF.eq (.agg #[.slice A (pvs m ps).length c, .slice A' (pvs m qs).length c', .slice A' (pvs m qs).length c', .slice A (pvs m ps).length c])),b5,false⟩,⟨4,4,wE (.bool false) True,b4,false⟩] _ _ a _:=s
  have so23:=s.old
  have o7:b7<_:=so23 _ (.head _)
  have o5:b5<_:=so23 _ mz1
  have o4:b4<_:=so23 _ mz2
  refine jT 3 ((21, .X (UF.eq (.agg #[x,y])) 0)::(22, .Z (UF.eq x))::(23, .s (zJL w 132 22 (wC [x]))):: []) hmix s kH
   (oc (zCc (C:=cg (UF.eq (.agg #[x,y]))) 0 0 kH (fun _ _ h=>h.2) iiz)<|oc (jP (C:=cg (UF.eq (.agg #[x,y]))) (k:=0) kH (h:=zMt (vs:= [x,y]) (k:=0) rfl))<|oc (zH zE zSh (fun u0 W hb (h0:u0=x)=>by rw [show u0=x from h0];exact (zOm (zBq hx)).mono (wI (zG7 hb.size))))<|zD) fun a w6 s hr=> ?_
  refine zA rfl ?_
  refine tN ?_
  obtain ⟨b23,cs23,e23,hb23,hh23,hc23,hn23⟩:=hr (_,_) mz2
  obtain rfl:cs23= [x]:=hc23
  replace s:=(s.keepK [(0, .u (UF.eq (.slice A (pvs m ps).length c))),(1, .u (UF.eq (.slice A' (pvs m qs).length c'))),(17, .u (UF.eq (.agg #[.slice A (pvs m ps).length c, .slice A' (pvs m qs).length c', .slice A' (pvs m qs).length c', .slice A (pvs m ps).length c]))),(18, .u (uI (p.1:Int)))] (fmz ⟨mz2,fmz ⟨mz3,fmz ⟨mz4,fmz ⟨mz5,fnz⟩⟩⟩⟩)).learn 23 _ e23
  replace s:StS noS W _ [⟨7,96,CU.agg (UF.eq (.agg #[x,y])),b7,false⟩,⟨5,97,CU.agg (UF.eq (.agg #[.slice A (pvs m ps).length c, .slice A' (pvs m qs).length c', .slice A' (pvs m qs).length c', .slice A (pvs m ps).length c])),b5,false⟩,⟨4,4,wE (.bool false) (zA1 px py 0),b4,false⟩] f84.ntmps _ a w6:=s.weakB 4 (wE (.bool false) (zA1 px py 0)) rfl (jV kH) (fun cs W h=>⟨h.1,fun j hj=>absurd hj (zVe _)⟩)
  have hCn: ∀q,inB ([⟨7,96,CU.agg (UF.eq (.agg #[x,y])),b7,false⟩,⟨5,97,CU.agg (UF.eq (.agg #[.slice A (pvs m ps).length c, .slice A' (pvs m qs).length c', .slice A' (pvs m qs).length c', .slice A (pvs m ps).length c])),b5,false⟩,⟨4,4,wE (.bool false) (zA1 px py 0),b4,false⟩]) q->W.heap.size<=q:=fun q hq=>s.inB_new hq
  have hCl: ∀q,inB ([⟨7,96,CU.agg (UF.eq (.agg #[x,y])),b7,false⟩,⟨5,97,CU.agg (UF.eq (.agg #[.slice A (pvs m ps).length c, .slice A' (pvs m qs).length c', .slice A' (pvs m qs).length c', .slice A (pvs m ps).length c])),b5,false⟩,⟨4,4,wE (.bool false) (zA1 px py 0),b4,false⟩]) q->q<w6.heap.size:=fun q ⟨z9,hz9,e9,_⟩=>e9▸s.old z9 hz9
  refine zIx (N:=px.length) (endless:=False) (fun k=> [⟨7,96,CU.agg (UF.eq (.agg #[x,y])),b7,false⟩,⟨5,97,CU.agg (UF.eq (.agg #[.slice A (pvs m ps).length c, .slice A' (pvs m qs).length c', .slice A' (pvs m qs).length c', .slice A (pvs m ps).length c])),b5,false⟩,⟨4,4,wE (.bool false) (zA1 px py k),b4,false⟩]) ([⟨7,96,CU.agg (UF.eq (.agg #[x,y])),b7,false⟩,⟨5,97,CU.agg (UF.eq (.agg #[.slice A (pvs m ps).length c, .slice A' (pvs m qs).length c', .slice A' (pvs m qs).length c', .slice A (pvs m ps).length c])),b5,false⟩,⟨4,4,wE (.bool true) (∃j,j<px.length/\q9 (at_ px j) (tn px j) py=true),b4,false⟩]) (.exit 0) (fun k=> [(24, .u (fPV m (at_ px k))),(25, .u (fPV m (tn px k)))]) s iiz (enters_of func132 kH rfl) (zN4 (w0:=W) hh23 hx s.below hCl hCn (fun ⟨z9,hz9,e9,_⟩=>by simp only [tV,List.not_mem_nil,or_false] at hz9;rcases hz9 with rfl|rfl|rfl<;>(simp only at e9;omega)) hnx) (fun k=>rfl) ?_ rfl rfl rfl (fun k=>rfl) rfl (fun h=>h.elim) (fun l k xs WR hk so s=> ?_) (fun _ D WD s=> ?_) (fun D WD s=> ?_)
  ·intro k q hq
   rcases tV.1 hq with rfl|hq
   ·exact .inr ⟨0,_,rfl,rfl,rfl⟩
   ·obtain rfl:=zF5.1 hq;exact .inr ⟨1,_,rfl,rfl,rfl⟩
  ·have hLR:Lo W WR:=zFY so.below
   have hWR:=so.gr.size
   have hSq: ∀q,(inB ([⟨7,96,CU.agg (UF.eq (.agg #[x,y])),b7,false⟩,⟨5,97,CU.agg (UF.eq (.agg #[.slice A (pvs m ps).length c, .slice A' (pvs m qs).length c', .slice A' (pvs m qs).length c', .slice A (pvs m ps).length c])),b5,false⟩,⟨4,4,wE (.bool false) (zA1 px py 0),b4,false⟩]) q∨WR.heap.size<=q)->W.heap.size<=q:=fun q hq=>by rcases hq with hq|hq;exact hCn q hq;omega
   generalize ({ tmps:=_,defers:= [] }:Act)=a at s ⊢
   refine tJ ?_
   refine zB 0 [] hmix s kH
    zD fun a w7 s=> ?_
   refine zW (CU.len 6) (cs:=zP6) kH rfl s kH (fun W=>rfl) rfl fun b8 a w s=> ?_
   refine zN (CU.agg (fPV m (at_ px k))) ((fPV m (at_ px k)).tS) rfl s kH rfl rfl rfl iiz iiz qZ fun a w s=> ?_
   refine zA rfl ?_
   refine zB 0 [] hmix s kH
    zD fun a w8 s=> ?_
   refine zW (CU.len 6) (cs:=zP6) kH rfl s kH (fun W=>rfl) rfl fun b9 a w s=> ?_
   refine zN (CU.agg (fPV m (tn px k))) ((fPV m (tn px k)).tS) rfl s kH rfl rfl rfl iiz iiz qZ fun a w s=> ?_
   refine zA rfl ?_
   refine ⟨s.gr,fun W2 hcell hW2=> ?_⟩
   have hL2:Lo W W2:=(zG3 hLR s.gr hWR hSq).trans fun p _=>hcell p
   obtain ⟨_,_,h9c,_⟩:=s.bx.mem _ (.head _)
   have hb9:W.heap.size<=b9:=by rcases h9c with h|h|h;cases h;exact tO hWR h;exact hSq _ h
   replace s:=hW2 _ _ s
   have h9l:b9<W2.heap.size:=s.old _ (.head _)
   have hW2s:W.heap.size<=W2.heap.size:=by omega
   have hlo: ∀{w w':Wi},BlS (fun q=>inB ([⟨7,96,CU.agg (UF.eq (.agg #[x,y])),b7,false⟩,⟨5,97,CU.agg (UF.eq (.agg #[.slice A (pvs m ps).length c, .slice A' (pvs m qs).length c', .slice A' (pvs m qs).length c', .slice A (pvs m ps).length c])),b5,false⟩,⟨4,4,wE (.bool false) (zA1 px py 0),b4,false⟩]) q∨WR.heap.size<=q) W2 w->Below w.heap.size w w'->Lo W w':=fun h1 h2=>(zG3 hL2 h1 hW2s hSq).trans fun p hp=>h2.cell (tP hp (tO hW2s h1.size))
   refine tN ?_
   refine tJ ?_
   refine zB 5 ((26, .Z (fPV m (at_ px k)))::(27, .Z (fPV m (tn px k)))::(28, .X (UF.eq (.agg #[x,y])) 1)::(29, .Z (UF.eq y))::(30, .u (uB (q9 (at_ px k) (tn px k) py))):: []) hmix s kH
    (oc (zJ (f:=fPV m (at_ px k)) 6 kH (hz:=z4 _ _))<|oc (zJ (f:=fPV m (tn px k)) 6 kH (hz:=z4 _ _))<|oc (zCc (C:=cg (UF.eq (.agg #[x,y]))) 1 1 kH (fun _ _ h=>h.2) iiz)<|oc (jP (C:=cg (UF.eq (.agg #[x,y]))) (k:=1) kH (h:=zMt (vs:= [x,y]) (k:=1) rfl))<|oc (zCA zE zSg (fun u0 u1 u2 W hb (h0:(fPV m (at_ px k)).p u0 W) (h1:(fPV m (tn px k)).p u1 W) (h2:u2=y)=>by rw [show u2=y from h2];exact zOj h0 h1 (zOC hy (hlo s.gr hb)) hm hm0 hny (zKf hT (hlo s.gr hb))))<|zD) fun a w9 s=> ?_
   refine qY (c:=4) (o:=0) (kk:=1) (wE (.bool (q9 (at_ px k) (tn px k) py)) (if q9 (at_ px k) (tn px k) py=true then ∃j,j<px.length/\q9 (at_ px j) (tn px j) py=true else zA1 px py (k+1))) ((uB (q9 (at_ px k) (tn px k) py)).tS) rfl s kH rfl rfl (fun _ _ h=>h.1) iiz (zCN fun cs W h=>⟨by rw [h.1];rfl,zLq hk h.2⟩) fun a w s=> ?_
   refine zA rfl ?_
   refine tJ ?_
   refine zB 1 ((31, .u (uB (q9 (at_ px k) (tn px k) py))):: []) hmix s kH
    (oc (qS (C:=(wE (.bool (q9 (at_ px k) (tn px k) py)) (if q9 (at_ px k) (tn px k) py=true then ∃j,j<px.length/\q9 (at_ px j) (tn px j) py=true else zA1 px py (k+1))).cf) kH (fun _ _ h=>h.2) zDJ)<|zD) fun a w10 s=> ?_
   refine zA rfl ?_
   refine StS.cond s (q9 (at_ px k) (tn px k) py) iiz (fun e=> ?_) (fun e=> ?_)
   ·refine zCS ?_
    replace s:=s.popB
    replace s:=s.popB
    exact ⟨rfl,(s.keepK [] fnz).weakB 4 (wE (.bool true) (∃j,j<px.length/\q9 (at_ px j) (tn px j) py=true)) rfl (jV kH) (fun cs W h=>by rw [e] at h;simpa using h)⟩
   ·refine tM ?_
    replace s:=s.popB
    replace s:=s.popB
    exact ⟨(s.keepK [] fnz).weakB 4 (wE (.bool false) (zA1 px py (k+1))) rfl (jV kH) (fun cs W h=>by rw [e] at h;simpa using h),fun h=>h.elim⟩
  ·have hone:zFf px py=false:=by obtain ⟨_,_,h9,_⟩:=s.boxAt (c:=4) rfl;exact zH0 h9.2
   replace s:StS noS W _ [⟨5,97,CU.agg (UF.eq (.agg #[.slice A (pvs m ps).length c, .slice A' (pvs m qs).length c', .slice A' (pvs m qs).length c', .slice A (pvs m ps).length c])),b5,false⟩,⟨4,4,wE (.bool false) True,b4,false⟩] f84.ntmps _ _ WD:=s.popB.weakB 4 (wE (.bool false) True) rfl (jV kH) (fun cs W h=>⟨h.1,trivial⟩)
   generalize ({ a with defers:=mark D::a.defers }:Act)=a at s ⊢
   refine yF 1 ((32, .u (uI ((p.1+1:Nat):Int))):: []) s kH
    (oc (qA .i64 (p.1:Int) 1 ((p.1+1:Nat):Int) iiz iiz (wrap64 _ _ oO oO))<|zD) fun a w11 s=> ?_
   replace s:=s.drop [18]
   refine zCt (uI ((p.1+1:Nat):Int)) rfl s kH zC kH fun a w s=> ?_
   refine zA rfl ?_
   refine ⟨(p.1+1,mark D::p.2),⟨by show p.1+1<=2;omega, ?_, ?_⟩,by show 2 - (p.1+1)<2 - p.1;omega,s.keepK _ (fmz ⟨mz3,fmz ⟨mz4,fmz ⟨mz5,fmz ⟨.head _,fnz⟩⟩⟩⟩)⟩
   ·intro _;rcases hc with ⟨_,_,_,rfl,rfl⟩|⟨e9,_⟩;exact hone;exact hI.2.1 oO
   ·intro h9;rcases hc with ⟨e9,_⟩|⟨_,_,_,rfl,rfl⟩;have:2<=p.1+1:=h9;omega;exact hone
  ·have hans:qD ps qs=true:=by
    obtain ⟨_,_,h9,_⟩:=s.boxAt (c:=4) rfl
    have h8:=zMX h9.2
    unfold qD
    rcases hc with ⟨_,_,_,rfl,rfl⟩|⟨_,_,_,rfl,rfl⟩<;>simp [h8]
   generalize ({ a with defers:=mark D::a.defers }:Act)=a at s ⊢
   refine zCS ?_
   refine tJ ?_
   refine zB 1 ((33, .u (uB true)):: []) hmix s kH
    (oc (qS (C:=(wE (.bool true) (∃j,j<px.length/\q9 (at_ px j) (tn px j) py=true)).cf) kH (fun _ _ h=>h.2) zDJ)<|zD) fun a w12 s=> ?_
   refine qY (c:=4) (o:=0) (kk:=1) (wE (.bool true) True) ((uB true).tS) rfl s kH rfl rfl (fun _ _ h=>h.1) iiz (zCN fun cs W h=>⟨by rw [h.1];rfl,trivial⟩) fun a w s=> ?_
   refine zA rfl ?_
   refine tK ?_
   exact hans▸s.resMP (.bool true) rfl kH rfl rfl (fun cs W h=>h.1)
 ·have hp2:p.1=2:=by have h7:=tZ e;have h8:=hI.1;omega
  have hans:qD ps qs=false:=by unfold qD;rw [hI.2.1 oO,hI.2.2 oO];rfl
  refine zCS ?_
  refine tJ ?_
  refine zB 1 ((33, .u (uB false)):: []) hmix s kH
   (oc (qS (C:=(wE (.bool false) True).cf) kH (fun _ _ h=>h.2) zDJ)<|zD) fun a w13 s=> ?_
  refine qY (c:=4) (o:=0) (kk:=1) (wE (.bool false) True) ((uB false).tS) rfl s kH rfl rfl (fun _ _ h=>h.1) iiz (zCN fun cs W h=>⟨by rw [h.1];rfl,trivial⟩) fun a w s=> ?_
  refine zA rfl ?_
  refine tK ?_
  exact hans▸s.resMP (.bool false) rfl kH rfl rfl (fun cs W h=>h.1)
theorem zOi {m:Nat} {W:Wi} {u v:Wj} {ps qs:List V2} (hl:(SF.row 6 (pvs m ps)).p u W) (hl2:(SF.row 6 (pvs m qs)).p v W) (hm:m<=60) (hm0:0<m) (hn:ps.length<=1000000) (hn2:qs.length<=1000000) (hT:Tab W):Calls prog 84 #[u,v] W (Ret W (fB (qD ps qs)).tS):=by
 obtain ⟨A,c,rfl,_⟩:=id hl
 obtain ⟨A',c',rfl,_⟩:=id hl2
 exact zOh hl hl2 hm hm0 hn hn2 hT
end Go.Proofs.Wd

namespace Go.Proofs.Wd
open Tryz
set_option maxRecDepth 100000
set_option maxHeartbeats 1000000
open Go.RowKit Lb
abbrev V6:=V2×V2×V2
abbrev tl (t:V6):List V2:= [t.1,t.2.1,t.2.2]
def at3 (l:List V6) (i:Nat):V6:=l.getD i ((0,0),(0,0),(0,0))
def TRp (m:Nat) (t:V6) (v:Wj) (w:Wi):Prop:= ∃a b c:List Wj,v= .agg (a++b++c).toArray/\(CU.agg (fPV m t.1)).p a w/\(CU.agg (fPV m t.2.1)).p b w/\(CU.agg (fPV m t.2.2)).p c w
def fTR (m:Nat) (t:V6):UF:= .mk' (TRp m t) fun _ _ _ ⟨a,b,c,e,h1,h2,h3⟩ k=>⟨a,b,c,e,(CU.agg _).us _ _ _ h1 k,(CU.agg _).us _ _ _ h2 k,(CU.agg _).us _ _ _ h3 k⟩
theorem zCs {m:Nat} {t:V6} {cs:List Wj} {W:Wi} (h:TRp m t (.agg cs.toArray) W): ∃a b c:List Wj,cs=a++b++c/\a.length=6/\b.length=6/\c.length=6/\(CU.agg (fPV m t.1)).p a W/\(CU.agg (fPV m t.2.1)).p b W/\(CU.agg (fPV m t.2.2)).p c W:=by
 obtain ⟨a,b,c,e,h1,h2,h3⟩:=h
 have:=zU2 Array.toList (jG e)
 simp only at this
 exact ⟨a,b,c,this,(zB7 _ _ a W h1).1,(zB7 _ _ b W h2).1,(zB7 _ _ c W h3).1,h1,h2,h3⟩
theorem zKc (m:Nat) (t:V6):CU.ok 18 (CU.agg (fTR m t)):=fun cs W h=>by
 obtain ⟨a,b,c,rfl,l1,l2,l3,h1,h2,h3⟩:=zCs h
 have o1:=zB7 _ _ a W h1;have o2:=zB7 _ _ b W h2;have o3:=zB7 _ _ c W h3
 refine ⟨by simp [l1,l2,l3],zGj o1.2.1 o2.2.1 o3.2.1,fun u hu=> ?_⟩
 rcases List.mem_append.1 hu with hu|hu
 ·rcases List.mem_append.1 hu with hu|hu
  ·exact o1.2.2 u hu
  ·exact o2.2.2 u hu
 ·exact o3.2.2 u hu
theorem zEr (m:Nat) (t:V6): ∀cs:List Wj, ∀W,(fTR m t).p (.agg cs.toArray) W->cs.length=18:=fun cs W h=>(zKc m t cs W h).1
theorem zOx {m:Nat} {t:V6} {v:Wj} {W:Wi} (h:(fTR m t).p v W):(CU.agg (fTR m t)).p v.cells.toList W/\v.cells.toList.all zU=true:=by
 obtain ⟨a,b,c,rfl,h1⟩:=id h
 exact ⟨h,(zKc m t _ W h).2.1⟩
theorem zFs {m:Nat} {t:V6} (v:Wj) (W:Wi) (h:(fTR m t).p v W): ∃vs:List Wj,v= .agg vs.toArray/\vs.length=18/\(∀u,u∈vs->u.oneCell'=true)/\vs.all zU=true/\(CU.agg (fTR m t)).p vs W:=by
 obtain ⟨a,b,c,rfl,h1⟩:=id h
 have:=zKc m t _ W h
 exact ⟨_,rfl,this.1,this.2.2,this.2.1,h⟩
theorem zQ7 {m:Nat} {t:V6} (cs:List Wj) (W:Wi) (h:(CU.agg (fTR m t)).p cs W):0+6<=cs.length/\(fPV m t.1).p (.agg ((cs.drop 0).take 6).toArray) W:=by
 obtain ⟨a,b,c,rfl,l1,l2,l3,h1,_⟩:=zCs h
 refine ⟨by simp [l1,l2,l3], ?_⟩
 rw [List.drop_zero,zVh,zVy oO,zVb oO]
 exact h1
theorem zQ6 {m:Nat} {t:V6} (cs:List Wj) (W:Wi) (h:(CU.agg (fTR m t)).p cs W):6+6<=cs.length/\(fPV m t.2.1).p (.agg ((cs.drop 6).take 6).toArray) W:=by
 obtain ⟨a,b,c,rfl,l1,l2,l3,_,h2,_⟩:=zCs h
 refine ⟨by simp [l1,l2,l3], ?_⟩
 rw [zVh,zVz oO,List.drop_of_length_le oO,zU9,zVy oO,zVb oO]
 exact h2
theorem zPs {m:Nat} {t:V6} (cs:List Wj) (W:Wi) (h:(CU.agg (fTR m t)).p cs W):12+6<=cs.length/\(fPV m t.2.2).p (.agg ((cs.drop 12).take 6).toArray) W:=by
 obtain ⟨a,b,c,rfl,l1,l2,l3,_,_,h3⟩:=zCs h
 refine ⟨by simp [l1,l2,l3], ?_⟩
 rw [zVz (by simp;omega),List.drop_of_length_le (by simp;omega),zU9,zVb oO]
 exact h3
theorem zPt {m m':Nat} {t:V6} (hm:m<=m') {v:Wj} {W:Wi} (h:(fTR m t).p v W):(fTR m' t).p v W:=by
 obtain ⟨a,b,c,e,h1,h2,h3⟩:=h
 exact ⟨a,b,c,e,jD hm h1,jD hm h2,jD hm h3⟩
abbrev trs (m:Nat) (ts:List V6):List CU:=ts.map fun t=>CU.agg (fTR m t)
theorem zDz {m:Nat} {ts:List V6} {i:Nat} (h:i<ts.length):(trs m ts)[i]?=some (CU.agg (fTR m (at3 ts i))):=by
 unfold trs at3;rw [zU0,tY,tQ h];rfl
theorem zC1 {m m':Nat} (hm:m<=m') {ts:List V6} (v:Wj) (W:Wi) (hv:(SF.row 18 (trs m ts)).p v W):(SF.row 18 (trs m' ts)).p v W:=
 zEy fL (fun i C D hC hD cs W h=>by
  have hi:i<ts.length:=by have:=(tT.1 hC).1;simpa using this
  rw [zDz hi] at hC
  rw [zDz hi] at hD
  cases hC;cases hD
  exact zPt hm h) v W hv
theorem zBQ {m m':Nat} (hm:m<=m') {ps:List V2} (v:Wj) (W:Wi) (hv:(SF.row 6 (pvs m ps)).p v W):(SF.row 6 (pvs m' ps)).p v W:=
 zEy fL (fun i C D hC hD cs W h=>by
  have hi:i<ps.length:=by have:=(tT.1 hC).1;simpa using this
  rw [jU hi] at hC
  rw [jU hi] at hD
  cases hC;cases hD
  exact jD hm h) v W hv
theorem zOw {m:Nat} {t:V6} {b o:Nat} {cs:List Wj} {W:Wi} (h:(CU.agg (fTR m t)).p cs W) (hm:Mem W b o cs):(SF.row 6 (pvs m (tl t))).p (.slice (some ⟨b,o,none⟩) 3 3) W:=by
 obtain ⟨x,y,z,rfl,l1,l2,l3,h1,h2,h3⟩:=zCs h
 refine ⟨_,3,rfl,tU _,by decide,fun e=>(by cases e),fun i C hi=> ?_⟩
 have hlt:=(tT.1 hi).1
 simp at hlt
 rcases (by omega:i=0∨i=1∨i=2) with rfl|rfl|rfl
 ·obtain rfl:CU.agg (fPV m t.1)=C:=by simpa using hi
  exact ⟨b,o,x,rfl,fun j u hj=>by rw [Nat.zero_mul];exact hm j u (by rw [zVh,zVA (tT.1 hj).1];exact hj),h1⟩
 ·obtain rfl:CU.agg (fPV m t.2.1)=C:=by simpa using hi
  refine ⟨b,o,y,rfl,fun j u hj=> ?_,h2⟩
  have hj':=(tT.1 hj).1
  have:=hm (6+j) u (by rw [zVh,zVB oO,zVA oO];rw [show 6+j - x.length=j by omega];exact hj)
  rwa [<-zVt] at this
 ·obtain rfl:CU.agg (fPV m t.2.2)=C:=by simpa using hi
  refine ⟨b,o,z,rfl,fun j u hj=> ?_,h3⟩
  have:=hm (12+j) u (by rw [zVB (by simp;omega)];rw [show 12+j - (x++y).length=j by simp;omega];exact hj)
  rwa [<-zVt] at this
section
variable {F:Fence} {m:Nat} {P:Wn} {w0:Wi} {ops:Array Oper} {G:Nat->SF} {d:Tmp} {ty:Wk} {pos:String} {aft:Array Edge}
theorem zLa {x:Wm} {t:Wk} {C:CF} (n:Nat) (el:Wk) (ht:P.underlying t=some (.array n el)) (hi:(P.info? el).isSome=true) (hx: ∀v W,(fct G x).p v W->(wB C).p v W) (hd: ∀b o cs W,C.p cs W->Mem W b o cs->(G d).p (.slice (some ⟨b,o,none⟩) n n) W):qG F m P w0 ops G ⟨some d, .slice t x none none none,ty,pos,aft,none⟩:=
 qH (fun _ e=>by cases e) (fun _ e=>by cases e) fun b W hb hh=>by
  obtain ⟨a,q,cs,e,h2,h3⟩:=hx _ _ (hh x (by simp [Op.operands]))
  obtain ⟨ie,hie⟩:=Option.isSome_iff_exists.1 hi
  refine ⟨.slice (some ⟨a,q,none⟩) n n, ?_,hd a q cs W h2 h3⟩
  simp [execOp,Instr.sliceAt,run_underlying ht,e,Instr.sureAddr,Instr.sliceBounds,sizeOf,typeInfo,hie,Addr.add_lit]
end
def TBt (m:Nat) (g:V6->Bool) (xs:Array Wj) (W:Wi) (R:SF):Prop:= ∃u t,xs=#[u]/\(fTR m t).p u W/\Tab W/\R=(fB (g t)).tS
theorem zLy {l:List V6} {p:V6} (h:p∈l): ∃i,i<l.length/\at3 l i=p:=by
 obtain ⟨i,hi,e⟩:=List.getElem_of_mem h
 exact ⟨i,hi,by unfold at3;rw [tY,tQ hi];exact e⟩
theorem zMp {l:List V6} {i:Nat} (h:i<l.length):at3 l i∈l:=by
 unfold at3;rw [tY,tQ h];exact List.getElem_mem h
theorem zQq {g:V6->Bool} {l:List V6} {k:Nat} (hk:k<l.length) (h0: ∀j,j<k->g (at3 l j)=false) (h1:g (at3 l k)=true):zEY g l=(k:Int):=by
 have ha:l.any g=true:=zU8.2 ⟨_,zMp hk,h1⟩
 unfold zEY
 rw [if_pos ha]
 congr 1
 refine (List.findIdx_eq hk).2 ⟨by have:=h1;unfold at3 at this;rwa [tY,tQ hk] at this,fun j hj=> ?_⟩
 have:=h0 j hj
 unfold at3 at this
 rwa [tY,tQ (Nat.lt_trans hj hk)] at this
theorem zLR {g:V6->Bool} {l:List V6} (h0: ∀j,j<l.length->g (at3 l j)=false):zEY g l= -1:=by
 unfold zEY
 rw [if_neg]
 intro ha
 obtain ⟨p,hp,e⟩:=zU8.1 ha
 obtain ⟨j,hj,rfl⟩:=zLy hp
 rw [h0 j hj] at e
 cases e
theorem zS4 {m:Nat} {g:V6->Bool} {W:Wi} {l f:Wj} {ts:List V6} (hl:(SF.row 18 (trs m ts)).p l W) (hf:(SF.fn prog (TBt m g)).p f W) (hn:ts.length<=1000000) (hT:Tab W):Calls prog 109 #[l,f] W (Ret W (fI (zEY g ts)).tS):=by
 refine yE [SF.row 18 (trs m ts),SF.fn prog (TBt m g)] func109 rfl kH ⟨hl,hf,trivial⟩ fun a s=> ?_
 refine tJ ?_
 refine zB 1 ((4, .u (uI 0)):: []) hmix s kH
  (oc zG<|zD) fun a w1 s=> ?_
 refine zA rfl ?_
 refine tJ ?_
 refine tJ ?_
 refine zB 3 ((6, .s (SF.row 18 (trs m ts)))::(7, .u (uI ((trs m ts).length:Int)))::(8, .u (uI 0)):: []) hmix s kH
  (oc zC<|oc (zCb (z:=18) (Cs:=trs m ts) kH iiz (fun _=>rfl))<|oc zC<|zD) fun a w2 s=> ?_
 refine zA rfl ?_
 refine tN ?_
 refine zBp (fun k=>k<=ts.length/\ ∀j,j<k->g (at3 ts j)=false) (fun k=> [(0, .o (SF.row 18 (trs m ts))),(1, .o (SF.fn prog (TBt m g))),(7, .u (uI ((trs m ts).length:Int))),(8, .u (uI ((k:Nat):Int)))]) (fun k=>ts.length - k) (0:Nat) (⟨tS _,fun j hj=>absurd hj (zVe _)⟩) (s.keepK _ (fmz ⟨mz3,fmz ⟨mz4,fmz ⟨.head _,fmz ⟨mz1,fnz⟩⟩⟩⟩)) fun k a w hx s=> ?_
 refine tJ ?_
 refine zB 1 ((9, .u (uB (decide ((k:Int)<((trs m ts).length:Int))))):: []) hmix s kH
  (oc (zT .i64 (k:Int) ((trs m ts).length:Int) (decide ((k:Int)<((trs m ts).length:Int))) iiz iiz rfl rfl)<|zD) fun a w3 s=> ?_
 refine zA rfl ?_
 refine tJ ?_
 refine StS.cond s (decide ((k:Int)<((trs m ts).length:Int))) iiz (fun e=> ?_) (fun e=> ?_)
 ·have hk:k<ts.length:=by have:=tX e;simp at this;omega
  refine tM ?_
  refine tJ ?_
  refine tN ?_
  refine tJ ?_
  refine zB 2 ((10, .Z (uI (k:Int)))::(5, .u (uI (k:Int))):: []) hmix s kH
   (oc zC<|oc zG<|zD) fun a w4 s=> ?_
  refine zA rfl ?_
  refine tJ ?_
  refine zB 6 ((11, .s (SF.fn prog (TBt m g)))::(12, .s (SF.row 18 (trs m ts)))::(13, .Z (uI (k:Int)))::(14, .Y (fTR m (at3 ts k)))::(15, .Z (fTR m (at3 ts k)))::(16, .u (uB (g (at3 ts k)))):: []) hmix s kH
   (oc zC<|oc zC<|oc zC<|oc (zBz (z:=18) (Cs:=trs m ts) (i:=k) (C:=CU.agg (fTR m (at3 ts k))) kH (zDz hk) iiz iiz)<|oc (zJ (f:=fTR m (at3 ts k)) 18 kH (hz:=zEr _ _))<|oc (zOS (TBt m g) zE iiz (fun u W hb (h:(fTR m (at3 ts k)).p u W)=>⟨u,_,rfl,h,(hT.below (s.up hb)),rfl⟩))<|zD) fun a w5 s=> ?_
  refine zA rfl ?_
  refine StS.cond s (g (at3 ts k)) iiz (fun e=> ?_) (fun e=> ?_)
  ·refine tJ ?_
   refine zB 2 ((17, .Z (uI (k:Int)))::(4, .u (uI (k:Int))):: []) hmix s kH
    (oc zC<|oc zG<|zD) fun a w6 s=> ?_
   refine zA rfl ?_
   refine tK ?_
   exact wH s (t:=4) rfl (fun v W h=>by rw [zQq hk hx.2 e];exact h)
  ·refine tM ?_
   refine yF 1 ((18, .u (uI ((k+1:Nat):Int))):: []) s kH
    (oc (qA .i64 (k:Int) 1 ((k+1:Nat):Int) iiz iiz (wrap64 _ _ oO oO))<|zD) fun a w7 s=> ?_
   replace s:=s.drop [8]
   refine zCt (uI ((k+1:Nat):Int)) rfl s kH zC kH fun a w s=> ?_
   refine zA rfl ?_
   exact ⟨k+1,⟨hk,fun j hj=>by rcases zVf (zVg hj) with h|h;exact hx.2 j h;rw [h];exact e⟩,(by show ts.length - (k+1)<ts.length - k;omega),s.keepK _ (fmz ⟨mz5,fmz ⟨mz6,fmz ⟨mz7,fmz ⟨.head _,fnz⟩⟩⟩⟩)⟩
 ·have hk:k=ts.length:=by have h7:=tZ e;have h8:=hx.1;simp at h7;omega
  refine zCS ?_
  refine tJ ?_
  refine zB 1 ((4, .u (uI (-1))):: []) hmix s kH
   (oc zG<|zD) fun a w8 s=> ?_
  refine zA rfl ?_
  refine tK ?_
  exact wH s (t:=4) rfl (fun v W h=>by rw [zLR (fun j hj=>hx.2 j oO)];exact h)
theorem zTR {m:Nat} {g:V6->Bool} {W:Wi} {l f:Wj} {ts:List V6} (hl:(SF.row 18 (trs m ts)).p l W) (hf:(SF.fn prog (TBt m g)).p f W) (hn:ts.length<=1000000) (hT:Tab W):Calls prog 82 #[l,f] W (Ret W (fB (ts.any g)).tS):=by
 refine yE [SF.row 18 (trs m ts),SF.fn prog (TBt m g)] func82 rfl kH ⟨hl,hf,trivial⟩ fun a s=> ?_
 refine tJ ?_
 refine zB 1 ((4, .u (uB false)):: []) hmix s kH
  (oc zG<|zD) fun a w1 s=> ?_
 refine zA rfl ?_
 refine tJ ?_
 replace s:=s.drop [4]
 refine zB 5 ((5, .s (SF.row 18 (trs m ts)))::(6, .s (SF.fn prog (TBt m g)))::(7, .Z (uI (zEY g ts)))::(8, .Z (uB (decide (zEY g ts≥0))))::(4, .u (uB (decide (zEY g ts≥0)))):: []) hmix s kH
  (oc zC<|oc zC<|oc (zL zE zSi (fun u0 u1 W hb (h0:(SF.row 18 (trs m ts)).p u0 W) (h1:(SF.fn prog (TBt m g)).p u1 W)=>zS4 h0 h1 hn (hT.below (s.up hb))))<|oc (zT .i64 (zEY g ts) 0 (decide (zEY g ts≥0)) iiz iiz rfl rfl)<|oc zG<|zD) fun a w2 s=> ?_
 refine zA rfl ?_
 refine tK ?_
 exact wH s (t:=4) rfl (fun v W h=>by rw [<-zI7];exact h)
theorem zOl {m:Nat} {W:Wi} {u v r:Wj} {t:V6} {rs:List V2} (h1:(fTR m t).p u W) (h2:(wB (wC [r]).cf).p v W) (hr_:(SF.row 6 (pvs m rs)).p r W) (hm:m<=60) (hm0:0<m) (hn:rs.length<=1000000) (hT:Tab W):Calls prog 83 #[u,v] W (Ret W (fB (!(qD rs (tl t)))).tS):=by
 refine yE [(fTR m t).tS,wB (wC [r]).cf] func83 rfl kH ⟨h1,h2,trivial⟩ fun a s=> ?_
 refine tJ ?_
 refine zB 0 [] hmix s kH
  zD fun a w1 s=> ?_
 refine yV (CU.agg (fTR m t)) rfl s kH (fun v W h=>zOx h) fun b2 a w s=> ?_
 refine y8 (uB false) rfl s kH iiz fun a w s=> ?_
 refine zA rfl ?_
 refine tJ ?_
 replace s:=s.drop [3]
 refine zB 5 ((4, .Z (UF.eq r))::(5, .s (SF.row 6 (pvs m (tl t))))::(6, .Z (uB (qD rs (tl t))))::(7, .Z (uB (!(qD rs (tl t)))))::(3, .u (uB (!(qD rs (tl t))))):: []) hmix s kH
  (oc (qS (C:=(wC [r]).cf) kH iiz zCJ)<|oc (zLa (C:=cg (fTR m t)) 3 31 kH kH (fun _ _ h=>h.2) (fun b o cs W h hm=>zOw h hm))<|oc (zL zE zTk (fun u0 u1 W hb (h0:u0=r) (h1:(SF.row 6 (pvs m (tl t))).p u1 W)=>zOi (yJ hr_ h0 (s.up hb)) h1 hm hm0 hn fL (hT.below (s.up hb))))<|oc (zAr (qD rs (tl t)) iiz (fun _=>rfl))<|oc zG<|zD) fun a w2 s=> ?_
 refine zA rfl ?_
 refine tK ?_
 exact wH s (t:=3) rfl iiz
theorem zCB {W W':Wi} {e:Wk} {z:Nat} {Cs:List CU} (h:W.heap.size<=W'.heap.size) (v:Wj) (w:Wi) (hv:(wL W' e z Cs).p v w):(wL W e z Cs).p v w:=zBJ.mono hv h
theorem zMW {u:Wj} (h1:u.cells=#[u]) (h2:zU u=true) (h3:u.oneCell'=true) (v:Wj) (W:Wi) (h:(UF.eq u).p v W):v.cells.size=1/\(∀u,u∈v.cells.toList->u.oneCell'=true)/\v.cells.toList.all zU=true/\ ∀cs,(CU.len 1).p cs W->0+1<=cs.length/\(wC [u]).p (jR cs 0 v.cells.toList) W:=by
 obtain rfl:v=u:=h
 rw [h1]
 refine ⟨rfl,fun u hu=>by simp at hu;rw [hu];exact h3,by simp [h2],fun cs hc=> ?_⟩
 have hc':cs.length=1:=hc
 obtain ⟨c,rfl⟩:=List.length_eq_one_iff.1 hc'
 exact ⟨by simp,rfl⟩
theorem zFd {m:Nat} (hm0:0<m) {ps:List V2} {v:Wj} {W:Wi} (h:(SF.row 6 (pvs m ps)).p v W): ∀x,x∈ps->QB x.1 m/\QB x.2 m:=fun x hx=>by
 obtain ⟨i,hi,rfl⟩:=zGY hx
 obtain ⟨_,_,_,_,_,_,h5⟩:=h
 obtain ⟨b,o,cs,_,_,h6⟩:=h5 i _ (jU hi)
 exact zA8 hm0 (v:= .agg cs.toArray) h6
end Go.Proofs.Wd

namespace Go.Proofs.Wd
open Tryz
set_option maxRecDepth 100000
set_option maxHeartbeats 1000000
open Go.RowKit Lb
abbrev PX:=QX×QX
abbrev PX.p (x:PX):V2:=(x.1.q,x.2.q)
abbrev PX.u (x:PX):UF:=fPT (fQX x.1.n x.1.n' x.1.k x.1.d) (fQX x.2.n x.2.n' x.2.k x.2.d)
abbrev PX.cu (x:PX):CU:=CU.agg x.u
abbrev pxs (L:List PX):List CU:=L.map PX.cu
abbrev pps (L:List PX):List V2:=L.map PX.p
def PX.big (x:PX):Bool:=decide (2<max (max (max x.1.n x.1.n') x.2.n) x.2.n')
def gPt (L:List PX):Bool:=(L.take 9).any PX.big||decide (8<L.length)
theorem zGJ {x:PX} (h:x.big=false) {v:Wj} {W:Wi} (hv:x.u.p v W):(fPV 2 x.p).p v W:=by
 have h:=tZ h
 exact zHP (fun v W h'=>zUd h' oO oO) (fun v W h'=>zUd h' oO oO) hv
theorem zIb {L:List PX} (h:gPt L=false):L.length<=8/\ ∀x,x∈L->x.big=false:=by
 unfold gPt at h
 rw [Bool.or_eq_false_iff] at h
 have h2:=tZ h.2
 refine ⟨by omega,fun x hx=> ?_⟩
 have h1:=zVw.1 h.1 x (by rw [zVb oO];exact hx)
 simpa using h1
theorem zP4 {L:List PX} (h:gPt L=false) (v:Wj) (W:Wi) (hv:(SF.row 6 (pxs L)).p v W):(SF.row 6 (pvs 2 (pps L))).p v W:=
 zEy fL (fun i C D hC hD cs W hh=>by
  have hi:i<L.length:=by have:=(tT.1 hC).1;simpa using this
  rw [zU0,tQ hi] at hC
  rw [zU0,zU0,tQ hi] at hD
  cases hC;cases hD
  exact zGJ ((zIb h).2 _ (List.getElem_mem hi)) hh) v W hv
theorem zUG {x:PX} (cs:List Wj) (W:Wi) (h:(PX.cu x).p cs W): ∃u,cs[1]?=some u/\(fSl x.1.n).p u W:=by
 obtain ⟨s,A,n,c,A',n',c',s2,B,k,d,B',k',d',e,h1,h2⟩:=h
 rw [zDt e]
 have:=zOH _ W (show (QX.cu x.1).p [Value.bool s, .slice A n c, .slice A' n' c'] W from h1)
 exact this
theorem zUF {x:PX} (cs:List Wj) (W:Wi) (h:(PX.cu x).p cs W): ∃u,cs[2]?=some u/\(fSl x.1.n').p u W:=by
 obtain ⟨s,A,n,c,A',n',c',s2,B,k,d,B',k',d',e,h1,h2⟩:=h
 rw [zDt e]
 have:=zOG _ W (show (QX.cu x.1).p [Value.bool s, .slice A n c, .slice A' n' c'] W from h1)
 exact this
theorem zUE {x:PX} (cs:List Wj) (W:Wi) (h:(PX.cu x).p cs W): ∃u,cs[4]?=some u/\(fSl x.2.n).p u W:=by
 obtain ⟨s,A,n,c,A',n',c',s2,B,k,d,B',k',d',e,h1,h2⟩:=h
 rw [zDt e]
 have:=zOH _ W (show (QX.cu x.2).p [Value.bool s2, .slice B k d, .slice B' k' d'] W from h2)
 exact this
theorem zUD {x:PX} (cs:List Wj) (W:Wi) (h:(PX.cu x).p cs W): ∃u,cs[5]?=some u/\(fSl x.2.n').p u W:=by
 obtain ⟨s,A,n,c,A',n',c',s2,B,k,d,B',k',d',e,h1,h2⟩:=h
 rw [zDt e]
 have:=zOG _ W (show (QX.cu x.2).p [Value.bool s2, .slice B k d, .slice B' k' d'] W from h2)
 exact this
section
variable {F:Fence} {m:Nat} {P:Wn} {w0:Wi} {ops:Array Oper} {G:Nat->SF} {d:Tmp} {ty:Wk} {pos:String} {aft:Array Edge}
theorem zP9 {x y z u:Wm} {ats:Array Wk} (a b c e:Nat) (hx: ∀q W,(fct G x).p q W->q= .int .i64 (a:Nat)) (hy: ∀q W,(fct G y).p q W->q= .int .i64 (b:Nat)) (hz: ∀q W,(fct G z).p q W->q= .int .i64 (c:Nat)) (hu: ∀q W,(fct G u).p q W->q= .int .i64 (e:Nat)) (hd: ∀W,(G d).p (.int .i64 ((max (max (max a b) c) e:Nat):Int)) W:=by exact fun _=>rfl):qG F m P w0 ops G ⟨some d, .call ⟨.builtin .max,#[x,y,z,u],ats⟩,ty,pos,aft,none⟩:=by
 intro bb W K Q hb hr hK
 have e1:=hx _ _ (yY hr (x:=x) (by simp [Op.operands,Call.operands]))
 have e2:=hy _ _ (yY hr (x:=y) (by simp [Op.operands,Call.operands]))
 have e3:=hz _ _ (yY hr (x:=z) (by simp [Op.operands,Call.operands]))
 have e4:=hu _ _ (yY hr (x:=u) (by simp [Op.operands,Call.operands]))
 refine ⟨fun f hf=>(by
  unfold Oper.about at hf
  simp [resolve,go_sem] at hf), ?_⟩
 rw [Oper.semAt_eq _ _ _ (fun _ e=>by cases e)]
 have:(execOp bb.eval ⟨some d, .call ⟨.builtin .max,#[x,y,z,u],ats⟩,ty,pos,aft,none⟩).run P W= .ok (.value (.int .i64 ((max (max (max a b) c) e:Nat):Int))) W:=by
  have m2: ∀p q:Nat,(if (p:Int)<(q:Int) then Value.int .i64 (q:Nat) else .int .i64 (p:Nat))= .int .i64 ((max p q:Nat):Int):=fun p q=>by
   split<;>(congr 1;omega)
  simp only [execOp,resolve,invoke,builtin,e1,e2,e3,e4,Sem.run_bind,Sem.run_pure,Result.andThen_ok,List.map_toArray,List.map_cons,List.map_nil]
  simp [Builtin.max_,Builtin.max2,Sem.run_pure]
  have m3: ∀p q:Nat,(if (p:Int)<(q:Int) then (q:Int) else (p:Int))=((max p q:Nat):Int):=fun p q=>by split<;>omega
  try simp only [m3]
  try (congr 1;omega)
 rw [this]
 exact hK _ _ (fun d' e'=>by cases e';exact hd _) (tR _ _)
end
theorem zQv {L:List PX} {k:Nat} {x:PX} (hk:k<=8) (hx:L[k]?=some x) (h:x.big=true):gPt L=true:=by
 unfold gPt
 rw [Bool.or_eq_true]
 left
 refine zU8.2 ⟨x, ?_,h⟩
 have hlt:=(tT.1 hx).1
 exact List.mem_of_getElem? (i:=k) (by rw [List.getElem?_take,if_pos oO];exact hx)
theorem zQu {L:List PX} (h: ∀j y,j<9->L[j]?=some y->PX.big y=false):gPt L=decide (((pxs L).length:Int)>8):=by
 unfold gPt
 have:(L.take 9).any PX.big=false:=by
  refine zVw.2 fun x hx=> ?_
  obtain ⟨j,hj⟩:=List.getElem?_of_mem hx
  rw [List.getElem?_take] at hj
  split at hj
  ·rename_i hlt
   rw [h j x hlt hj];simp
  ·cases hj
 rw [this,Bool.false_or,zVv,zVa]
 omega
theorem zDD {L:List PX} {W:Wi} {l:Wj} (hl:(SF.row 6 (pxs L)).p l W):Calls prog 22 #[l] W (Ret W (fB (gPt L)).tS):=by
 refine yE [SF.row 6 (pxs L)] func22 rfl kH ⟨hl,trivial⟩ fun a s=> ?_
 refine tJ ?_
 refine zB 1 ((2, .u (uB false)):: []) hmix s kH
  (oc zG<|zD) fun a w1 s=> ?_
 refine zA rfl ?_
 refine tJ ?_
 refine tJ ?_
 refine zB 1 ((3, .u (uI 0)):: []) hmix s kH
  (oc zG<|zD) fun a w2 s=> ?_
 refine zA rfl ?_
 refine tN ?_
 refine zBp (fun k=>k<=L.length/\k<=9/\ ∀j y,j<k->L[j]?=some y->PX.big y=false) (fun k=> [(0, .o (SF.row 6 (pxs L))),(3, .u (uI ((k:Nat):Int)))]) (fun k=>9 - k) (0:Nat) (⟨tS _,by omega,fun j y hj=>absurd hj (zVe _)⟩) (s.keepK _ (fmz ⟨mz2,fmz ⟨.head _,fnz⟩⟩)) fun k a w hx s=> ?_
 refine tJ ?_
 refine tJ ?_
 refine zB 8 ((4, .Z (uI (k:Int)))::(5, .s (SF.row 6 (pxs L)))::(6, .Z (uI ((pxs L).length:Int)))::(7, .Z (uB (decide ((k:Int)<((pxs L).length:Int)))))::(8, .Z (uB (decide ((k:Int)<((pxs L).length:Int)))))::(9, .s (SF.imp ((decide ((k:Int)<((pxs L).length:Int)))=true) ((uI (k:Int)).tS)))::(10, .s (SF.imp ((decide ((k:Int)<((pxs L).length:Int)))=true) ((uB (decide ((k:Int)<=8))).tS)))::(11, .u (uB ((decide ((k:Int)<((pxs L).length:Int)))&&(decide ((k:Int)<=8))))):: []) hmix s kH
  (oc zC<|oc zC<|oc (zCb (z:=6) (Cs:=pxs L) kH iiz (fun _=>rfl))<|oc (zT .i64 (k:Int) ((pxs L).length:Int) (decide ((k:Int)<((pxs L).length:Int))) iiz iiz rfl rfl)<|oc zC<|oc (zF 8 (decide ((k:Int)<((pxs L).length:Int))) kH iiz (fun e=>qO [] ((uI (k:Int)).tS) fnz (fun _ _ h _=>h) kH zC) (fun e W h=>absurd h e))<|oc (zF 8 (decide ((k:Int)<((pxs L).length:Int))) kH iiz (fun e=>qO [(9,(uI (k:Int)).tS)] ((uB (decide ((k:Int)<=8))).tS) (fmz ⟨fun v W h=>yS (c:=(decide ((k:Int)<((pxs L).length:Int)))=true) (f:=(uI (k:Int)).tS) e h,fnz⟩) (fun _ _ h _=>h) kH (zT .i64 (k:Int) 8 (decide ((k:Int)<=8)) iiz iiz rfl rfl)) (fun e W h=>absurd h e))<|oc (yC (decide ((k:Int)<((pxs L).length:Int))) iiz (fun e v W h=>zDb (yS e h) e) (fun e v W h=>zCa h e))<|zD) fun a w3 s=> ?_
 refine zA rfl ?_
 refine StS.cond s ((decide ((k:Int)<((pxs L).length:Int)))&&(decide ((k:Int)<=8))) iiz (fun e=> ?_) (fun e=> ?_)
 ·rw [Bool.and_eq_true] at e
  have hk1:k<L.length:=by have:=tX e.1;simp at this;omega
  have hk2:k<=8:=by have:=tX e.2;omega
  obtain ⟨x,hxl⟩: ∃x,L[k]?=some x:=⟨_,tQ hk1⟩
  have hx_:(pxs L)[k]?=some (PX.cu x):=by rw [zU0,hxl];rfl
  refine tM ?_
  refine tJ ?_
  refine tN ?_
  refine tJ ?_
  refine zB 32 ((14, .s (SF.row 6 (pxs L)))::(15, .Z (uI (k:Int)))::(16, .s (wB (PX.cu x).cf))::(17, .s (wB ((PX.cu x).cf.at 0)))::(18, .s (wB ((PX.cu x).cf.at 0)))::(19, .s (wB ((PX.cu x).cf.at 1)))::(20, .Z (fSl (x.1.n)))::(21, .Z (uI (x.1.n:Int)))::(22, .s (SF.row 6 (pxs L)))::(23, .Z (uI (k:Int)))::(24, .s (wB (PX.cu x).cf))::(25, .s (wB ((PX.cu x).cf.at 0)))::(26, .s (wB ((PX.cu x).cf.at 2)))::(27, .Z (fSl (x.1.n')))::(28, .Z (uI (x.1.n':Int)))::(29, .s (SF.row 6 (pxs L)))::(30, .Z (uI (k:Int)))::(31, .s (wB (PX.cu x).cf))::(32, .s (wB ((PX.cu x).cf.at 3)))::(33, .s (wB ((PX.cu x).cf.at 3)))::(34, .s (wB ((PX.cu x).cf.at 4)))::(35, .Z (fSl (x.2.n)))::(36, .Z (uI (x.2.n:Int)))::(37, .s (SF.row 6 (pxs L)))::(38, .Z (uI (k:Int)))::(39, .s (wB (PX.cu x).cf))::(40, .s (wB ((PX.cu x).cf.at 3)))::(41, .s (wB ((PX.cu x).cf.at 5)))::(42, .Z (fSl (x.2.n')))::(43, .Z (uI (x.2.n':Int)))::(44, .Z (uI ((max (max (max x.1.n x.1.n') x.2.n) x.2.n':Nat):Int)))::(45, .u (uB (PX.big x))):: []) hmix s kH
   (oc zC<|oc zC<|oc (zBz (z:=6) (Cs:=pxs L) (i:=k) (C:=PX.cu x) kH hx_ iiz iiz)<|oc (zR (C:=(PX.cu x).cf) 0 kH)<|oc (yP (C:=(PX.cu x).cf) 0 0 kH)<|oc (yP (C:=(PX.cu x).cf) 0 1 kH)<|oc (jP (C:=(PX.cu x).cf) (k:=1) kH (h:=zUG))<|oc (zFg kH (fun v W ⟨A,c,e⟩=>⟨A,x.1.n,c,e,rfl⟩))<|oc zC<|oc zC<|oc (zBz (z:=6) (Cs:=pxs L) (i:=k) (C:=PX.cu x) kH hx_ iiz iiz)<|oc (zR (C:=(PX.cu x).cf) 0 kH)<|oc (yP (C:=(PX.cu x).cf) 0 2 kH)<|oc (jP (C:=(PX.cu x).cf) (k:=2) kH (h:=zUF))<|oc (zFg kH (fun v W ⟨A,c,e⟩=>⟨A,x.1.n',c,e,rfl⟩))<|oc zC<|oc zC<|oc (zBz (z:=6) (Cs:=pxs L) (i:=k) (C:=PX.cu x) kH hx_ iiz iiz)<|oc (zR (C:=(PX.cu x).cf) 3 kH)<|oc (yP (C:=(PX.cu x).cf) 3 0 kH)<|oc (yP (C:=(PX.cu x).cf) 3 1 kH)<|oc (jP (C:=(PX.cu x).cf) (k:=4) kH (h:=zUE))<|oc (zFg kH (fun v W ⟨A,c,e⟩=>⟨A,x.2.n,c,e,rfl⟩))<|oc zC<|oc zC<|oc (zBz (z:=6) (Cs:=pxs L) (i:=k) (C:=PX.cu x) kH hx_ iiz iiz)<|oc (zR (C:=(PX.cu x).cf) 3 kH)<|oc (yP (C:=(PX.cu x).cf) 3 2 kH)<|oc (jP (C:=(PX.cu x).cf) (k:=5) kH (h:=zUD))<|oc (zFg kH (fun v W ⟨A,c,e⟩=>⟨A,x.2.n',c,e,rfl⟩))<|oc (zP9 (x.1.n) (x.1.n') (x.2.n) (x.2.n') iiz iiz iiz iiz)<|oc (zT .i64 ((max (max (max x.1.n x.1.n') x.2.n) x.2.n':Nat):Int) 2 (PX.big x) iiz iiz (by unfold PX.big;show decide (((max (max (max x.1.n x.1.n') x.2.n) x.2.n':Nat):Int)>2)=_;rw [zVv];omega) rfl)<|zD) fun a w4 s=> ?_
  refine zA rfl ?_
  refine StS.cond s (PX.big x) iiz (fun e=> ?_) (fun e=> ?_)
  ·refine tJ ?_
   refine zB 1 ((2, .u (uB true)):: []) hmix s kH
    (oc zG<|zD) fun a w5 s=> ?_
   refine zA rfl ?_
   refine tK ?_
   exact wH s (t:=2) rfl (fun v W h=>by rw [zQv hk2 hxl e];exact h)
  ·have hbig:=e
   refine tM ?_
   refine yF 2 ((12, .Z (uI (k:Int)))::(13, .u (uI ((k+1:Nat):Int))):: []) s kH
    (oc zC<|oc (qA .i64 (k:Int) 1 ((k+1:Nat):Int) iiz iiz (wrap64 _ _ oO oO))<|zD) fun a w6 s=> ?_
   replace s:=s.drop [3]
   refine y8 (uI ((k+1:Nat):Int)) rfl s kH iiz fun a w s=> ?_
   refine zA rfl ?_
   exact ⟨k+1,⟨by omega,by omega,fun j y hj hy=>by rcases zVf (zVg hj) with h|h;exact hx.2.2 j y h hy;rw [h,hxl] at hy;cases hy;exact hbig⟩,(by show 9 - (k+1)<9 - k;omega),s.keepK _ (fmz ⟨mz4,fmz ⟨.head _,fnz⟩⟩)⟩
 ·have hend:L.length<=k∨k=9:=by
   rw [Bool.and_eq_false_iff] at e
   rcases e with e|e
   ·have h7:=tZ e;simp at h7;omega
   ·have h7:=tZ e;omega
  refine zCS ?_
  refine tJ ?_
  refine zB 4 ((46, .s (SF.row 6 (pxs L)))::(47, .Z (uI ((pxs L).length:Int)))::(48, .Z (uB (decide (((pxs L).length:Int)>8))))::(2, .u (uB (decide (((pxs L).length:Int)>8)))):: []) hmix s kH
   (oc zC<|oc (zCb (z:=6) (Cs:=pxs L) kH iiz (fun _=>rfl))<|oc (zT .i64 ((pxs L).length:Int) 8 (decide (((pxs L).length:Int)>8)) iiz iiz rfl rfl)<|oc zG<|zD) fun a w7 s=> ?_
  refine zA rfl ?_
  refine tK ?_
  exact wH s (t:=2) rfl (fun v W h=>by rw [zQu (fun j y hj hy=>hx.2.2 j y (by have:=(tT.1 hy).1;omega) hy)];exact h)
def zET (p q:V2):Int:=if qsg p.1 q.1=0 then qsg p.2 q.2 else qsg p.1 q.1
theorem zSo {p q:V2} (h:(qsg p.1 q.1 !=0)=true):zET p q=qsg p.1 q.1:=by unfold zET;rw [if_neg (by simpa using h)]
theorem zSn {p q:V2} (h:(qsg p.1 q.1 !=0)=false):zET p q=qsg p.2 q.2:=by unfold zET;rw [if_pos (by simpa using h)]
abbrev zEg (L:List Int):List CU:=L.map fun z=>wC [.int .i64 z]
def gI (L:List Int) (i:Nat):Int:=L.getD i 0
theorem zF3 {L:List Int} {i:Nat} (h:i<L.length):(zEg L)[i]?=some (wC [.int .i64 (gI L i)]):=by
 unfold zEg gI;rw [zU0,tY,tQ h];rfl
def zBf (L:List Int) (k:Nat):List V2:=(List.range k).map fun j=>(((gI L (2*j):Int):Rat),((gI L (2*j+1):Int):Rat))
theorem zKb (L:List Int) (k:Nat):pns (zBf L (k+1))=pns (zBf L k)++ [CU.agg (fPN (((gI L (2*k):Int):Rat),((gI L (2*k+1):Int):Rat)))]:=by
 unfold zBf pns
 rw [List.range_succ,zVu,zVu]
 rfl
theorem zMN (L:List Int) (k:Nat):(zBf L k).length=k:=by simp [zBf]
def zUi (L:List Int):Prop:= ∀i,-9223372036854775808<=gI L i/\gI L i<=9223372036854775807
theorem zSR (a b c d e f:Int):yI prog 67 6 [(0, .int .i64 a),(1, .int .i64 b),(2, .int .i64 c),(3, .int .i64 d),(4, .int .i64 e),(5, .int .i64 f)]=some (3,#[.int .i64 a, .int .i64 b, .int .i64 c, .int .i64 d, .int .i64 e, .int .i64 f]):=by kernel_rfl
theorem zNa {L:List Int} {n:Nat} {cs:Array Wj} {e:Wk} {W:Wi} (hn:L.length=n) (hc:cs.toList=L.map (.int .i64)):n<=1000->(SF.row 1 (zEg L)).p (.slice (some ⟨W.heap.size,0,none⟩) n n) (W.alloc (.cells cs e)):=by
 intro h
 refine ⟨some ⟨W.heap.size,0,none⟩,n,by simp [hn],by simp [hn],by omega,fun e=>(by cases e),fun i C hi=> ?_⟩
 have hlt:i<L.length:=by have:=(tT.1 hi).1;simpa using this
 rw [zF3 hlt] at hi
 cases hi
 refine ⟨W.heap.size,0, [.int .i64 (gI L i)],rfl,fun j u hj=> ?_,rfl⟩
 obtain rfl:j=0:=by have:=(tT.1 hj).1;simp at this;omega
 obtain rfl:Value.int .i64 (gI L i)=u:=by simpa using hj
 have hm:=zBt W cs e
 have h8:cs.toList[i]?=some (Value.int .i64 (gI L i)):=by
  rw [hc,zU0]
  unfold gI
  rw [tY,tQ hlt];rfl
 have:=hm i _ h8
 simpa using this
section
variable {F:Fence} {m:Nat} {P:Wn} {w0:Wi} {ops:Array Oper} {G:Nat->SF} {d:Tmp} {ty:Wk} {pos:String} {aft:Array Edge}
theorem zGS {t:Wk} {i j k:Nat} {x y z:Wm} (h: ∀u v q W,(fct G x).p u W->(fct G y).p v W->(fct G z).p q W-> ∃cells,P.built t [(i,u),(j,v),(k,q)]=some cells/\(G d).p (.agg cells) W):qG F m P w0 ops G ⟨some d, .build t #[(i,x),(j,y),(k,z)],ty,pos,aft,none⟩:=
 zEa fun b W hb hh=>by
  obtain ⟨cells,h1,h2⟩:=h _ _ _ W (hh x fL) (hh y fL) (hh z fL)
  exact ⟨cells,by simpa using h1,h2⟩
end
theorem zEJ {F:Fence} {m:Nat} {w0:Wi} {ops:Array Oper} {G:Nat->SF} {d:Tmp} {ty:Wk} {pos:String} {aft:Array Edge} (a b c e f g:Int) (hd: ∀v W,(SF.row 1 (zEg [a,b,c,e,f,g])).p v W->(G d).p v W):qG F m prog w0 ops G ⟨some d, .buildSlice 67 6 #[(0, .const (.int .i64 a)),(1, .const (.int .i64 b)),(2, .const (.int .i64 c)),(3, .const (.int .i64 e)),(4, .const (.int .i64 f)),(5, .const (.int .i64 g))],ty,pos,aft,none⟩:=
 zD6 fun bb W hb hh=>by
  have h1:=zSR a b c e f g
  have ev: ∀v:Wj,bb.eval (.const v)=v:=fun _=>rfl
  refine ⟨3,#[.int .i64 a, .int .i64 b, .int .i64 c, .int .i64 e, .int .i64 f, .int .i64 g],by simpa [ev] using h1,hd _ _ (zNa (L:= [a,b,c,e,f,g]) rfl rfl oO)⟩
theorem trB (s:Bool) (A A':Wl Addr) (n n' c c':Nat) (s2:Bool) (B B':Wl Addr) (k k' d d':Nat) (t:Bool) (C C':Wl Addr) (i i' j j':Nat) (t2:Bool) (D D':Wl Addr) (x x' y y':Nat) (r:Bool) (E E':Wl Addr) (p p' q q':Nat) (r2:Bool) (F F':Wl Addr) (g g' h h':Nat):prog.built 42 [(0, .agg #[.bool s, .slice A n c, .slice A' n' c', .bool s2, .slice B k d, .slice B' k' d']),(1, .agg #[.bool t, .slice C i j, .slice C' i' j', .bool t2, .slice D x y, .slice D' x' y']),(2, .agg #[.bool r, .slice E p q, .slice E' p' q', .bool r2, .slice F g h, .slice F' g' h'])]=some #[.bool s, .slice A n c, .slice A' n' c', .bool s2, .slice B k d, .slice B' k' d', .bool t, .slice C i j, .slice C' i' j', .bool t2, .slice D x y, .slice D' x' y', .bool r, .slice E p q, .slice E' p' q', .bool r2, .slice F g h, .slice F' g' h']:=by kernel_rfl
theorem zUm {m:Nat} {t:V6} {u v q:Wj} {W:Wi} (hu:(fPV m t.1).p u W) (hv:(fPV m t.2.1).p v W) (hq:(fPV m t.2.2).p q W): ∃cells,prog.built 42 [(0,u),(1,v),(2,q)]=some cells/\(fTR m t).p (.agg cells) W:=by
 obtain ⟨s,A,n,c,A',n',c',s2,B,k,d,B',k',d',rfl,h1,h2⟩:=hu
 obtain ⟨s3,A3,n3,c3,A4,n4,c4,s4,B3,k3,d3,B4,k4,d4,rfl,h3,h4⟩:=hv
 obtain ⟨s5,A5,n5,c5,A6,n6,c6,s6,B5,k5,d5,B6,k6,d6,rfl,h5,h6⟩:=hq
 exact ⟨_,trB ..,_,_,_,rfl,⟨s,A,n,c,A',n',c',s2,B,k,d,B',k',d',rfl,h1,h2⟩,⟨s3,A3,n3,c3,A4,n4,c4,s4,B3,k3,d3,B4,k4,d4,rfl,h3,h4⟩,⟨s5,A5,n5,c5,A6,n6,c6,s6,B5,k5,d5,B6,k6,d6,rfl,h5,h6⟩⟩
theorem zUz (u0 u1 u2 u3 u4 u5 u6 u7 u8 u9 u10 u11 u12 u13 u14 u15 u16 u17:Wj):yI prog 23 1 [(0, .agg #[u0,u1,u2,u3,u4,u5,u6,u7,u8,u9,u10,u11,u12,u13,u14,u15,u16,u17])]=some (42,#[u0,u1,u2,u3,u4,u5,u6,u7,u8,u9,u10,u11,u12,u13,u14,u15,u16,u17]):=by kernel_rfl
theorem zRK {cs:List Wj} (h:cs.length=18): ∃u0 u1 u2 u3 u4 u5 u6 u7 u8 u9 u10 u11 u12 u13 u14 u15 u16 u17,cs= [u0,u1,u2,u3,u4,u5,u6,u7,u8,u9,u10,u11,u12,u13,u14,u15,u16,u17]:=by
 match cs,h with
 | [u0,u1,u2,u3,u4,u5,u6,u7,u8,u9,u10,u11,u12,u13,u14,u15,u16,u17],_=>exact ⟨u0,u1,u2,u3,u4,u5,u6,u7,u8,u9,u10,u11,u12,u13,u14,u15,u16,u17,rfl⟩
theorem zPu {m:Nat} {t:V6} {v:Wj} {W:Wi} (h:(fTR m t).p v W): ∃cs:List Wj,v= .agg cs.toArray/\cs.length=18/\(CU.agg (fTR m t)).p cs W:=by
 obtain ⟨a,b,c,rfl,h1⟩:=id h
 exact ⟨_,rfl,(zKc m t _ W h).1,h⟩
theorem zKl {m:Nat} {t:V6} {u:Wj} {W:Wi} (h:(fTR m t).p u W): ∃e cs,yI prog 23 1 [(0,u)]=some (e,cs)/\(SF.row 18 (trs m [t])).p (.slice (some ⟨W.heap.size,0,none⟩) 1 1) (W.alloc (.cells cs e)):=by
 obtain ⟨cs,rfl,l,hc⟩:=zPu h
 obtain ⟨u0,u1,u2,u3,u4,u5,u6,u7,u8,u9,u10,u11,u12,u13,u14,u15,u16,u17,rfl⟩:=zRK l
 refine ⟨_,_,zUz ..,some ⟨W.heap.size,0,none⟩,1,rfl,tU _,by decide,fun e=>(by cases e),fun i C hi=> ?_⟩
 have hb:=zCo W (.cells #[u0,u1,u2,u3,u4,u5,u6,u7,u8,u9,u10,u11,u12,u13,u14,u15,u16,u17] 42)
 have hm:=zBt W #[u0,u1,u2,u3,u4,u5,u6,u7,u8,u9,u10,u11,u12,u13,u14,u15,u16,u17] 42
 obtain rfl:i=0:=by have:=(tT.1 hi).1;simp at this;omega
 obtain rfl:CU.agg (fTR m t)=C:=by simpa using hi
 refine ⟨W.heap.size,0,_,rfl, ?_,(CU.agg (fTR m t)).us _ _ _ hc (zP hb)⟩
 rw [show 0+0*18=0 from rfl]
 exact hm
def okS (L:List Int):Prop:= ∀i,(gI L i).natAbs<100
theorem okS.ok {L:List Int} (h:okS L):zUi L:=fun i=>by have:=h i;omega
theorem zEP {L:List Int} (h:L.all (fun z=>decide (z.natAbs<100))=true):okS L:=fun i=>by
 unfold gI
 rw [tY]
 cases e:L[i]? with
 |none=>decide
 |some z=>
  have:=List.all_eq_true.1 h z (List.mem_of_getElem? e)
  exact tX this
theorem qbz {z:Int} (h:z.natAbs<100):QB ((z:Int):Rat) 1:=QB.int (Nat.lt_trans h dA) dA
theorem zFr {L:List Int} (h:okS L) (k:Nat): ∀p,p∈zBf L k->QB p.1 1/\QB p.2 1:=fun p hp=>by
 obtain ⟨j,_,rfl⟩:=List.mem_map.1 hp
 exact ⟨qbz (h _),qbz (h _)⟩
end Go.Proofs.Wd
