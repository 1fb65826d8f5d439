/- Natural numbers as values; the walks of gcd's Reduce, Lcm, Coprime; Th and what it needs. -/
import Derived.Test.YthegekeodchhiaaGreatDoorMLR18
import Derived.Test.YthegekeodchhiaaGreatDoorMLR13
import Derived.Test.YthegekeodchhiaaGreatDoorMLR7
import Derived.Test.YthegekeodchhiaaGreatDoorMLR19
import Derived.Test.YthegekeodchhiaaGreatDoorMLR17
import Derived.Test.YthegekeodchhiaaGreatDoorMLR6
import Derived.Test.YthegekeodchhiaaGreatDoorMLR1
import Derived.Test.YthegekeodchhiaaGreatDoorMLR9
import Derived.Test.YthegekeodchhiaaGreatDoorMLR16
theorem kH {P:Prop} (h:P:=by kernel_rfl):P:=h
theorem oO {P:Prop} (h:P:=by omega):P:=h
theorem dA {P:Prop} (h:P:=by decide):P:=h
abbrev sX:=@Go.wpIn_seq
abbrev sY:=@Go.wpIn_ret
abbrev sZ:=@Nat.lt_of_le_of_lt
abbrev tA:=@Go.wpIn_skip
abbrev tB:=@Nat.lt_of_lt_of_le
abbrev tC:=@Go.wpIn_block
abbrev tD:=@List.getElem?_eq_getElem
abbrev tE:=@Nat.pow_le_pow_right
abbrev tF:=@Nat.le_trans
abbrev tG:=@Nat.le_refl
abbrev tH:=@Nat.zero_le
abbrev tI:=@of_decide_eq_false
abbrev tJ:=@of_decide_eq_true
abbrev tK:=@Nat.div_le_self
abbrev tL:=@List.getElem?_eq_some_iff
abbrev tM:=@List.getElem?_map
abbrev tN:=@Go.RowKit.Below.refl
abbrev tO:=@decide_eq_true
abbrev tP:=@decide_eq_false
abbrev tQ:=@congrArg
abbrev tR:=@List.length_map
abbrev tS:=@Nat.eq_zero_or_pos
abbrev tT:=@Option.some.inj
abbrev tU:=@Go.KeepsOthers.setCell
abbrev tV:=@Go.wpIn_exit
abbrev tW:=@List.mem_cons
abbrev tX:=@List.nil_append
abbrev tY:=@Nat.le_of_lt
abbrev tZ:=@Nat.lt_or_eq_of_le
abbrev zGy:=@Rat.one_mul
abbrev zMv:=@Rat.num_eq_zero
abbrev zVM:=@List.take_add_one
abbrev zVN:=@Nat.pow_add
abbrev zVO:=@Nat.mul_assoc
abbrev zVP:=@Int.tdiv_eq_ediv_of_nonneg
abbrev zVQ:=@decide_eq_decide
abbrev zVR:=@List.getD_eq_getElem?_getD
abbrev zVS:=@Nat.pow_lt_pow_right
abbrev zVT:=@Nat.le_of_lt_succ
abbrev zVU:=@Option.map_eq_some_iff
abbrev zVV:=@List.length_drop
abbrev zVW:=@Rat.mkRat_zero
abbrev zVX:=@Go.World.block_lt_of_cell?
abbrev zVY:=@List.size_toArray
abbrev zVZ:=@List.length_cons
abbrev zV0:=@List.length_nil
abbrev zV1:=@Array.replicate_succ
abbrev zV2:=@Array.replicate_zero
abbrev zV3:=@List.push_toArray
abbrev zV4:=@List.append_toArray
abbrev zV5:=@List.cons_append
abbrev zV6:=@Classical.byContradiction
abbrev zV7:=@List.mem_range
abbrev zV8:=@Nat.not_lt_zero
abbrev zV9:=@Rat.lt_irrefl
abbrev zWa:=@List.mem_append
abbrev zWb:=@Nat.gcd_pos_of_pos_right
abbrev zWc:=@Int.sign_eq_neg_one_of_neg
abbrev zWd:=@List.take_append_of_le_length
abbrev zWe:=@List.drop_append_of_le_length
abbrev Wg:=Go.World
abbrev Wh:=Go.Value
abbrev Wi:=Go.TypeId
abbrev Wj:=Option
abbrev Wk:=Go.Operand
abbrev Wl:=Go.Program
namespace Go.Proofs.Wd
open Tryz
set_option maxHeartbeats 1000000
open Go.RowKit Lb
theorem zUe {W:Wg} {m:Nat} {v v':Wh} {a b:Nat} (h:LV W m v a) (h':LV W m v' b) (hm:m<=2000) (hT:Tab W):Calls prog 116 #[v,v'] W (zNq W (Nat.gcd a b)):=by
 obtain ⟨A,n,c,l,rfl,h1,h2,h3,rfl⟩:=h
 obtain ⟨A',n',c',l',rfl,h1',h2',h3',rfl⟩:=h'
 exact (zRI A n c l A' n' c' l' W h1 h1' h2 h2' oO oO hT).mono fun _ _=>jH.v
theorem zPM {a b m:Nat} (ha:a<BB^m) (hb:b<BB^m):Nat.gcd a b<BB^m:=by
 rcases tS a with rfl|h
 ·rwa [Nat.gcd_zero_left]
 ·exact sZ (Nat.gcd_le_left b h) ha
theorem zNd {m:Nat} {v vg:Wh} {a g B:Nat} {W:Wg} (h:LV W m v a) (hg:LV W m vg g) (hm:m<=2000) (hg0:0<g) (hc:W.cell? ⟨B,0,none⟩=some vg):
  Calls prog 136 #[v,pO B 0] W (zNq W (a / g)):=by
 obtain ⟨A,n,c,l,rfl,h1,h2,h3,h4⟩:=h
 obtain ⟨A',n',c',l',rfl,h1',h2',h3',h4'⟩:=hg
 have hd:=zJz a g hg0 A n c l A' n' c' l' W h1 h2 h1' h2' h4 h4' oO oO
 have H4:=hid h4;have H4':=hid h4'
 clear h4 h4'
 go_enter func136,ntmps136
 go_wp2_with fail
 refine hd.mono ?_
 rintro e w4 ⟨A4,n4,c4,l4,A5,n5,c5,l5,rfl,hi4,hr4,hi5,hr5,hb5⟩
 go_wp2_with fail
 go_ret
 exact ⟨_,rfl,⟨A4,n4,c4,l4,rfl,hi4,hr4⟩,hb5⟩
theorem zTD (A:Wj Addr) (n c:Nat) (w:Wg):
  Calls prog 117 #[.slice A n c] w fun e w'=>e= .returned (.func (.func 136) #[] #[pO w.heap.size 0])/\w'=w.alloc (.cells #[.slice A n c] 23):=by
 go_enter func117,ntmps117
 go_wp2
 go_ret
 exact ⟨rfl,rfl⟩
theorem zN8 {W:Wg} {m:Nat} {v v':Wh} {a b:Nat} (h:LV W m v a) (h':LV W m v' b) (hm:m<=2000) (hT:Tab W):Calls prog 93 #[v,v'] W (zU3 W (a / Nat.gcd a b) (b / Nat.gcd a b)):=by
 have hgc:=zUe h h' hm hT
 have hgl:=zPM h.bound h'.bound
 have hen: ∀args w,(callFunc 136 args).run prog w= .ok (.enter 136 args) w:=enters_of func136 kH rfl
 obtain ⟨g,hg⟩: ∃g,Nat.gcd a b=g:=⟨_,rfl⟩
 rw [hg] at hgc hgl ⊢
 rcases tS g with h0|h0
 ·have HZ:=hid h0
  go_enter func93,ntmps93
  go_wp2_with fail
  refine hgc.mono ?_
  rintro e w4 ⟨v4,rfl,⟨A4,n4,c4,l4,rfl,hi4,hr4⟩,hb4⟩
  obtain rfl:n4=0:=by rw [<-hr4.len];exact hi4.zero_iff.1 HZ.out
  go_wp2_with fail
  go_ret2
  exact ⟨_,_,rfl,⟨none,0,0, [],rfl,by rw [HZ.out,Nat.div_zero];exact Is.nil,wL _⟩,⟨none,0,0, [],rfl,by rw [HZ.out,Nat.div_zero];exact Is.nil,wL _⟩,hb4⟩
 ·clear hg
  go_enter func93,ntmps93
  go_wp2_with fail
  refine hgc.mono ?_
  rintro e w4 ⟨v4,rfl,⟨A4,n4,c4,l4,rfl,hi4,hr4⟩,hb4⟩
  have hn4:0<n4:=by rw [<-hr4.len];exact hi4.pos_iff.1 h0
  have hb5:=hb4.trans ((tN _ w4).alloc (tG _) (.cells #[.slice A4 n4 c4] 23)|>.mono hb4.size)
  have x5:=Boxed.new w4 23 (.slice A4 n4 c4)
  obtain ⟨W5,hW5⟩: ∃W5,w4.alloc (.cells #[.slice A4 n4 c4] 23)=W5:=⟨_,rfl⟩
  rw [hW5] at hb5 x5
  have hg5:LV W5 m (.slice A4 n4 c4) g:=by rw [<-hW5];exact (y7.lv ⟨A4,n4,c4,l4,rfl,hi4,hr4⟩ hgl).below ((tN _ w4).alloc (tG _) _)
  have hby:=zTD A4 n4 c4 w4
  rw [hW5] at hby
  clear hW5
  go_wp2_with fail
  refine hby.mono ?_
  rintro e w6 ⟨rfl,rfl⟩
  go_wp2_with fail
  refine (zNd (h.below hb5) hg5 hm h0 x5.cell).mono ?_
  rintro e w7 ⟨v7,rfl,hv7,hb7⟩
  go_wp2_with fail
  refine (zNd ((h'.below hb5).below hb7) (hg5.below hb7) hm h0 ((hb7.cell (p:=⟨w4.heap.size,0,none⟩) (z7 x5.cell)).trans x5.cell)).mono ?_
  rintro e w8 ⟨v8,rfl,hv8,hb8⟩
  go_wp2_with fail
  go_ret2
  have t1:=hb5.trans (hb7.mono hb5.size)
  exact ⟨_,_,rfl,hv7.below hb8,hv8,t1.trans (hb8.mono t1.size)⟩
end Go.Proofs.Wd

namespace Go.Proofs.Wd
open Tryz
set_option maxRecDepth 100000
open Go.RowKit Lb
theorem zPr {W:Wg} {m:Nat} {v:Wh} {x:Nat} (h:LV W m v x) (hm:m<=100000):Calls prog 90 #[v] W (zNq W x):=by
 obtain ⟨A,n,c,l,rfl,h1,h2,h3,rfl⟩:=h
 exact (qY A n c l W h1 h2 oO).mono fun _ _=>jH.v
theorem Tab.bls {W w:Wg} {b:Nat} {cs:List Wh} {te:Wi} (hT:Tab W) (hb:W.heap[b]?=some (.cells cs.toArray te (0,0))) (h0: ∃s,cs[0]?=some (.bool s)) (hg:BlS (fun k=>k=b) W w):Tab w:=fun j hj=>by
 have h1:=hT j hj
 have hne:(0:Nat)≠b:=fun e=>by
  have h2:=hT 0 dA
  obtain ⟨s,hs⟩:=h0
  unfold World.cell? at h2
  rw [show ((⟨0,0,none⟩:Addr).block)=b from e,hb] at h2
  simp [hs] at h2
 exact (World.cell?_of_block (a:=⟨0,j,none⟩) (hg.block _ (z7 h1) hne)).trans h1
theorem zIq {m:Nat} {k:Int} {d:Nat} {cs:List Wh} {W:Wg} (h:QVp m k d (.agg cs.toArray) W): ∃s,cs[0]?=some (.bool s):=by
 obtain ⟨u,h1,s,rfl⟩:=zSq cs W h
 exact ⟨s,h1⟩
theorem zBT {m:Nat} {k:Int} {d:Nat} {cs:List Wh} {W:Wg} (h:QVp m k d (.agg cs.toArray) W):cs.all yR=true:=by
 have:=(zDA (v:= .agg cs.toArray) h).2
 simpa [Value.cells] using this
theorem zFZ {W:Wg} {v:Wh} {x:Nat} (h:y7 W v x):Calls prog 37 #[v] W (Ret W (fNV (x:Int)).tS):=by
 refine z9 [(yQ x).tS] func37 rfl kH ⟨h,trivial⟩ fun a s=> ?_
 refine sX ?_
 refine zC 0 [] hmix s kH
  zD fun a w1 s=> ?_
 refine z4 (CU.len 2) (cs:= [.bool false, .slice none 0 0]) kH rfl s kH (fun W=>rfl) rfl fun b2 a w s=> ?_
 refine zA rfl ?_
 refine sX ?_
 refine zC 2 ((3, .Z (yQ x))::(4, .u (fNV (x:Int))):: []) hmix s kH
  (oc zB<|oc (zBB (fun u W (hu:y7 W u x)=>zNf hu))<|zD) fun a w2 s=> ?_
 refine zN (CU.agg (fNV (x:Int))) ((fNV (x:Int)).tS) rfl s kH rfl rfl rfl iiz iiz y2 fun a w s=> ?_
 refine zA rfl ?_
 refine sY ?_
 exact wI s (CU.agg (fNV (x:Int))) rfl kH rfl rfl (qQ _) (fun cs W h=>h)
theorem zN5 {W:Wg} (z:Int) (hz: -9223372036854775808<=z/\z<=9223372036854775807):Calls prog 91 #[.int .i64 z] W (Ret W (fQN (z:Rat)).tS):=by
 refine z9 [(fI z).tS] func91 rfl kH ⟨rfl,trivial⟩ fun a s=> ?_
 refine sX ?_
 refine zC 0 [] hmix s kH
  zD fun a w1 s=> ?_
 refine z4 (CU.len 3) (cs:=zR3) kH rfl s kH (fun W=>rfl) rfl fun b2 a w s=> ?_
 refine zA rfl ?_
 refine sX ?_
 refine zC 4 ((3, .Z (uI z))::(4, .Z (fNV z))::(5, .Z (yQ 1))::(6, .u (fQN (z:Rat))):: []) hmix s kH
  (oc zB<|oc (zH zE zUu (fun u0 W hb (h0:u0= .int .i64 z)=>by subst h0;exact zVy z hz))<|oc (qB (fun u W (hu:u= .int .u32 1)=>zG1 hu))<|oc (yS (fun u v W (hu:NV W u z) (hv:y7 W v 1)=>zHY (q:=(z:Rat)) hu hv))<|zD) fun a w2 s=> ?_
 refine zN (CU.agg (fQN (z:Rat))) ((fQN (z:Rat)).tS) rfl s kH rfl rfl rfl iiz iiz zU fun a w s=> ?_
 refine zA rfl ?_
 refine sY ?_
 exact wI s (CU.agg (fQN (z:Rat))) rfl kH rfl rfl (z5 _) (fun cs W h=>h)
theorem zQG {W:Wg} {b m:Nat} {k:Int} {d:Nat} {cs:List Wh} (hh:W.heap[b]?=some (.cells cs.toArray 84 (0,0))) (hc:QVp m k d (.agg cs.toArray) W) (hm:m<=2000) (hd:d=0):Calls prog 60 #[pO b 0] W (zNp W b 84 (CU.agg (fQN ((0:Int):Rat))) (uB false).tS):=by
 have hz:true=decide (d=0):=(tO hd).symm
 refine zF8 b [(0,UF.eq (pO b 0))] [⟨0,84,CU.agg (fQV m k d),b,false⟩] func60 rfl kH (fun q hq=>by simp at hq;subst hq;exact ⟨by simp,rfl⟩) ⟨⟨cs,rfl, .inr (.inr rfl),hh,hc,zBT hc,fun y hy=>by cases hy⟩,trivial⟩ (fun x hx=>by simp at hx;subst hx;simp) fun a s=> ?_
 refine sX ?_
 refine zC 1 ((2, .u (uB false)):: []) hmix s kH
  (oc zF<|zD) fun a w1 s=> ?_
 refine zA rfl ?_
 refine sX ?_
 refine sX ?_
 refine zC 8 ((3, .s (wG b (cg (fQV m k d))))::(4, .Y (fQV m k d))::(5, .X (fQV m k d) 0)::(6, .X (fQV m k d) 2)::(7, .Z (fLV m d))::(8, .Z (yQ d))::(9, .s (zMW d))::(10, .u (uB true)):: []) hmix s kH
  (oc zB<|oc (qI (C:=cg (fQV m k d)))<|oc (zK (C:=cg (fQV m k d)) 0 kH)<|oc (yE (C:=cg (fQV m k d)) 0 2 kH)<|oc (yL (C:=cg (fQV m k d)) (k:=2) kH (h:=zHn))<|oc (zH zE zS3 (fun u0 W hb (h0:LV W m u0 d)=>zPr h0 oO))<|oc (zCB kH iiz)<|oc (zEb hz)<|zD) fun a w2 s=> ?_
 refine zA rfl ?_
 refine StS.cond s true iiz (fun e=> ?_) (fun e=>by cases e)
 refine sX ?_
 refine zC 4 ((11, .Z (UF.eq (pO b 0)))::(12, .u (fQN ((0:Int):Rat)))::(13, .Z (UF.eq (pO b 0)))::(14, .u (UF.eq (pO b 0))):: []) hmix s kH
  (oc (zB (fun _ _ _ h=>h.1))<|oc (zH zE zS2 (fun u0 W hb (h0:u0= .int .i64 0)=>by subst h0;exact zN5 0 dA))<|oc (zB4 (a:=⟨b,0,none⟩) iiz)<|oc (jJ (b:=b) (o:=0) 0 kH iiz)<|zD) fun a w3 s=> ?_
 refine zBn (c:=0) (o:=0) (kk:=3) (CU.agg (fQN ((0:Int):Rat))) ((fQN ((0:Int):Rat)).tS) rfl s kH rfl rfl iiz iiz zNQ fun a w s=> ?_
 refine zA rfl ?_
 refine sX ?_
 replace s:=s.drop [2]
 refine zC 1 ((2, .u (uB false)):: []) hmix s kH
  (oc zF<|zD) fun a w4 s=> ?_
 refine zA rfl ?_
 refine sY ?_
 exact vJ s (c:=0) (C:=CU.agg (fQN ((0:Int):Rat))) rfl rfl rfl rfl iiz
theorem zQH {W:Wg} {b m:Nat} {k:Int} {d:Nat} {cs:List Wh} (hh:W.heap[b]?=some (.cells cs.toArray 84 (0,0))) (hc:QVp m k d (.agg cs.toArray) W) (hm:m<=2000) (hd0:0<d) (hT:Tab W):Calls prog 60 #[pO b 0] W (zNp W b 84 (CU.agg (fQN (mkRat k d))) (uB true).tS):=by
 have hz:false=decide (d=0):=(tP oO).symm
 have bk:k.natAbs<BB^m:=by obtain ⟨_,_,_,_,h1,_⟩:=hc;exact h1.bound
 have hred: ∀W u0 u1,Tab W->LV W m u0 k.natAbs->LV W m u1 d->Calls prog 93 #[u0,u1] W (Ret W (vC (yQ (k.natAbs / Nat.gcd k.natAbs d)).tS (yQ (d / Nat.gcd k.natAbs d)).tS)):=fun W u0 u1 hT h0 h1=>(zN8 h0 h1 hm hT).mono fun e w' ⟨v,v',e1,h1,h2,hb⟩=>⟨_,e1,⟨v,v',rfl,h1,h2⟩,hb⟩
 refine zF8 b [(0,UF.eq (pO b 0))] [⟨0,84,CU.agg (fQV m k d),b,false⟩] func60 rfl kH (fun q hq=>by simp at hq;subst hq;exact ⟨by simp,rfl⟩) ⟨⟨cs,rfl, .inr (.inr rfl),hh,hc,zBT hc,fun y hy=>by cases hy⟩,trivial⟩ (fun x hx=>by simp at hx;subst hx;simp) fun a s=> ?_
 refine sX ?_
 refine zC 1 ((2, .u (uB false)):: []) hmix s kH
  (oc zF<|zD) fun a w1 s=> ?_
 refine zA rfl ?_
 refine sX ?_
 refine sX ?_
 refine zC 8 ((3, .s (wG b (cg (fQV m k d))))::(4, .Y (fQV m k d))::(5, .X (fQV m k d) 0)::(6, .X (fQV m k d) 2)::(7, .Z (fLV m d))::(8, .Z (yQ d))::(9, .s (zMW d))::(10, .u (uB false)):: []) hmix s kH
  (oc zB<|oc (qI (C:=cg (fQV m k d)))<|oc (zK (C:=cg (fQV m k d)) 0 kH)<|oc (yE (C:=cg (fQV m k d)) 0 2 kH)<|oc (yL (C:=cg (fQV m k d)) (k:=2) kH (h:=zHn))<|oc (zH zE zS3 (fun u0 W hb (h0:LV W m u0 d)=>zPr h0 oO))<|oc (zCB kH iiz)<|oc (zEb hz)<|zD) fun a w2 s=> ?_
 refine zA rfl ?_
 refine StS.cond s false iiz (fun e=>by cases e) (fun e=> ?_)
 refine tA ?_
 refine sX ?_
 refine zC 10 ((15, .Z (UF.eq (pO b 0)))::(16, .s (wG b (cg (fQV m k d))))::(17, .Y (fQV m k d))::(18, .X (fQV m k d) 0)::(19, .X (fQV m k d) 0)::(20, .Z (fUV m k))::(21, .u (fNV k))::(22, .Z (UF.eq (pO b 0)))::(23, .Z (UF.eq (pO b 0)))::(24, .u (UF.eq (pO b 0))):: []) hmix s kH
  (oc (zB (fun _ _ _ h=>h.1))<|oc zB<|oc (qI (C:=cg (fQV m k d)))<|oc (zK (C:=cg (fQV m k d)) 0 kH)<|oc (yE (C:=cg (fQV m k d)) 0 0 kH)<|oc (yB (C:=cg (fQV m k d)) (k:=0) 2 kH (h:=zL3))<|oc (zH zE zUp (fun u0 W hb (h0:UV W m u0 k)=>zSK h0 oO))<|oc (zB4 (a:=⟨b,0,none⟩) iiz)<|oc (jJ (b:=b) (o:=0) 0 kH iiz)<|oc (jJ (b:=b) (o:=0) 0 kH iiz)<|zD) fun a w3 s=> ?_
 refine zBn (c:=0) (o:=0) (kk:=2) (CU.agg (fQM m k d)) ((fNV k).tS) rfl s kH rfl rfl iiz iiz zQt fun a w s=> ?_
 refine zA rfl ?_
 refine sX ?_
 refine yC [0,1,2,8] 15 ((26, .u (UF.eq (pO b 0)))::(27, .u (UF.eq (pO b 0)))::(28, .s (wG b (cg (fQM m k d))))::(29, .Y (fQM m k d))::(30, .X (fQM m k d) 0)::(31, .X (fQM m k d) 0)::(32, .X (fQM m k d) 1)::(33, .Z (yQ (k.natAbs)))::(34, .s (wG b (cg (fQM m k d))))::(35, .Y (fQM m k d))::(36, .X (fQM m k d) 0)::(37, .X (fQM m k d) 2)::(38, .Z (fLV m d))::(39, .Z (yU (yQ (k.natAbs / Nat.gcd k.natAbs d)) (yQ (d / Nat.gcd k.natAbs d))))::(25, .u (yU (yQ (k.natAbs / Nat.gcd k.natAbs d)) (yQ (d / Nat.gcd k.natAbs d)))):: []) hmix s kH
  (oc (zB (fun _ _ _ h=>h.1))<|oc (zB (fun _ _ _ h=>h.1))<|oc zB<|oc (qI (C:=cg (fQM m k d)))<|oc (zK (C:=cg (fQM m k d)) 0 kH)<|oc (yE (C:=cg (fQM m k d)) 0 0 kH)<|oc (yE (C:=cg (fQM m k d)) 0 1 kH)<|oc (yL (C:=cg (fQM m k d)) (k:=1) kH (h:=zSt))<|oc zB<|oc (qI (C:=cg (fQM m k d)))<|oc (zK (C:=cg (fQM m k d)) 0 kH)<|oc (yE (C:=cg (fQM m k d)) 0 2 kH)<|oc (yL (C:=cg (fQM m k d)) (k:=2) kH (h:=zSs))<|oc (zJ zE zUo (fun u0 u1 W hb (h0:y7 W u0 (k.natAbs)) (h1:LV W m u1 d)=>hred W u0 u1 (hT.bls hh (zIq hc) (s.gr.trans hb)) (y7.lv h0 bk) h1))<|oc zB<|zD) fun Q' hQ a w4 s=> ?_
 refine zC0 (yQ (k.natAbs / Nat.gcd k.natAbs d)) rfl s kH (yY (A:=(yQ (k.natAbs / Nat.gcd k.natAbs d)).tS) (B:=(yQ (d / Nat.gcd k.natAbs d)).tS) iiz) kH fun a w s=> ?_
 refine zC0 (yQ (d / Nat.gcd k.natAbs d)) rfl s kH (yX (A:=(yQ (k.natAbs / Nat.gcd k.natAbs d)).tS) (B:=(yQ (d / Nat.gcd k.natAbs d)).tS) iiz) kH fun a w s=> ?_
 refine zC0 (UF.eq (pO b 0)) rfl s kH (zB4 (a:=⟨b,0,none⟩) iiz) kH fun a w s=> ?_
 refine zC0 (UF.eq (pO b 0)) rfl s kH (jJ (b:=b) (o:=0) 0 kH iiz) kH fun a w s=> ?_
 refine zC0 (UF.eq (pO b 0)) rfl s kH (jJ (b:=b) (o:=0) 0 kH iiz) kH fun a w s=> ?_
 refine zC0 (UF.eq (pO b 1)) rfl s kH (jJ (b:=b) (o:=0) 1 kH iiz) kH fun a w s=> ?_
 refine zBn (c:=0) (o:=1) (kk:=1) (CU.agg (fQA m (decide (k<0)) (k.natAbs / Nat.gcd k.natAbs d) d)) ((yQ (k.natAbs / Nat.gcd k.natAbs d)).tS) rfl s kH rfl rfl iiz iiz zR6 fun a w s=> ?_
 refine zC0 (UF.eq (pO b 0)) rfl s kH (zB4 (a:=⟨b,0,none⟩) iiz) kH fun a w s=> ?_
 refine zC0 (UF.eq (pO b 0)) rfl s kH (jJ (b:=b) (o:=0) 0 kH iiz) kH fun a w s=> ?_
 refine zC0 (UF.eq (pO b 2)) rfl s kH (jJ (b:=b) (o:=0) 2 kH iiz) kH fun a w s=> ?_
 refine zBn (c:=0) (o:=2) (kk:=1) (CU.agg (fQN (mkRat k d))) ((yQ (d / Nat.gcd k.natAbs d)).tS) rfl s kH rfl rfl iiz iiz (zR5 (zB5 k d hd0).symm (zDK k d hd0).symm (zCD k d hd0).symm) fun a w s=> ?_
 refine zA rfl (hQ _ _ ?_)
 refine sX ?_
 replace s:=s.drop [2]
 refine zC 1 ((2, .u (uB true)):: []) hmix s kH
  (oc zF<|zD) fun a w5 s=> ?_
 refine zA rfl ?_
 refine sY ?_
 exact vJ s (c:=0) (C:=CU.agg (fQN (mkRat k d))) rfl rfl rfl rfl iiz
theorem zCs {W:Wg} {b m:Nat} {k:Int} {d:Nat} {cs:List Wh} (hh:W.heap[b]?=some (.cells cs.toArray 84 (0,0))) (hc:QVp m k d (.agg cs.toArray) W) (hm:m<=2000) (hT:Tab W):Calls prog 60 #[pO b 0] W (zNp W b 84 (CU.agg (fQN (mkRat k d))) (uB (decide (0<d))).tS):=by
 rcases tS d with h|h
 ·have:=zQG hh hc hm h
  rw [h,zVW,tP oO]
  exact this
 ·rw [tO h]
  exact zQH hh hc hm h hT
end Go.Proofs.Wd

namespace Go.Proofs.Wd
open Tryz
set_option maxRecDepth 100000
open Go.RowKit Lb
theorem zT1 {W:Wg} {m:Nat} {v:Wh} {k:Int} {d:Nat} (h:QVp m k d v W) (hm:m<=2000) (hT:Tab W):Calls prog 34 #[v] W (Ret W (wH W 84 (CU.agg (fQN (mkRat k d))))):=by
 refine z9 [(fQV m k d).tS] func34 rfl kH ⟨h,trivial⟩ fun a s=> ?_
 refine sX ?_
 refine zC 0 [] hmix s kH
  zD fun a w1 s=> ?_
 refine yD (CU.agg (fQV m k d)) rfl s kH (fun v W h=>zDA h) fun b1 a w s=> ?_
 refine zS (UF.eq (.pointer none)) rfl s kH iiz fun a w s=> ?_
 refine zA rfl ?_
 refine sX ?_
 refine zC 2 ((4, .Z (fQV m k d))::(5, .u (fQV m k d)):: []) hmix s kH
  (oc (zI (f:=fQV m k d) 3 kH (hz:=zPB _ _ _))<|oc (zBB (fun u W (hu:QVp m k d u W)=>zNg hu))<|zD) fun a w2 s=> ?_
 refine yD (CU.agg (fQV m k d)) rfl s kH (fun v W h=>zDA h) fun b6 a w s=> ?_
 refine zQp rfl s kH fun a w s=> ?_
 refine zA rfl ?_
 refine sX ?_
 refine zC 1 ((7, .u (UF.eq (pO b6 0))):: []) hmix s kH
  (oc (zB (fun _ _ _ h=>h.1))<|zD) fun a w3 s=> ?_
 refine zDr (c:=3) (CU.agg (fQN (mkRat k d))) (UF.any) rfl zE zM1 s kH rfl rfl iiz (fun cs h1 h2=> ?_) fun a w s=> ?_
 ·exact (zCs h1 h2 hm (hT.below s.gr.below)).mono fun e w' ⟨v,g1,_,g2⟩=>⟨v,g1,trivial,g2⟩
 refine zA rfl ?_
 refine sX ?_
 replace s:=s.drop [2]
 refine zC 2 ((9, .s (wG b6 (cg (fQN (mkRat k d)))))::(2, .u (UF.eq (pO b6 0))):: []) hmix s kH
  (oc zB<|oc (zF (fun _ _ _ h=>h.1))<|zD) fun a w4 s=> ?_
 refine zA rfl ?_
 refine sY ?_
 exact vM s (t:=2) (c:=3) rfl rfl rfl iiz
theorem zOK {W:Wg} {b b' m m':Nat} {q q':Rat} {cs cs':List Wh} (hh:W.heap[b]?=some (.cells cs.toArray 84 (0,0))) (hc:QNp q (.agg cs.toArray) W) (hh':W.heap[b']?=some (.cells cs'.toArray 84 (0,0))) (hc':QNp q' (.agg cs'.toArray) W) (hne:b'≠b) (hq:QB q m) (hq':QB q' m') (hm:m+m'+1<=2000) (hT:Tab W):Calls prog 160 #[pO b 0,pO b' 0] W (zNp W b 84 (CU.agg (fQN (q+q'))) SF.any):=by
 have bk:Bd (((q).num*((q').den:Int))+((q').num*((q).den:Int))) (m+m'+1):=hq.num_add hq'
 rw [Rat.add_def']
 refine zF8 b [(0,UF.eq (pO b 0)),(1,UF.eq (pO b' 0))] [⟨0,84,CU.agg (fQN q),b,false⟩,⟨1,84,CU.agg (fQN q'),b',true⟩] func160 rfl kH (fun x hx=>by simp at hx;rcases hx with rfl|rfl<;>exact ⟨by simp,rfl⟩) ⟨⟨cs,rfl, .inr (.inr rfl),hh,hc,zBT (zIs hc hq),fun y hy=>by simp at hy;subst hy;exact .inl hne⟩,⟨cs',rfl, .inl rfl,hh',hc',zBT (zIs hc' hq'),fun y hy=>by cases hy⟩,trivial⟩ (fun x hx=>by simp at hx;rcases hx with rfl|rfl<;>simp) fun a s=> ?_
 refine sX ?_
 refine yC [0,1,6,14,19] 32 ((4, .Z (UF.eq (pO b 0)))::(5, .s (wG b (cg (fQN q))))::(6, .Y (fQN q))::(7, .X (fQN q) 0)::(8, .X (fQN q) 0)::(9, .Z (fNV ((q).num)))::(10, .s (wG b' (cg (fQN q'))))::(11, .Y (fQN q'))::(12, .X (fQN q') 0)::(13, .X (fQN q') 2)::(14, .Z (yQ ((q').den)))::(15, .Z (fNV ((q').den:Int)))::(16, .s (zFU (m+m') [(q).num,((q').den:Int)]))::(17, .Z (fNV ((q).num*((q').den:Int))))::(18, .s (wG b' (cg (fQN q'))))::(19, .Y (fQN q'))::(20, .X (fQN q') 0)::(21, .X (fQN q') 0)::(22, .Z (fNV ((q').num)))::(23, .s (wG b (cg (fQN q))))::(24, .Y (fQN q))::(25, .X (fQN q) 0)::(26, .X (fQN q) 2)::(27, .Z (yQ ((q).den)))::(28, .Z (fNV ((q).den:Int)))::(29, .s (zFU (m+m') [(q').num,((q).den:Int)]))::(30, .Z (fNV ((q').num*((q).den:Int))))::(31, .s (zFU (m+m') [((q).num*((q').den:Int)),((q').num*((q).den:Int))]))::(32, .u (fNV (((q).num*((q').den:Int))+((q').num*((q).den:Int)))))::(33, .Z (UF.eq (pO b 0)))::(34, .Z (UF.eq (pO b 0)))::(35, .u (UF.eq (pO b 0))):: []) hmix s kH
  (oc (zB (fun _ _ _ h=>h.1))<|oc zB<|oc (qI (C:=cg (fQN q)))<|oc (zK (C:=cg (fQN q)) 0 kH)<|oc (yE (C:=cg (fQN q)) 0 0 kH)<|oc (yB (C:=cg (fQN q)) (k:=0) 2 kH (h:=zBj))<|oc zB<|oc (qI (C:=cg (fQN q')))<|oc (zK (C:=cg (fQN q')) 0 kH)<|oc (yE (C:=cg (fQN q')) 0 2 kH)<|oc (yL (C:=cg (fQN q')) (k:=2) kH (h:=zAw))<|oc (zH zE zPa (fun u0 W hb (h0:y7 W u0 ((q').den))=>zFZ h0))<|oc (yK (fun u v W (hu:NV W u ((q).num)) (hv:NV W v ((q').den:Int))=>jV (NV.uv' hu (Bd.mono (hq).1 (m':=(m+m')) (by first|omega|decide))) (NV.uv' hv (Bd.mono (jR hq'.2) (m':=(m+m')) (by first|omega|decide)))))<|oc (zH zE zKQ (fun u0 W hb (h0:ISV W (m+m') u0 [(q).num,((q').den:Int)])=>zKE (k:=((q).num*((q').den:Int))) h0 (by show (m+m')*2+(m+m')+1<=40000;omega) (by simp) (by simp)))<|oc zB<|oc (qI (C:=cg (fQN q')))<|oc (zK (C:=cg (fQN q')) 0 kH)<|oc (yE (C:=cg (fQN q')) 0 0 kH)<|oc (yB (C:=cg (fQN q')) (k:=0) 2 kH (h:=zBj))<|oc zB<|oc (qI (C:=cg (fQN q)))<|oc (zK (C:=cg (fQN q)) 0 kH)<|oc (yE (C:=cg (fQN q)) 0 2 kH)<|oc (yL (C:=cg (fQN q)) (k:=2) kH (h:=zAw))<|oc (zH zE zPa (fun u0 W hb (h0:y7 W u0 ((q).den))=>zFZ h0))<|oc (yK (fun u v W (hu:NV W u ((q').num)) (hv:NV W v ((q).den:Int))=>jV (NV.uv' hu (Bd.mono (hq').1 (m':=(m+m')) (by first|omega|decide))) (NV.uv' hv (Bd.mono (jR hq.2) (m':=(m+m')) (by first|omega|decide)))))<|oc (zH zE zKQ (fun u0 W hb (h0:ISV W (m+m') u0 [(q').num,((q).den:Int)])=>zKE (k:=((q').num*((q).den:Int))) h0 (by show (m+m')*2+(m+m')+1<=40000;omega) (by simp) (by simp)))<|oc (yK (fun u v W (hu:NV W u ((q).num*((q').den:Int))) (hv:NV W v ((q').num*((q).den:Int)))=>jV (NV.uv' hu (Bd.mono (Bd.mul (hq).1 (jR hq'.2)) oO)) (NV.uv' hv (Bd.mono (Bd.mul (hq').1 (jR hq.2)) oO))))<|oc (zH zE zUn (fun u0 W hb (h0:ISV W (m+m') u0 [((q).num*((q').den:Int)),((q').num*((q).den:Int))])=>zUZ (k:=(((q).num*((q').den:Int))+((q').num*((q).den:Int)))) h0 oO (by simp) (by simp)))<|oc (zB4 (a:=⟨b,0,none⟩) iiz)<|oc (jJ (b:=b) (o:=0) 0 kH iiz)<|oc (jJ (b:=b) (o:=0) 0 kH iiz)<|zD) fun Q' hQ a w1 s=> ?_
 refine zBn (c:=0) (o:=0) (kk:=2) (CU.agg (fQK (((q).num*((q').den:Int))+((q').num*((q).den:Int))) ((q).den))) ((fNV (((q).num*((q').den:Int))+((q').num*((q).den:Int)))).tS) rfl s kH rfl rfl iiz iiz (zIe (k0:=q.num) (d:=q.den)) fun a w s=> ?_
 refine zA rfl (hQ _ _ ?_)
 refine sX ?_
 refine yC [0,1,6] 15 ((36, .Z (UF.eq (pO b 0)))::(37, .s (wG b (cg (fQK (((q).num*((q').den:Int))+((q').num*((q).den:Int))) ((q).den)))))::(38, .Y (fQK (((q).num*((q').den:Int))+((q').num*((q).den:Int))) ((q).den)))::(39, .X (fQK (((q).num*((q').den:Int))+((q').num*((q).den:Int))) ((q).den)) 0)::(40, .X (fQK (((q).num*((q').den:Int))+((q').num*((q).den:Int))) ((q).den)) 2)::(41, .Z (yQ ((q).den)))::(42, .s (wG b' (cg (fQN q'))))::(43, .Y (fQN q'))::(44, .X (fQN q') 0)::(45, .X (fQN q') 2)::(46, .Z (yQ ((q').den)))::(47, .u (yQ (((q).den)*((q').den))))::(48, .Z (UF.eq (pO b 0)))::(49, .Z (UF.eq (pO b 0)))::(50, .u (UF.eq (pO b 2))):: []) hmix s kH
  (oc (zB (fun _ _ _ h=>h.1))<|oc zB<|oc (qI (C:=cg (fQK (((q).num*((q').den:Int))+((q').num*((q).den:Int))) ((q).den))))<|oc (zK (C:=cg (fQK (((q).num*((q').den:Int))+((q').num*((q).den:Int))) ((q).den))) 0 kH)<|oc (yE (C:=cg (fQK (((q).num*((q').den:Int))+((q').num*((q).den:Int))) ((q).den))) 0 2 kH)<|oc (yL (C:=cg (fQK (((q).num*((q').den:Int))+((q').num*((q).den:Int))) ((q).den))) (k:=2) kH (h:=zSv))<|oc zB<|oc (qI (C:=cg (fQN q')))<|oc (zK (C:=cg (fQN q')) 0 kH)<|oc (yE (C:=cg (fQN q')) 0 2 kH)<|oc (yL (C:=cg (fQN q')) (k:=2) kH (h:=zAw))<|oc (zJ zE zM5 (fun u0 u1 W hb (h0:y7 W u0 ((q).den)) (h1:y7 W u1 ((q').den))=>zRk (LV.mono (y7.lv h0 hq.2) (m':=(m+m')) oO) (LV.mono (y7.lv h1 hq'.2) (m':=(m+m')) oO) oO))<|oc (zB4 (a:=⟨b,0,none⟩) iiz)<|oc (jJ (b:=b) (o:=0) 0 kH iiz)<|oc (jJ (b:=b) (o:=0) 2 kH iiz)<|zD) fun Q' hQ a w2 s=> ?_
 refine zBn (c:=0) (o:=2) (kk:=1) (CU.agg (fQK (((q).num*((q').den:Int))+((q').num*((q).den:Int))) (((q).den)*((q').den)))) ((yQ (((q).den)*((q').den))).tS) rfl s kH rfl rfl iiz iiz zLi fun a w s=> ?_
 refine zA rfl (hQ _ _ ?_)
 refine zC 1 ((51, .u (UF.eq (pO b 0))):: []) hmix s kH
  (oc (zB (fun _ _ _ h=>h.1))<|zD) fun a w3 s=> ?_
 refine zDr (c:=0) (CU.agg (fQN (mkRat (((q).num*((q').den:Int))+((q').num*((q).den:Int))) ((q).den*(q').den)))) (UF.any) rfl zE zM1 s kH rfl rfl iiz (fun cs h1 h2=> ?_) fun a w s=> ?_
 ·exact (zCs (m:=m+m'+1) h1 (zSu h2 bk (tB (hq.den_mul hq') (tE y4 oO))) oO (hT.bls hh (zIq (zIs hc hq)) s.gr)).mono fun e w' ⟨v,g1,_,g2⟩=>⟨v,g1,trivial,g2⟩
 refine zA rfl ?_
 exact vK s (c:=0) (C:=CU.agg (fQN (mkRat (((q).num*((q').den:Int))+((q').num*((q).den:Int))) ((q).den*(q').den)))) rfl rfl rfl rfl (fun _=>trivial)
theorem zOJ {W:Wg} {b b' m m':Nat} {q q':Rat} {cs cs':List Wh} (hh:W.heap[b]?=some (.cells cs.toArray 84 (0,0))) (hc:QNp q (.agg cs.toArray) W) (hh':W.heap[b']?=some (.cells cs'.toArray 84 (0,0))) (hc':QNp q' (.agg cs'.toArray) W) (hne:b'≠b) (hq:QB q m) (hq':QB q' m') (hm:m+m'+1<=2000) (hT:Tab W):Calls prog 161 #[pO b 0,pO b' 0] W (zNp W b 84 (CU.agg (fQN (q*q'))) SF.any):=by
 have bk:Bd ((q).num*(q').num) (m+m'+1):=(hq.1.mul hq'.1).mono oO
 rw [Rat.mul_def']
 refine zF8 b [(0,UF.eq (pO b 0)),(1,UF.eq (pO b' 0))] [⟨0,84,CU.agg (fQN q),b,false⟩,⟨1,84,CU.agg (fQN q'),b',true⟩] func161 rfl kH (fun x hx=>by simp at hx;rcases hx with rfl|rfl<;>exact ⟨by simp,rfl⟩) ⟨⟨cs,rfl, .inr (.inr rfl),hh,hc,zBT (zIs hc hq),fun y hy=>by simp at hy;subst hy;exact .inl hne⟩,⟨cs',rfl, .inl rfl,hh',hc',zBT (zIs hc' hq'),fun y hy=>by cases hy⟩,trivial⟩ (fun x hx=>by simp at hx;rcases hx with rfl|rfl<;>simp) fun a s=> ?_
 refine sX ?_
 refine yC [0,1,2,7,14,19] 28 ((4, .Z (UF.eq (pO b 0)))::(5, .u (UF.eq (pO b 0)))::(6, .s (wG b (cg (fQN q))))::(7, .Y (fQN q))::(8, .X (fQN q) 0)::(9, .X (fQN q) 0)::(10, .Z (fNV ((q).num)))::(11, .s (wG b' (cg (fQN q'))))::(12, .Y (fQN q'))::(13, .X (fQN q') 0)::(14, .X (fQN q') 0)::(15, .Z (fNV ((q').num)))::(16, .s (zFU (m+m') [(q).num,(q').num]))::(17, .u (fNV ((q).num*(q').num)))::(18, .s (wG b (cg (fQN q))))::(19, .Y (fQN q))::(20, .X (fQN q) 0)::(21, .X (fQN q) 2)::(22, .Z (yQ ((q).den)))::(23, .s (wG b' (cg (fQN q'))))::(24, .Y (fQN q'))::(25, .X (fQN q') 0)::(26, .X (fQN q') 2)::(27, .Z (yQ ((q').den)))::(28, .u (yQ (((q).den)*((q').den))))::(29, .Z (UF.eq (pO b 0)))::(30, .Z (UF.eq (pO b 0)))::(31, .u (UF.eq (pO b 0))):: []) hmix s kH
  (oc (zB (fun _ _ _ h=>h.1))<|oc (zB (fun _ _ _ h=>h.1))<|oc zB<|oc (qI (C:=cg (fQN q)))<|oc (zK (C:=cg (fQN q)) 0 kH)<|oc (yE (C:=cg (fQN q)) 0 0 kH)<|oc (yB (C:=cg (fQN q)) (k:=0) 2 kH (h:=zBj))<|oc zB<|oc (qI (C:=cg (fQN q')))<|oc (zK (C:=cg (fQN q')) 0 kH)<|oc (yE (C:=cg (fQN q')) 0 0 kH)<|oc (yB (C:=cg (fQN q')) (k:=0) 2 kH (h:=zBj))<|oc (yK (fun u v W (hu:NV W u ((q).num)) (hv:NV W v ((q').num))=>jV (NV.uv' hu (Bd.mono (hq).1 (m':=(m+m')) (by first|omega|decide))) (NV.uv' hv (Bd.mono (hq').1 (m':=(m+m')) (by first|omega|decide)))))<|oc (zH zE zKQ (fun u0 W hb (h0:ISV W (m+m') u0 [(q).num,(q').num])=>zKE (k:=((q).num*(q').num)) h0 (by show (m+m')*2+(m+m')+1<=40000;omega) (by simp) (by simp)))<|oc zB<|oc (qI (C:=cg (fQN q)))<|oc (zK (C:=cg (fQN q)) 0 kH)<|oc (yE (C:=cg (fQN q)) 0 2 kH)<|oc (yL (C:=cg (fQN q)) (k:=2) kH (h:=zAw))<|oc zB<|oc (qI (C:=cg (fQN q')))<|oc (zK (C:=cg (fQN q')) 0 kH)<|oc (yE (C:=cg (fQN q')) 0 2 kH)<|oc (yL (C:=cg (fQN q')) (k:=2) kH (h:=zAw))<|oc (zJ zE zM5 (fun u0 u1 W hb (h0:y7 W u0 ((q).den)) (h1:y7 W u1 ((q').den))=>zRk (LV.mono (y7.lv h0 hq.2) (m':=(m+m')) oO) (LV.mono (y7.lv h1 hq'.2) (m':=(m+m')) oO) oO))<|oc (zB4 (a:=⟨b,0,none⟩) iiz)<|oc (jJ (b:=b) (o:=0) 0 kH iiz)<|oc (jJ (b:=b) (o:=0) 0 kH iiz)<|zD) fun Q' hQ a w1 s=> ?_
 refine zBn (c:=0) (o:=0) (kk:=2) (CU.agg (fQK ((q).num*(q').num) ((q).den))) ((fNV ((q).num*(q').num)).tS) rfl s kH rfl rfl iiz iiz (zIe (k0:=q.num) (d:=q.den)) fun a w s=> ?_
 refine zC0 (UF.eq (pO b 0)) rfl s kH (zB4 (a:=⟨b,0,none⟩) iiz) kH fun a w s=> ?_
 refine zC0 (UF.eq (pO b 0)) rfl s kH (jJ (b:=b) (o:=0) 0 kH iiz) kH fun a w s=> ?_
 refine zC0 (UF.eq (pO b 2)) rfl s kH (jJ (b:=b) (o:=0) 2 kH iiz) kH fun a w s=> ?_
 refine zBn (c:=0) (o:=2) (kk:=1) (CU.agg (fQK ((q).num*(q').num) (((q).den)*((q').den)))) ((yQ (((q).den)*((q').den))).tS) rfl s kH rfl rfl iiz iiz zLi fun a w s=> ?_
 refine zA rfl (hQ _ _ ?_)
 refine zC 1 ((35, .u (UF.eq (pO b 0))):: []) hmix s kH
  (oc (zB (fun _ _ _ h=>h.1))<|zD) fun a w2 s=> ?_
 refine zDr (c:=0) (CU.agg (fQN (mkRat ((q).num*(q').num) ((q).den*(q').den)))) (UF.any) rfl zE zM1 s kH rfl rfl iiz (fun cs h1 h2=> ?_) fun a w s=> ?_
 ·exact (zCs (m:=m+m'+1) h1 (zSu h2 bk (tB (hq.den_mul hq') (tE y4 oO))) oO (hT.bls hh (zIq (zIs hc hq)) s.gr)).mono fun e w' ⟨v,g1,_,g2⟩=>⟨v,g1,trivial,g2⟩
 refine zA rfl ?_
 exact vK s (c:=0) (C:=CU.agg (fQN (mkRat ((q).num*(q').num) ((q).den*(q').den)))) rfl rfl rfl rfl (fun _=>trivial)
end Go.Proofs.Wd

namespace Go.Proofs.Wd
open Tryz
set_option maxRecDepth 100000
open Go.RowKit Lb
theorem zIj {W:Wg} {m:Nat} {v:Wh} {q:Rat} (h:RVp m q v W) (hm:m<=2000) (hT:Tab W):Calls prog 34 #[v] W (Ret W (wH W 84 (CU.agg (fQN q)))):=by
 obtain ⟨k,d,h1,rfl⟩:=h
 exact zT1 h1 hm hT
theorem zGe {W:Wg} {m:Nat} {v:Wh} {q:Rat} (h:RVp m q v W) (hm:m<=2000) (hm0:0<m) (hT:Tab W):Calls prog 83 #[v] W (Ret W (fQN q).tS):=by
 have hq:QB q m:=h.qb hm0
 refine z9 [(fRV m q).tS] func83 rfl kH ⟨h,trivial⟩ fun a s=> ?_
 refine sX ?_
 refine zC 0 [] hmix s kH
  zD fun a w1 s=> ?_
 refine yD (CU.agg (fRV m q)) rfl s kH (fun v W h=>y6 h) fun b1 a w s=> ?_
 refine z4 (CU.len 3) (cs:=zR3) kH rfl s kH (fun W=>rfl) rfl fun b2 a w s=> ?_
 refine zA rfl ?_
 refine sX ?_
 refine zC 5 ((3, .Z (fRV m q))::(4, .s (wH w 84 (CU.agg (fQN q))))::(5, .Y (fQN q))::(6, .X (fQN q) 0)::(7, .u (fQN q)):: []) hmix s kH
  (oc (zI (f:=fRV m q) 3 kH (hz:=zT _ _))<|oc (zH zE zKR (fun u0 W hb (h0:RVp m q u0 W)=>(zIj h0 oO (hT.below (s.up hb))).mono (wF (zBy hb.size))))<|oc (qI (C:=cg (fQN q)) zKD)<|oc (zK (C:=cg (fQN q)) 0 kH)<|oc (yB (C:=cg (fQN q)) (k:=0) 3 kH (h:=zEF))<|zD) fun a w2 s=> ?_
 refine zN (CU.agg (fQN q)) ((fQN q).tS) rfl s kH rfl rfl rfl iiz iiz zU fun a w s=> ?_
 refine zA rfl ?_
 refine sY ?_
 exact wI s (CU.agg (fQN q)) rfl kH rfl rfl (z5 _) (fun cs W h=>h)
theorem zEm {W:Wg} {m:Nat} {v v':Wh} {q q':Rat} (h:RVp m q v W) (h':RVp m q' v' W) (hm:m<=2000) (hm0:0<m) (hT:Tab W):Calls prog 19 #[v,v'] W (Ret W (fI (qsg q q')).tS):=by
 have hq:QB q m:=h.qb hm0
 have hq':QB q' m:=h'.qb hm0
 refine z9 [(fRV m q).tS,(fRV m q').tS] func19 rfl kH ⟨h,h',trivial⟩ fun a s=> ?_
 refine sX ?_
 refine zC 0 [] hmix s kH
  zD fun a w1 s=> ?_
 refine yD (CU.agg (fRV m q)) rfl s kH (fun v W h=>y6 h) fun b2 a w s=> ?_
 refine yD (CU.agg (fRV m q')) rfl s kH (fun v W h=>y6 h) fun b3 a w s=> ?_
 refine zS (uI 0) rfl s kH iiz fun a w s=> ?_
 refine zA rfl ?_
 refine sX ?_
 have so:=s.old;have sg:=s.gr
 refine qZ 6 ((7, .Z (fRV m q))::(8, .s (wH w 84 (CU.agg (fQN q))))::(9, .Z (fRV m q'))::(10, .s (wH w 84 (CU.agg (fQN q'))))::(5, .s (wH w 84 (CU.agg (fQN q))))::(6, .s (wH w 84 (CU.agg (fQN q')))):: []) hmix s kH
  (oc (zI (f:=fRV m q) 3 kH (hz:=zT _ _))<|oc (zH zE zKR (fun u0 W hb (h0:RVp m q u0 W)=>(zIj h0 oO (hT.below (s.up hb))).mono (wF (zBy hb.size))))<|oc (zI (f:=fRV m q') 3 kH (hz:=zT _ _))<|oc (zH zE zKR (fun u0 W hb (h0:RVp m q' u0 W)=>(zIj h0 oO (hT.below (s.up hb))).mono (wF (zBy hb.size))))<|oc zF<|oc zF<|zD) fun a w2 s hr=> ?_
 obtain ⟨b5,_,s⟩:=s.adopt true 5 (hr (_,_) mz4) sg (fun y hy=> .inl (so y hy))
 obtain ⟨b6,_,s⟩:=s.adopt true 6 (hr (_,_) mz5) sg (fun y hy=>by rcases tW.1 hy with rfl|hy;exact .inr ⟨rfl,rfl⟩;exact .inl (so y hy))
 refine zA rfl ?_
 refine sX ?_
 replace s:=s.drop [4]
 refine zC 28 ((11, .s (wG b5 (cg (fQN q))))::(12, .Y (fQN q))::(13, .X (fQN q) 0)::(14, .X (fQN q) 0)::(15, .Z (fNV ((q).num)))::(16, .s (wG b6 (cg (fQN q'))))::(17, .Y (fQN q'))::(18, .X (fQN q') 0)::(19, .X (fQN q') 2)::(20, .Z (yQ ((q').den)))::(21, .Z (fNV ((q').den:Int)))::(22, .s (zFU (m+m) [(q).num,((q').den:Int)]))::(23, .Z (fNV ((q).num*((q').den:Int))))::(24, .s (wG b6 (cg (fQN q'))))::(25, .Y (fQN q'))::(26, .X (fQN q') 0)::(27, .X (fQN q') 0)::(28, .Z (fNV ((q').num)))::(29, .s (wG b5 (cg (fQN q))))::(30, .Y (fQN q))::(31, .X (fQN q) 0)::(32, .X (fQN q) 2)::(33, .Z (yQ ((q).den)))::(34, .Z (fNV ((q).den:Int)))::(35, .s (zFU (m+m) [(q').num,((q).den:Int)]))::(36, .Z (fNV ((q').num*((q).den:Int))))::(37, .Z (uI (qsg q q')))::(4, .u (uI (qsg q q'))):: []) hmix s kH
  (oc zB<|oc (qI (C:=cg (fQN q)))<|oc (zK (C:=cg (fQN q)) 0 kH)<|oc (yE (C:=cg (fQN q)) 0 0 kH)<|oc (yB (C:=cg (fQN q)) (k:=0) 2 kH (h:=zBj))<|oc zB<|oc (qI (C:=cg (fQN q')))<|oc (zK (C:=cg (fQN q')) 0 kH)<|oc (yE (C:=cg (fQN q')) 0 2 kH)<|oc (yL (C:=cg (fQN q')) (k:=2) kH (h:=zAw))<|oc (zH zE zPa (fun u0 W hb (h0:y7 W u0 ((q').den))=>zFZ h0))<|oc (yK (fun u v W (hu:NV W u ((q).num)) (hv:NV W v ((q').den:Int))=>jV (NV.uv' hu (Bd.mono (hq).1 (m':=(m+m)) (by first|omega|decide))) (NV.uv' hv (Bd.mono (jR hq'.2) (m':=(m+m)) (by first|omega|decide)))))<|oc (zH zE zKQ (fun u0 W hb (h0:ISV W (m+m) u0 [(q).num,((q').den:Int)])=>zKE (k:=((q).num*((q').den:Int))) h0 (by show (m+m)*2+(m+m)+1<=40000;omega) (by simp) (by simp)))<|oc zB<|oc (qI (C:=cg (fQN q')))<|oc (zK (C:=cg (fQN q')) 0 kH)<|oc (yE (C:=cg (fQN q')) 0 0 kH)<|oc (yB (C:=cg (fQN q')) (k:=0) 2 kH (h:=zBj))<|oc zB<|oc (qI (C:=cg (fQN q)))<|oc (zK (C:=cg (fQN q)) 0 kH)<|oc (yE (C:=cg (fQN q)) 0 2 kH)<|oc (yL (C:=cg (fQN q)) (k:=2) kH (h:=zAw))<|oc (zH zE zPa (fun u0 W hb (h0:y7 W u0 ((q).den))=>zFZ h0))<|oc (yK (fun u v W (hu:NV W u ((q').num)) (hv:NV W v ((q).den:Int))=>jV (NV.uv' hu (Bd.mono (hq').1 (m':=(m+m)) (by first|omega|decide))) (NV.uv' hv (Bd.mono (jR hq.2) (m':=(m+m)) (by first|omega|decide)))))<|oc (zH zE zKQ (fun u0 W hb (h0:ISV W (m+m) u0 [(q').num,((q).den:Int)])=>zKE (k:=((q').num*((q).den:Int))) h0 (by show (m+m)*2+(m+m)+1<=40000;omega) (by simp) (by simp)))<|oc (zJ zE zUH (fun u0 u1 W hb (h0:NV W u0 ((q).num*((q').den:Int))) (h1:NV W u1 ((q').num*((q).den:Int)))=>zEO (zUU (NV.uv' h0 (Bd.mul (hq).1 (jR hq'.2))) (NV.uv' h1 (Bd.mul (hq').1 (jR hq.2))) oO)))<|oc zF<|zD) fun a w3 s=> ?_
 refine zA rfl ?_
 refine sY ?_
 exact wJ s (t:=4) rfl iiz
theorem zSm {W:Wg} {m:Nat} {v:Wh} {q:Rat} (h:RVp m q v W) (hm:m<=2000) (hm0:0<m) (hT:Tab W):Calls prog 158 #[v] W (Ret W (fQN (-q)).tS):=by
 have hq:QB q m:=h.qb hm0
 refine z9 [(fRV m q).tS] func158 rfl kH ⟨h,trivial⟩ fun a s=> ?_
 refine sX ?_
 refine zC 0 [] hmix s kH
  zD fun a w1 s=> ?_
 refine yD (CU.agg (fRV m q)) rfl s kH (fun v W h=>y6 h) fun b1 a w s=> ?_
 refine z4 (CU.len 3) (cs:=zR3) kH rfl s kH (fun W=>rfl) rfl fun b2 a w s=> ?_
 refine zA rfl ?_
 refine sX ?_
 have so:=s.old;have sg:=s.gr
 refine qZ 3 ((4, .Z (fRV m q))::(5, .s (wH w 84 (CU.agg (fQN q))))::(3, .s (wH w 84 (CU.agg (fQN q)))):: []) hmix s kH
  (oc (zI (f:=fRV m q) 3 kH (hz:=zT _ _))<|oc (zH zE zKR (fun u0 W hb (h0:RVp m q u0 W)=>(zIj h0 oO (hT.below (s.up hb))).mono (wF (zBy hb.size))))<|oc zF<|zD) fun a w2 s hr=> ?_
 obtain ⟨b3,_,s⟩:=s.adopt false 3 (hr (_,_) mz2) sg (fun y hy=> .inl (so y hy))
 refine zA rfl ?_
 refine sX ?_
 refine zC 10 ((6, .Z (UF.eq (pO b3 0)))::(7, .s (wG b3 (cg (fQN q))))::(8, .Y (fQN q))::(9, .X (fQN q) 0)::(10, .X (fQN q) 0)::(11, .Z (fNV ((q).num)))::(12, .u (fNV (-(q).num)))::(13, .Z (UF.eq (pO b3 0)))::(14, .Z (UF.eq (pO b3 0)))::(15, .u (UF.eq (pO b3 0))):: []) hmix s kH
  (oc (zB (fun _ _ _ h=>h.1))<|oc zB<|oc (qI (C:=cg (fQN q)))<|oc (zK (C:=cg (fQN q)) 0 kH)<|oc (yE (C:=cg (fQN q)) 0 0 kH)<|oc (yB (C:=cg (fQN q)) (k:=0) 2 kH (h:=zBj))<|oc (zH zE zUm (fun u0 W hb (h0:NV W u0 ((q).num))=>zT9 (NV.uv' h0 (hq).1) oO))<|oc (zB4 (a:=⟨b3,0,none⟩) iiz)<|oc (jJ (b:=b3) (o:=0) 0 kH iiz)<|oc (jJ (b:=b3) (o:=0) 0 kH iiz)<|zD) fun a w3 s=> ?_
 refine zBn (c:=3) (o:=0) (kk:=2) (CU.agg (fQN (-q))) ((fNV (-(q).num)).tS) rfl s kH rfl rfl iiz iiz (zIe (k0:=q.num) (d:=q.den)) fun a w s=> ?_
 refine zA rfl ?_
 refine sX ?_
 refine zC 4 ((16, .s (wG b3 (cg (fQN (-q)))))::(17, .Y (fQN (-q)))::(18, .X (fQN (-q)) 0)::(19, .u (fQN (-q))):: []) hmix s kH
  (oc zB<|oc (qI (C:=cg (fQN (-q))))<|oc (zK (C:=cg (fQN (-q))) 0 kH)<|oc (yB (C:=cg (fQN (-q))) (k:=0) 3 kH (h:=zEF))<|zD) fun a w4 s=> ?_
 refine zN (CU.agg (fQN (-q))) ((fQN (-q)).tS) rfl s kH rfl rfl rfl iiz iiz zU fun a w s=> ?_
 refine zA rfl ?_
 refine sY ?_
 exact wI s (CU.agg (fQN (-q))) rfl kH rfl rfl (z5 _) (fun cs W h=>h)
end Go.Proofs.Wd

namespace Go.Proofs.Wd
open Tryz
set_option maxRecDepth 100000
set_option maxHeartbeats 1000000
open Go.RowKit Lb
attribute [local go_sem] Oper.semAt_some qF yI
structure QRd (m:Nat) (w:World) (A:Option Addr) (n:Nat) (qs:List Rat):Prop where
 len:qs.length=n
 cells: ∀i,i<n-> ∃b o c0 c1 c2 q,A=some ⟨b,o,none⟩/\w.cell? ⟨b,o+i*3,none⟩=some c0/\w.cell? ⟨b,o+i*3+1,none⟩=some c1/\w.cell? ⟨b,o+i*3+2,none⟩=some c2/\qs[i]?=some q/\RVp m q (.agg #[c0,c1,c2]) w
theorem RVp.keep {m:Nat} {q:Rat} {v:Wh} {w w':Wg} (h:RVp m q v w) (hk: ∀p:Addr,p.block<w.heap.size->w'.cell? p=w.cell? p):RVp m q v w':=by
 obtain ⟨k,d,⟨b,s,t,e,⟨sg,A,n,c,l,e1,h1,h2⟩,A',n',c',l',e2,h1',h2'⟩,h3⟩:=h
 exact ⟨k,d,⟨b,s,t,e,⟨sg,A,n,c,l,e1,h1.keep hk,h2⟩,A',n',c',l',e2,h1'.keep hk,h2'⟩,h3⟩
theorem QRd.keep {m:Nat} {w w':Wg} {A:Wj Addr} {n:Nat} {qs:List Rat} (h:QRd m w A n qs) (hk: ∀p:Addr,p.block<w.heap.size->w'.cell? p=w.cell? p):QRd m w' A n qs:=
 ⟨h.len,fun i hi=>by
  obtain ⟨b,o,c0,c1,c2,q,e,g0,g1,g2,h1,h2⟩:=h.cells i hi
  exact ⟨b,o,c0,c1,c2,q,e,(hk _ (zVX w _ g0)).trans g0,(hk _ (zVX w _ g1)).trans g1,(hk _ (zVX w _ g2)).trans g2,h1,h2.keep hk⟩⟩
theorem QRd.below {m:Nat} {w w':Wg} {A:Wj Addr} {n:Nat} {qs:List Rat} (h:QRd m w A n qs) (hb:Below w.heap.size w w'):QRd m w' A n qs:=h.keep fun _ hp=>hb.cell hp
theorem RVp.below {m:Nat} {q:Rat} {v:Wh} {w w':Wg} (h:RVp m q v w) (hb:Below w.heap.size w w'):RVp m q v w':=h.keep fun _ hp=>hb.cell hp
def qAt (qs:List Rat) (k:Nat):Rat:=(qs[k]?).getD 0
def zQb (W:Wg) (B:Nat) (q:Rat):Prop:= ∃cs:List Wh,W.heap[B]?=some (.cells cs.toArray 84 (0,0))/\QNp q (.agg cs.toArray) W
theorem QNp.keepU {q:Rat} {v:Wh} {w w':Wg} (h:QNp q v w) (hk:zAo w w'):QNp q v w':=(fQN q).us _ _ _ h hk
def zVJ (N0:Nat) (qs:List Rat) (k:Nat) (xs:Array Wh) (W:Wg):Prop:= ∃B,xs=#[pO B 0]/\N0<=B/\zQb W B (qAt qs k)
theorem zJA (A:Wj Addr) (n c:Nat) (w:Wg):
  Calls prog 159 #[.slice A n c] w fun e w'=>e= .returned (.func (.func 170) #[] #[pO w.heap.size 0])/\w'=w.alloc (.cells #[.slice A n c] 28):=by
 go_enter func159,ntmps159
 go_wp2
 go_ret
 exact ⟨rfl,rfl⟩
theorem zT2 {W:Wg} {m:Nat} {c0 c1 c2:Wh} {q:Rat} (h:RVp m q (.agg #[c0,c1,c2]) W) (hm:m<=2000) (hT:Tab W):Calls prog 34 #[.agg #[c0,c1,c2]] W fun e w'=> ∃B,e= .returned (pO B 0)/\W.heap.size<=B/\zQb w' B q/\Below W.heap.size W w':=
 (zIj h hm hT).mono fun _ _ ⟨_,e1,⟨B,cs,e2,h1,h2,h3,_⟩,hb⟩=>⟨B,by rw [e1,e2],h1,⟨cs,h2,h3⟩,hb⟩
theorem zFK (m:Nat) (hm:m<=2000) (A:Wj Addr) (n c:Nat) (qs:List Rat) (b1:Nat) (w w0:Wg) (h:QRd m w A n qs) (hT:Tab w) (hw0:Below w.heap.size w w0) (hn:n<=c) (hc:c<=9223372036854775807)
  (hc1:w0.cell? ⟨b1,0,none⟩=some (.slice A n c)) {S:Nat->Prop} (hS: ∀b,S b->b<w0.heap.size) (_hS1:S b1) (hSA: ∀b,b<w.heap.size->S b):
  zPn prog 170 #[pO b1 0] (zVJ w0.heap.size qs) n (zFt S) Mk (fun _=>True) w0:=by
 intro lp J W hW hJ hY h0
 have hl1:=z7 hc1
 have hw1:=(hW.cell (p:=⟨b1,0,none⟩) hl1).trans hc1
 refine zBL func170 rfl ?_
 simp only [ntmps170,zVY,zVZ,zV0,Nat.reduceAdd,Nat.reduceSub,zV1,zV2,zV3,zV4,tX,zV5]
 gi_wp2
 gi_loopw [7] (fun i wr=> ∃k:Nat,k<=n/\i= .int .i64 k/\J k wr/\y9 S w0 wr/\w0.heap.size<=wr.heap.size) (fun i _=>n - (intOf i).toNat)
 case atStart=>exact ⟨0,tH _,rfl,h0,wQ hW hS,hW.size⟩
 case round=>
  obtain ⟨k,hk,rfl,hj,hb,hz⟩:=hrel
  by_cases hkn:k<n
  ·have hkeep: ∀p:Addr,p.block<w.heap.size->wr.cell? p=w.cell? p:=fun p hp=>(hb.cell (hSA _ hp)).trans (hw0.cell hp)
   obtain ⟨b,o,c0,c1,c2,q,rfl,p0,p1,p2,hi,hr⟩:=(h.keep (w':=wr) hkeep).cells k hkn
   have hTr:Tab wr:=fun j hj=>(hkeep ⟨0,j,none⟩ (z7 (hT j hj))).trans (hT j hj)
   have hid1:qAt qs k=q:=by simp [qAt,hi]
   have hjk:=hJ k wr
   have hHI:=hid hi
   clear hi
   obtain ⟨sg,A1,n1,d1,A2,n2,d2,rfl,rfl,rfl⟩: ∃sg A1 n1 d1 A2 n2 d2,c0= .bool sg/\c1= .slice A1 n1 d1/\c2= .slice A2 n2 d2:=by
    obtain ⟨k',d',hq,_⟩:=hr
    obtain ⟨sg,A1,n1,d1,A2,n2,d2,e⟩:=zCv hq
    have:=tQ Array.toList (zAz e)
    simp at this
    exact ⟨sg,A1,n1,d1,A2,n2,d2,this.1,this.2.1,this.2.2⟩
   gi_wp2_with (first|(gi_at_call 34;refine CallsIn.mono (callsIn_wide.2 (zT2 (hr.below (zCd _ _)) hm (hTr.below (zCd _ _)))) ?_;rintro e w2 ⟨B2,rfl,hB2,hn2,hb2⟩;have hmk:Mk wr w2:=((tN _ wr).alloc lr _).trans (hb2.mono (by simp));obtain ⟨fn,tmps,assign,body,hy,hR⟩:=hY k w2 #[pO B2 0] hkn (hjk _ hj hmk) ⟨B2,rfl,tF hz (tF (by simp) hB2),by rw [hid1];exact hn2⟩)|(refine hR.mono ?_;rintro e W3 ⟨rfl,hJ3,hk3⟩))
   refine ⟨⟨k+1,by omega,rfl,hJ3,(hb.trans (wQ hmk fun b hb=>tB (hS b hb) hz)).trans hk3.1,tF hz (tF hmk.size hk3.2)⟩, ?_⟩
   simp [intOf]
   omega
  ·obtain rfl:k=n:=by omega
   gi_wp2
   go_end0
   exact ⟨⟨_,rfl⟩,hj,trivial⟩
def zDm (qs:List Rat):Nat->Rat
 |0=>0
 |k+1=>zDm qs k+qAt qs k
def q9 (qs:List Rat):Nat->Rat
 |0=>1
 |k+1=>q9 qs k*qAt qs k
def zRQ (w:Wg) (B0 P:Nat) (f:Nat->Rat) (k:Nat) (W:Wg):Prop:=
 zQb W B0 (f k)/\Boxed W P 80 (pO B0 0)/\q7 W w.heap.size 27 #[.bool false, .slice none 0 0, .slice none 0 0]/\Below w.heap.size w W/\P+2<=W.heap.size/\w.heap.size<B0
theorem zQb.abide {W W':Wg} {B C:Nat} {q:Rat} {row:Wj Nat} (h:zQb W B q) (hg:W.grownBy W' row) (hr: ∀r,row=some r->C<=r/\ ∃o,W.heap[r]?=some o/\o.isCells=false):zQb W' B q:=by
 obtain ⟨cs,h1,h2⟩:=h
 have hk:zAo W W':=fun p x hp=>zFW hp hg hr
 refine ⟨cs,(hg.block _ (Array.getElem?_eq_some_iff.1 h1).1 fun e=> ?_).trans h1,h2.keepU hk⟩
 obtain ⟨_,o,ho,hc⟩:=hr _ e.symm
 rw [h1] at ho
 cases ho
 cases hc
theorem zDt (w:Wg) (B0 P:Nat) (f:Nat->Rat) {C:Nat} (hC:w.heap.size<=C):OwnFrom C (zRQ w B0 P f):=by
 rintro k W W' row ⟨h1,h2,h3,h4,h5,h6⟩ hg hr
 exact ⟨h1.abide hg hr,qP h2 hg hr,h3.abide hg hr,zAm h4 hg lr hC hr,tF h5 hg.size,h6⟩
theorem zOc (m M:Nat) (A:Wj Addr) (n c:Nat) (qs:List Rat) (w:Wg) (h:QRd m w A n qs) (hn:n<=c) (hc:c<=9223372036854775807) (hm:m<=2000) (hm0:0<m) (hM:M+m+1<=2000) (hp: ∀k,k<=n->QB (zDm qs k) M) (hT:Tab w):
  Calls prog 145 #[.slice A n c] w (Ret w (fQN (zDm qs n)).tS):=by
 refine q6 func145 rfl ?_
 simp only [ntmps145,zVY,zVZ,zV0,Nat.reduceAdd,Nat.reduceSub,zV1,zV2,zV3,zV4,tX,zV5]
 go_wp2_with (first|(go_at_call 91;refine (zN5 0 dA).mono ?_;rintro e w1 ⟨v1,rfl,hv1,hb1⟩;obtain ⟨A1,n1,c1,A2,n2,c2,rfl⟩:=zCw hv1)|(go_at_call 159;refine (zJA A n c _).mono ?_;rintro e w3 ⟨rfl,rfl⟩))
 have hv2:QNp 0 (.agg #[.bool false, .slice A1 n1 c1, .slice A2 n2 c2]) w1:=hv1
 obtain ⟨W0,hW0⟩: ∃W0,(((w1.alloc (.cells #[.bool false, .slice A1 n1 c1, .slice A2 n2 c2] 84)).alloc (.cells #[pO w1.heap.size 0] 80)).alloc (.cells #[.slice A n c] 28))=W0:=⟨_,rfl⟩
 have hsz:W0.heap.size=w1.heap.size+3:=by rw [<-hW0];simp
 have hbw1:Below w.heap.size w w1:=((tN _ w).alloc lr _).trans (hb1.mono (by simp))
 have hsz1:w.heap.size<w1.heap.size:=tB (by simp) hb1.size
 have hb01:Below w1.heap.size w1 W0:=by rw [<-hW0];exact (((tN _ w1).alloc lr _).alloc (by simp) _).alloc (by simp;omega) _
 have hB1:Below w.heap.size w W0:=hbw1.trans (hb01.mono hbw1.size)
 have x0:zQb W0 w1.heap.size 0:=⟨[_,_,_],(by rw [<-hW0];exact ((q7.new w1 _ #[.bool false, .slice A1 n1 c1, .slice A2 n2 c2]).alloc _).alloc _),hv2.keepU (yN hb01)⟩
 have x1:Boxed W0 (w1.heap.size+1) 80 (pO w1.heap.size 0):=by rw [<-hW0];exact (zAt _ _ _ (by simp)).alloc _
 have x2:Boxed W0 (w1.heap.size+1+1) 28 (.slice A n c):=by rw [<-hW0];exact zAt _ _ _ (by simp)
 have x3:q7 W0 w.heap.size 27 #[.bool false, .slice none 0 0, .slice none 0 0]:=(q7.kept (q7.kept (q7.new w _ _) hb1) hb01)
 rw [hW0]
 clear hW0
 have hSb: ∀b,(b<w.heap.size∨b=w1.heap.size+1+1)->b<W0.heap.size:=fun b hb=>by have:=hbw1.size;omega
 refine zBQ (gf:=170) rfl (enters_of func170 kH rfl) (zFK m hm A n c qs (w1.heap.size+1+1) w W0 h hT hB1 hn hc x2.cell (S:=fun b=>b<w.heap.size∨b=w1.heap.size+1+1) hSb (.inr rfl) (fun b hb=> .inl hb)) ?hE ?hps zFt.trans (zGv hSb)
  (zRQ w w1.heap.size (w1.heap.size+1) (zDm qs)) (zDt w _ _ _ hB1.size) (zBM (zDt w _ _ _ lr)) wS (fun _ _ _ _ _ _ _ _=>trivial) ⟨x0,x1,x3,hB1,by omega,hsz1⟩
  (fun _ xs=>{ tmps:=#[.slice A n c,undef,pO w.heap.size 0, .pointer (some ⟨w1.heap.size+1,0,none⟩),xs.getD 0 undef, .agg #[.bool false, .slice A1 n1 c1, .slice A2 n2 c2], .agg #[.bool false, .slice A1 n1 c1, .slice A2 n2 c2],pO w1.heap.size 0, .slice A n c, .func (.func 170) #[] #[.pointer (some ⟨w1.heap.size+1+1,0,none⟩)],xs.getD 0 undef,undef,undef,undef,undef,undef,undef,undef],defers:= [] }) ?assign ?body ?done
 case hE=>
  rintro k xs W l o o' ⟨B,rfl,h1,h2⟩ ho hc
  exact ⟨B,rfl,h1,h2.abide (C:=0) (grownBy_putObj' W l o') (fun r e=>by cases e;exact ⟨tH _,o,ho,hc⟩)⟩
 case hps=>
  rintro k xs W ⟨B,rfl,_⟩
  rfl
 case assign=>
  rintro lp k xs W K ⟨B,rfl,h1,h2⟩ hK
  gi_wp2
  exact hK
 case body=>
  rintro lp k xs W hk ⟨h1,h2,h3,h4,h5,h6⟩ ⟨B,rfl,hB,hnb⟩
  have hc2:=h2.cell
  have hne:B≠w1.heap.size:=by omega
  have hbd:=hp k (tY hk)
  have hbd2:QB (qAt qs k) m:=by
   obtain ⟨_,_,_,_,_,q,_,_,_,_,e,hr⟩:=h.cells k hk
   rw [show qAt qs k=q from by simp [qAt,e]]
   exact hr.qb hm0
  have hTW:Tab W:=hT.below h4
  gi_wp2_with (gi_at_call 160;refine CallsIn.mono (callsIn_wide.2 (by
   obtain ⟨cs,g1,g2⟩:=h1
   obtain ⟨cs',g1',g2'⟩:=hnb
   exact zOK g1 g2 g1' g2' hne hbd hbd2 oO hTW)) ?_;rintro e w3 ⟨u,rfl,_,hg3,cs3,hh3,hc3,_⟩)
  refine ⟨(KeepsOthers.of_grownBy hg3 (fun j o e ho=>by cases e;obtain ⟨cs,g1,_⟩:=h1;rw [g1] at ho;cases ho;rfl)).from _,⟨(y9.refl _ _).grown hg3 (fun b hb=>⟨by have:=h4.size;rcases hb with hb|hb<;>omega,fun e=>by have:=tT e;omega⟩),hg3.size⟩,⟨cs3,hh3,hc3⟩,h2.kept hg3 (fun e=>by have:=tT e;omega),(hg3.block _ h3.lt (fun e=>by have:=tT e;omega)).trans h3,zAO h4 hg3 h4.size oO,tF h5 hg3.size,h6⟩
 case done=>
  rintro D W hD ⟨h1,h2,h3,h4,h5,h6⟩ _ hd
  obtain ⟨cs,hh,hq⟩:=h1
  obtain ⟨A3,n3,c3,A4,n4,c4,ecs⟩:=zCw hq
  have ecs:=tQ Array.toList (zAz ecs)
  simp at ecs
  subst ecs
  obtain ⟨g0,g1,g2⟩:W.cell? ⟨w1.heap.size,0,none⟩=some (.bool (decide ((zDm qs n).num<0)))/\W.cell? ⟨w1.heap.size,0+1,none⟩=some (.slice A3 n3 c3)/\W.cell? ⟨w1.heap.size,0+2,none⟩=some (.slice A4 n4 c4):=⟨zBd hh 0 _ rfl,zBd hh 1 _ rfl,zBd hh 2 _ rfl⟩
  simp only [Nat.zero_add] at g1 g2
  have hc2:=h2.cell
  have q0:W.cell? ⟨w.heap.size,0,none⟩=some (.bool false):=h3.cell 0
  have q1:W.cell? ⟨w.heap.size,1,none⟩=some (.slice none 0 0):=h3.cell 1
  have q2:W.cell? ⟨w.heap.size,2,none⟩=some (.slice none 0 0):=h3.cell 2
  have q3:=h3.frozen 0;have q4:=h3.frozen 1;have q5:=h3.frozen 2
  go_wp2
  have hb5:q7 (((W.setCell ⟨w.heap.size,0,none⟩ (.bool (decide ((zDm qs n).num<0)))).setCell ⟨w.heap.size,1,none⟩ (.slice A3 n3 c3)).setCell ⟨w.heap.size,2,none⟩ (.slice A4 n4 c4)) w.heap.size 27 #[.bool (decide ((zDm qs n).num<0)), .slice A3 n3 c3, .slice A4 n4 c4]:=((h3.set 0 _).set 1 _).set 2 _
  have hM2:Marks w.heap.size (((W.setCell ⟨w.heap.size,0,none⟩ (.bool (decide ((zDm qs n).num<0)))).setCell ⟨w.heap.size,1,none⟩ (.slice A3 n3 c3)).setCell ⟨w.heap.size,2,none⟩ (.slice A4 n4 c4)) [mark D] [D]:=((Marks.nil w.heap.size W).more (D:=D) (by simp) (by have:=hB1.size;omega) hd).others (((tU _ _ _).trans (tU _ _ _)).trans (tU _ _ _))
  have hrow: ∀(W':Wg) (i:Nat) (v u:Wh),W'.cell? ⟨w.heap.size,i,none⟩=some u->yR u=true->zAo W' (W'.setCell ⟨w.heap.size,i,none⟩ v):=fun W' i v u hu hn p x hp=>(World.cell?_setCell_other _ _ _ _ (fun e=>by rw [<-e] at hp;rw [hu] at hp;cases hp;cases hn)).trans hp
  have hk3:zAo W (((W.setCell ⟨w.heap.size,0,none⟩ (.bool (decide ((zDm qs n).num<0)))).setCell ⟨w.heap.size,1,none⟩ (.slice A3 n3 c3)).setCell ⟨w.heap.size,2,none⟩ (.slice A4 n4 c4)):=((hrow _ _ _ _ q0 rfl).trans (hrow _ _ _ _ ((h3.set 0 _).cell 1) rfl)).trans (hrow _ _ _ _ (((h3.set 0 _).set 1 _).cell 2) rfl)
  have hq3:=hq.keepU hk3
  have hb3:Below w.heap.size w (((W.setCell ⟨w.heap.size,0,none⟩ (.bool (decide ((zDm qs n).num<0)))).setCell ⟨w.heap.size,1,none⟩ (.slice A3 n3 c3)).setCell ⟨w.heap.size,2,none⟩ (.slice A4 n4 c4)):=((h4.setCell lr _).setCell lr _).setCell lr _
  generalize ((W.setCell ⟨w.heap.size,0,none⟩ (.bool (decide ((zDm qs n).num<0)))).setCell ⟨w.heap.size,1,none⟩ (.slice A3 n3 c3)).setCell ⟨w.heap.size,2,none⟩ (.slice A4 n4 c4)=W9 at*
  refine qJ _ (v:= .agg #[.bool (decide ((zDm qs n).num<0)), .slice A3 n3 c3, .slice A4 n4 c4]) (fun w' ho'=> ?_) [D] _ _ hM2 (Oth.refl _ _) ?_
  ·have h7:=hb5.oth ho'
   have:=zF9 (P:=prog) (w:=w') (t:=27) (k:=3) kH (vs:= [.bool (decide ((zDm qs n).num<0)), .slice A3 n3 c3, .slice A4 n4 c4]) rfl h7
   simp [results,results145,asAddr,this]
  ·intro w' ho
   exact ⟨_,rfl,hq3.keepU (fun p x hp=>(ho.cell p).trans hp),zAl hb3 ho lr⟩
theorem zOb (m M:Nat) (A:Wj Addr) (n c:Nat) (qs:List Rat) (w:Wg) (h:QRd m w A n qs) (hn:n<=c) (hc:c<=9223372036854775807) (hm:m<=2000) (hm0:0<m) (hM:M+m+1<=2000) (hp: ∀k,k<=n->QB (q9 qs k) M) (hT:Tab w):
  Calls prog 146 #[.slice A n c] w (Ret w (fQN (q9 qs n)).tS):=by
 refine q6 func146 rfl ?_
 simp only [ntmps146,zVY,zVZ,zV0,Nat.reduceAdd,Nat.reduceSub,zV1,zV2,zV3,zV4,tX,zV5]
 go_wp2_with (first|(go_at_call 91;refine (zN5 1 dA).mono ?_;rintro e w1 ⟨v1,rfl,hv1,hb1⟩;obtain ⟨A1,n1,c1,A2,n2,c2,rfl⟩:=zCw hv1)|(go_at_call 159;refine (zJA A n c _).mono ?_;rintro e w3 ⟨rfl,rfl⟩))
 have hv2:QNp 1 (.agg #[.bool false, .slice A1 n1 c1, .slice A2 n2 c2]) w1:=hv1
 obtain ⟨W0,hW0⟩: ∃W0,(((w1.alloc (.cells #[.bool false, .slice A1 n1 c1, .slice A2 n2 c2] 84)).alloc (.cells #[pO w1.heap.size 0] 80)).alloc (.cells #[.slice A n c] 28))=W0:=⟨_,rfl⟩
 have hsz:W0.heap.size=w1.heap.size+3:=by rw [<-hW0];simp
 have hbw1:Below w.heap.size w w1:=((tN _ w).alloc lr _).trans (hb1.mono (by simp))
 have hsz1:w.heap.size<w1.heap.size:=tB (by simp) hb1.size
 have hb01:Below w1.heap.size w1 W0:=by rw [<-hW0];exact (((tN _ w1).alloc lr _).alloc (by simp) _).alloc (by simp;omega) _
 have hB1:Below w.heap.size w W0:=hbw1.trans (hb01.mono hbw1.size)
 have x0:zQb W0 w1.heap.size 1:=⟨[_,_,_],(by rw [<-hW0];exact ((q7.new w1 _ #[.bool false, .slice A1 n1 c1, .slice A2 n2 c2]).alloc _).alloc _),hv2.keepU (yN hb01)⟩
 have x1:Boxed W0 (w1.heap.size+1) 80 (pO w1.heap.size 0):=by rw [<-hW0];exact (zAt _ _ _ (by simp)).alloc _
 have x2:Boxed W0 (w1.heap.size+1+1) 28 (.slice A n c):=by rw [<-hW0];exact zAt _ _ _ (by simp)
 have x3:q7 W0 w.heap.size 27 #[.bool false, .slice none 0 0, .slice none 0 0]:=(q7.kept (q7.kept (q7.new w _ _) hb1) hb01)
 rw [hW0]
 clear hW0
 have hSb: ∀b,(b<w.heap.size∨b=w1.heap.size+1+1)->b<W0.heap.size:=fun b hb=>by have:=hbw1.size;omega
 refine zBQ (gf:=170) rfl (enters_of func170 kH rfl) (zFK m hm A n c qs (w1.heap.size+1+1) w W0 h hT hB1 hn hc x2.cell (S:=fun b=>b<w.heap.size∨b=w1.heap.size+1+1) hSb (.inr rfl) (fun b hb=> .inl hb)) ?hE ?hps zFt.trans (zGv hSb)
  (zRQ w w1.heap.size (w1.heap.size+1) (q9 qs)) (zDt w _ _ _ hB1.size) (zBM (zDt w _ _ _ lr)) wS (fun _ _ _ _ _ _ _ _=>trivial) ⟨x0,x1,x3,hB1,by omega,hsz1⟩
  (fun _ xs=>{ tmps:=#[.slice A n c,undef,pO w.heap.size 0, .pointer (some ⟨w1.heap.size+1,0,none⟩),xs.getD 0 undef, .agg #[.bool false, .slice A1 n1 c1, .slice A2 n2 c2], .agg #[.bool false, .slice A1 n1 c1, .slice A2 n2 c2],pO w1.heap.size 0, .slice A n c, .func (.func 170) #[] #[.pointer (some ⟨w1.heap.size+1+1,0,none⟩)],xs.getD 0 undef,undef,undef,undef,undef,undef,undef,undef],defers:= [] }) ?assign ?body ?done
 case hE=>
  rintro k xs W l o o' ⟨B,rfl,h1,h2⟩ ho hc
  exact ⟨B,rfl,h1,h2.abide (C:=0) (grownBy_putObj' W l o') (fun r e=>by cases e;exact ⟨tH _,o,ho,hc⟩)⟩
 case hps=>
  rintro k xs W ⟨B,rfl,_⟩
  rfl
 case assign=>
  rintro lp k xs W K ⟨B,rfl,h1,h2⟩ hK
  gi_wp2
  exact hK
 case body=>
  rintro lp k xs W hk ⟨h1,h2,h3,h4,h5,h6⟩ ⟨B,rfl,hB,hnb⟩
  have hc2:=h2.cell
  have hne:B≠w1.heap.size:=by omega
  have hbd:=hp k (tY hk)
  have hbd2:QB (qAt qs k) m:=by
   obtain ⟨_,_,_,_,_,q,_,_,_,_,e,hr⟩:=h.cells k hk
   rw [show qAt qs k=q from by simp [qAt,e]]
   exact hr.qb hm0
  have hTW:Tab W:=hT.below h4
  gi_wp2_with (gi_at_call 161;refine CallsIn.mono (callsIn_wide.2 (by
   obtain ⟨cs,g1,g2⟩:=h1
   obtain ⟨cs',g1',g2'⟩:=hnb
   exact zOJ g1 g2 g1' g2' hne hbd hbd2 oO hTW)) ?_;rintro e w3 ⟨u,rfl,_,hg3,cs3,hh3,hc3,_⟩)
  refine ⟨(KeepsOthers.of_grownBy hg3 (fun j o e ho=>by cases e;obtain ⟨cs,g1,_⟩:=h1;rw [g1] at ho;cases ho;rfl)).from _,⟨(y9.refl _ _).grown hg3 (fun b hb=>⟨by have:=h4.size;rcases hb with hb|hb<;>omega,fun e=>by have:=tT e;omega⟩),hg3.size⟩,⟨cs3,hh3,hc3⟩,h2.kept hg3 (fun e=>by have:=tT e;omega),(hg3.block _ h3.lt (fun e=>by have:=tT e;omega)).trans h3,zAO h4 hg3 h4.size oO,tF h5 hg3.size,h6⟩
 case done=>
  rintro D W hD ⟨h1,h2,h3,h4,h5,h6⟩ _ hd
  obtain ⟨cs,hh,hq⟩:=h1
  obtain ⟨A3,n3,c3,A4,n4,c4,ecs⟩:=zCw hq
  have ecs:=tQ Array.toList (zAz ecs)
  simp at ecs
  subst ecs
  obtain ⟨g0,g1,g2⟩:W.cell? ⟨w1.heap.size,0,none⟩=some (.bool (decide ((q9 qs n).num<0)))/\W.cell? ⟨w1.heap.size,0+1,none⟩=some (.slice A3 n3 c3)/\W.cell? ⟨w1.heap.size,0+2,none⟩=some (.slice A4 n4 c4):=⟨zBd hh 0 _ rfl,zBd hh 1 _ rfl,zBd hh 2 _ rfl⟩
  simp only [Nat.zero_add] at g1 g2
  have hc2:=h2.cell
  have q0:W.cell? ⟨w.heap.size,0,none⟩=some (.bool false):=h3.cell 0
  have q1:W.cell? ⟨w.heap.size,1,none⟩=some (.slice none 0 0):=h3.cell 1
  have q2:W.cell? ⟨w.heap.size,2,none⟩=some (.slice none 0 0):=h3.cell 2
  have q3:=h3.frozen 0;have q4:=h3.frozen 1;have q5:=h3.frozen 2
  go_wp2
  have hb5:q7 (((W.setCell ⟨w.heap.size,0,none⟩ (.bool (decide ((q9 qs n).num<0)))).setCell ⟨w.heap.size,1,none⟩ (.slice A3 n3 c3)).setCell ⟨w.heap.size,2,none⟩ (.slice A4 n4 c4)) w.heap.size 27 #[.bool (decide ((q9 qs n).num<0)), .slice A3 n3 c3, .slice A4 n4 c4]:=((h3.set 0 _).set 1 _).set 2 _
  have hM2:Marks w.heap.size (((W.setCell ⟨w.heap.size,0,none⟩ (.bool (decide ((q9 qs n).num<0)))).setCell ⟨w.heap.size,1,none⟩ (.slice A3 n3 c3)).setCell ⟨w.heap.size,2,none⟩ (.slice A4 n4 c4)) [mark D] [D]:=((Marks.nil w.heap.size W).more (D:=D) (by simp) (by have:=hB1.size;omega) hd).others (((tU _ _ _).trans (tU _ _ _)).trans (tU _ _ _))
  have hrow: ∀(W':Wg) (i:Nat) (v u:Wh),W'.cell? ⟨w.heap.size,i,none⟩=some u->yR u=true->zAo W' (W'.setCell ⟨w.heap.size,i,none⟩ v):=fun W' i v u hu hn p x hp=>(World.cell?_setCell_other _ _ _ _ (fun e=>by rw [<-e] at hp;rw [hu] at hp;cases hp;cases hn)).trans hp
  have hk3:zAo W (((W.setCell ⟨w.heap.size,0,none⟩ (.bool (decide ((q9 qs n).num<0)))).setCell ⟨w.heap.size,1,none⟩ (.slice A3 n3 c3)).setCell ⟨w.heap.size,2,none⟩ (.slice A4 n4 c4)):=((hrow _ _ _ _ q0 rfl).trans (hrow _ _ _ _ ((h3.set 0 _).cell 1) rfl)).trans (hrow _ _ _ _ (((h3.set 0 _).set 1 _).cell 2) rfl)
  have hq3:=hq.keepU hk3
  have hb3:Below w.heap.size w (((W.setCell ⟨w.heap.size,0,none⟩ (.bool (decide ((q9 qs n).num<0)))).setCell ⟨w.heap.size,1,none⟩ (.slice A3 n3 c3)).setCell ⟨w.heap.size,2,none⟩ (.slice A4 n4 c4)):=((h4.setCell lr _).setCell lr _).setCell lr _
  generalize ((W.setCell ⟨w.heap.size,0,none⟩ (.bool (decide ((q9 qs n).num<0)))).setCell ⟨w.heap.size,1,none⟩ (.slice A3 n3 c3)).setCell ⟨w.heap.size,2,none⟩ (.slice A4 n4 c4)=W9 at*
  refine qJ _ (v:= .agg #[.bool (decide ((q9 qs n).num<0)), .slice A3 n3 c3, .slice A4 n4 c4]) (fun w' ho'=> ?_) [D] _ _ hM2 (Oth.refl _ _) ?_
  ·have h7:=hb5.oth ho'
   have:=zF9 (P:=prog) (w:=w') (t:=27) (k:=3) kH (vs:= [.bool (decide ((q9 qs n).num<0)), .slice A3 n3 c3, .slice A4 n4 c4]) rfl h7
   simp [results,results146,asAddr,this]
  ·intro w' ho
   exact ⟨_,rfl,hq3.keepU (fun p x hp=>(ho.cell p).trans hp),zAl hb3 ho lr⟩
def fQS (m:Nat) (qs:List Rat):SF:=⟨fun v W=> ∃A c,v= .slice A qs.length c/\qs.length<=c/\c<=9223372036854775807/\QRd m W A qs.length qs,fun _ _ _ ⟨A,c,h1,h2,h3,h4⟩ hb=>⟨A,c,h1,h2,h3,h4.below hb⟩⟩
theorem zPv (s s':Bool) (A A' D D':Wj Addr) (n n' c c' i i' j j':Nat):yA prog 28 2 [(0, .agg #[.bool s, .slice A n c, .slice D i j]),(1, .agg #[.bool s', .slice A' n' c', .slice D' i' j'])]=some (27,#[.bool s, .slice A n c, .slice D i j, .bool s', .slice A' n' c', .slice D' i' j']):=by kernel_rfl
theorem zQx {u v:Wh} {W:Wg} {m:Nat} {p q:Rat} (hu:RVp m p u W) (hv:RVp m q v W): ∃e cs,yA prog 28 2 [(0,u),(1,v)]=some (e,cs)/\(fQS m [p,q]).p (.slice (some ⟨W.heap.size,0,none⟩) 2 2) (W.alloc (.cells cs e)):=by
 obtain ⟨k,d,h1,h2⟩:=id hu
 obtain ⟨k',d',h1',h2'⟩:=id hv
 obtain ⟨s,A,n,c,D,i,j,rfl⟩:=zCv h1
 obtain ⟨s',A',n',c',D',i',j',rfl⟩:=zCv h1'
 refine ⟨_,_,zPv s s' A A' D D' n n' c c' i i' j j',some ⟨W.heap.size,0,none⟩,2,rfl,tG _,by decide,rfl,fun x hx=> ?_⟩
 have hb:=zCd W (.cells #[.bool s, .slice A n c, .slice D i j, .bool s', .slice A' n' c', .slice D' i' j'] 27)
 rcases (by simp at hx;omega:x=0∨x=1) with rfl|rfl
 ·exact ⟨_,0,_,_,_,p,rfl,zB6 W _ _ 0 _ rfl,zB6 W _ _ 1 _ rfl,zB6 W _ _ 2 _ rfl,rfl,hu.below hb⟩
 ·exact ⟨_,0,_,_,_,q,rfl,zB6 W _ _ 3 _ rfl,zB6 W _ _ 4 _ rfl,zB6 W _ _ 5 _ rfl,rfl,hv.below hb⟩
theorem zSh {W:Wg} {m:Nat} {v:Wh} {qs:List Rat} (M:Nat) (h:(fQS m qs).p v W) (hm0:0<m) (hM:M+m+1<=2000) (hp: ∀k,k<=qs.length->QB (zDm qs k) M) (hT:Tab W):Calls prog 145 #[v] W (Ret W (fQN (zDm qs qs.length)).tS):=by
 obtain ⟨A,c,rfl,h1,h2,h3⟩:=h
 exact zOc m M A qs.length c qs W h3 h1 h2 oO hm0 hM hp hT
theorem zQI {W:Wg} {m:Nat} {v:Wh} {qs:List Rat} (M:Nat) (h:(fQS m qs).p v W) (hm0:0<m) (hM:M+m+1<=2000) (hp: ∀k,k<=qs.length->QB (q9 qs k) M) (hT:Tab W):Calls prog 146 #[v] W (Ret W (fQN (q9 qs qs.length)).tS):=by
 obtain ⟨A,c,rfl,h1,h2,h3⟩:=h
 exact zOb m M A qs.length c qs W h3 h1 h2 oO hm0 hM hp hT
theorem QB.zero {m:Nat} (hm:0<m):QB 0 m:=⟨Nat.pow_pos y4,zDF hm⟩
theorem QB.one {m:Nat} (hm:0<m):QB 1 m:=⟨zDF hm,zDF hm⟩
theorem zQ8 (p q:Rat):zDm [p,q] 2=p+q:=by
 show (0+p)+q=_
 rw [Rat.zero_add]
theorem zL4 (p q:Rat):q9 [p,q] 2=p*q:=by
 show (1*p)*q=_
 rw [zGy]
theorem zLK {W:Wg} {m:Nat} {v:Wh} {p q:Rat} (h:(fQS m [p,q]).p v W) (hp:QB p m) (hq:QB q m) (hm:3*m+2<=2000) (hT:Tab W):Calls prog 145 #[v] W (Ret W (fQN (p+q)).tS):=by
 have:=zSh (m+m+1) h hp.pos oO (fun k hk=>by
  rcases (by simp at hk;omega:k=0∨k=1∨k=2) with rfl|rfl|rfl
  ·exact QB.zero oO
  ·show QB (0+p) _
   rw [Rat.zero_add]
   exact hp.mono oO
  ·rw [zQ8]
   exact hp.add hq) hT
 rw [show ([p,q]:List Rat).length=2 from rfl,zQ8] at this
 exact this
theorem zQJ {W:Wg} {m:Nat} {v:Wh} {p q:Rat} (h:(fQS m [p,q]).p v W) (hp:QB p m) (hq:QB q m) (hm:3*m+2<=2000) (hT:Tab W):Calls prog 146 #[v] W (Ret W (fQN (p*q)).tS):=by
 have:=zQI (m+m) h hp.pos oO (fun k hk=>by
  have:=hp.pos
  rcases (by simp at hk;omega:k=0∨k=1∨k=2) with rfl|rfl|rfl
  ·exact QB.one oO
  ·show QB (1*p) _
   rw [zGy]
   exact hp.mono oO
  ·rw [zL4]
   exact hp.mul hq) hT
 rw [show ([p,q]:List Rat).length=2 from rfl,zL4] at this
 exact this
end Go.Proofs.Wd

namespace Go.Proofs.Wd
open Tryz
set_option maxRecDepth 100000
open Go.RowKit Lb
theorem zLI (p q:Rat):mkRat ((p).num*(if decide ((q).num<0) then -((q).den:Int) else ((q).den:Int))) ((p).den*(q).num.natAbs)=p / q:=by
 have hp:p=(p.num:Rat) / (p.den:Rat):=by
  have:=Rat.mkRat_self p
  rw [Rat.mkRat_eq_div] at this
  exact this.symm
 have hq:q⁻¹=mkRat (if decide (q.num<0) then -(q.den:Int) else (q.den:Int)) q.num.natAbs:=by
  rw [Rat.inv_def]
  by_cases h:q.num<0
  ·rw [tO h,if_pos rfl, <-Rat.divInt_ofNat, <-Rat.divInt_neg']
   congr 1
   omega
  ·rw [tP h,if_neg dA, <-Rat.divInt_ofNat]
   congr 1
   omega
 rw [Rat.div_def,hq]
 conv=>rhs;rw [<-Rat.mkRat_self p]
 rw [Rat.mkRat_mul_mkRat]
theorem zSj {W:Wg} {m:Nat} {v v':Wh} {k:Int} {d:Nat} (h:UV W m v k) (h':LV W m v' d) (hm:m<=2000) (hT:Tab W) (hz:decide (0<d)=false):Calls prog 157 #[v,v'] W (Ret W (yU (fQN (mkRat k d)) (fI 30)).tS):=by
 refine z9 [(fUV m k).tS,(fLV m d).tS] func157 rfl kH ⟨h,h',trivial⟩ fun a s=> ?_
 refine sX ?_
 refine zC 0 [] hmix s kH
  zD fun a w1 s=> ?_
 refine yD (CU.agg (fUV m k)) rfl s kH (fun v W h=>zCg h) fun b2 a w s=> ?_
 refine z4 (CU.len 3) (cs:=zR3) kH rfl s kH (fun W=>rfl) rfl fun b4 a w s=> ?_
 refine zS (uI 0) rfl s kH iiz fun a w s=> ?_
 refine zA rfl ?_
 refine sX ?_
 refine zC 4 ((7, .Z (fUV m k))::(8, .Z (fLV m d))::(9, .Z (fQV m k d))::(10, .u (fQV m k d)):: []) hmix s kH
  (oc (zI (f:=fUV m k) 2 kH (hz:=zAQ _ _))<|oc zB<|oc (yS (fun u v W (hu:UV W m u k) (hv:LV W m v d)=>zP5 hu hv))<|oc (zBB (fun u W (hu:QVp m k d u W)=>zNg hu))<|zD) fun a w2 s=> ?_
 refine yD (CU.agg (fQV m k d)) rfl s kH (fun v W h=>zDA h) fun b11 a w s=> ?_
 refine zQp rfl s kH fun a w s=> ?_
 refine zA rfl ?_
 refine sX ?_
 refine sX ?_
 refine zC 1 ((12, .u (UF.eq (pO b11 0))):: []) hmix s kH
  (oc (zB (fun _ _ _ h=>h.1))<|zD) fun a w3 s=> ?_
 refine zDr (c:=6) (CU.agg (fQN (mkRat k d))) (fB false) rfl zE zM1 s kH rfl rfl iiz (fun cs h1 h2=> ?_) fun a w s=> ?_
 ·exact (zCs h1 h2 hm (hT.below s.gr.below)).mono fun e w' ⟨v,g1,g3,g2⟩=>⟨v,g1,by rw [show v=_ from g3,hz];rfl,g2⟩
 refine zC0 (uB true) rfl s kH (zCA false iiz (fun _=>rfl)) kH fun a w s=> ?_
 refine zA rfl ?_
 refine StS.cond s true iiz (fun e=> ?_) (fun e=>by cases e)
 refine sX ?_
 replace s:=s.drop [5]
 refine zC 4 ((15, .s (wG b11 (cg (fQN (mkRat k d)))))::(16, .Y (fQN (mkRat k d)))::(17, .X (fQN (mkRat k d)) 0)::(18, .u (fQN (mkRat k d))):: []) hmix s kH
  (oc zB<|oc (qI (C:=cg (fQN (mkRat k d))))<|oc (zK (C:=cg (fQN (mkRat k d))) 0 kH)<|oc (yB (C:=cg (fQN (mkRat k d))) (k:=0) 3 kH (h:=zEF))<|zD) fun a w4 s=> ?_
 refine zN (CU.agg (fQN (mkRat k d))) ((fQN (mkRat k d)).tS) rfl s kH rfl rfl rfl iiz iiz zU fun a w s=> ?_
 refine zS (uI 30) rfl s kH iiz fun a w s=> ?_
 refine zA rfl ?_
 refine sY ?_
 exact wK s (CU.agg (fQN (mkRat k d))) rfl kH rfl rfl (z5 _) (fun cs v W h1 h2=>⟨_,_,rfl,h1,h2⟩)
theorem zSl {W:Wg} {m:Nat} {v v':Wh} {k:Int} {d:Nat} (h:UV W m v k) (h':LV W m v' d) (hm:m<=2000) (hT:Tab W) (hz:decide (0<d)=true):Calls prog 157 #[v,v'] W (Ret W (yU (fQN (mkRat k d)) (fI 0)).tS):=by
 refine z9 [(fUV m k).tS,(fLV m d).tS] func157 rfl kH ⟨h,h',trivial⟩ fun a s=> ?_
 refine sX ?_
 refine zC 0 [] hmix s kH
  zD fun a w1 s=> ?_
 refine yD (CU.agg (fUV m k)) rfl s kH (fun v W h=>zCg h) fun b2 a w s=> ?_
 refine z4 (CU.len 3) (cs:=zR3) kH rfl s kH (fun W=>rfl) rfl fun b4 a w s=> ?_
 refine zS (uI 0) rfl s kH iiz fun a w s=> ?_
 refine zA rfl ?_
 refine sX ?_
 refine zC 4 ((7, .Z (fUV m k))::(8, .Z (fLV m d))::(9, .Z (fQV m k d))::(10, .u (fQV m k d)):: []) hmix s kH
  (oc (zI (f:=fUV m k) 2 kH (hz:=zAQ _ _))<|oc zB<|oc (yS (fun u v W (hu:UV W m u k) (hv:LV W m v d)=>zP5 hu hv))<|oc (zBB (fun u W (hu:QVp m k d u W)=>zNg hu))<|zD) fun a w2 s=> ?_
 refine yD (CU.agg (fQV m k d)) rfl s kH (fun v W h=>zDA h) fun b11 a w s=> ?_
 refine zQp rfl s kH fun a w s=> ?_
 refine zA rfl ?_
 refine sX ?_
 refine sX ?_
 refine zC 1 ((12, .u (UF.eq (pO b11 0))):: []) hmix s kH
  (oc (zB (fun _ _ _ h=>h.1))<|zD) fun a w3 s=> ?_
 refine zDr (c:=6) (CU.agg (fQN (mkRat k d))) (fB true) rfl zE zM1 s kH rfl rfl iiz (fun cs h1 h2=> ?_) fun a w s=> ?_
 ·exact (zCs h1 h2 hm (hT.below s.gr.below)).mono fun e w' ⟨v,g1,g3,g2⟩=>⟨v,g1,by rw [show v=_ from g3,hz];rfl,g2⟩
 refine zC0 (uB false) rfl s kH (zCA true iiz (fun _=>rfl)) kH fun a w s=> ?_
 refine zA rfl ?_
 refine StS.cond s false iiz (fun e=>by cases e) (fun e=> ?_)
 refine tA ?_
 refine sX ?_
 replace s:=s.drop [5]
 refine zC 4 ((19, .s (wG b11 (cg (fQN (mkRat k d)))))::(20, .Y (fQN (mkRat k d)))::(21, .X (fQN (mkRat k d)) 0)::(22, .u (fQN (mkRat k d))):: []) hmix s kH
  (oc zB<|oc (qI (C:=cg (fQN (mkRat k d))))<|oc (zK (C:=cg (fQN (mkRat k d))) 0 kH)<|oc (yB (C:=cg (fQN (mkRat k d))) (k:=0) 3 kH (h:=zEF))<|zD) fun a w4 s=> ?_
 refine zN (CU.agg (fQN (mkRat k d))) ((fQN (mkRat k d)).tS) rfl s kH rfl rfl rfl iiz iiz zU fun a w s=> ?_
 refine zS (uI 0) rfl s kH iiz fun a w s=> ?_
 refine zA rfl ?_
 refine sY ?_
 exact wK s (CU.agg (fQN (mkRat k d))) rfl kH rfl rfl (z5 _) (fun cs v W h1 h2=>⟨_,_,rfl,h1,h2⟩)
theorem zSk {W:Wg} {m:Nat} {v v':Wh} {k:Int} {d:Nat} (h:UV W m v k) (h':LV W m v' d) (hm:m<=2000) (hT:Tab W):Calls prog 157 #[v,v'] W (Ret W (yU (fQN (mkRat k d)) (fI (if d=0 then 30 else 0))).tS):=by
 by_cases hd:d=0
 ·rw [if_pos hd]
  exact zSj h h' hm hT (tP oO)
 ·rw [if_neg hd]
  exact zSl h h' hm hT (tO oO)
theorem zLL {W:Wg} {m:Nat} {v v':Wh} {q q':Rat} (h:RVp m q v W) (h':RVp m q' v' W) (hm:m<=650) (hm0:0<m) (hT:Tab W):Calls prog 144 #[v,v'] W (Ret W (fQN (q - q')).tS):=by
 have hq:QB q m:=h.qb hm0
 have hq':QB q' m:=h'.qb hm0
 refine z9 [(fRV m q).tS,(fRV m q').tS] func144 rfl kH ⟨h,h',trivial⟩ fun a s=> ?_
 refine sX ?_
 refine zC 0 [] hmix s kH
  zD fun a w1 s=> ?_
 refine yD (CU.agg (fRV m q)) rfl s kH (fun v W h=>y6 h) fun b2 a w s=> ?_
 refine yD (CU.agg (fRV m q')) rfl s kH (fun v W h=>y6 h) fun b3 a w s=> ?_
 refine z4 (CU.len 3) (cs:=zR3) kH rfl s kH (fun W=>rfl) rfl fun b4 a w s=> ?_
 refine zA rfl ?_
 refine sX ?_
 refine yC [] 5 ((5, .Z (fRV m q))::(6, .Z (fRV m q'))::(7, .Z (fQN (-q')))::(8, .s (fQS m [q,(-q')]))::(9, .u (fQN (q+ -q'))):: []) hmix s kH
  (oc (zI (f:=fRV m q) 3 kH (hz:=zT _ _))<|oc (zI (f:=fRV m q') 3 kH (hz:=zT _ _))<|oc (zH zE zTf (fun u0 W hb (h0:RVp m q' u0 W)=>zSm h0 oO hm0 (hT.below (s.up hb))))<|oc (yK (fun u v W (hu:RVp m q u W) (hv:QNp (-q') v W)=>zQx hu (wD hv hq'.neg)))<|oc (zH zE zPR (fun u0 W hb (h0:(fQS m [q,(-q')]).p u0 W)=>zLK h0 hq hq'.neg oO (hT.below (s.up hb))))<|zD) fun Q' hQ a w2 s=> ?_
 refine zN (CU.agg (fQN (q+ -q'))) ((fQN (q+ -q')).tS) rfl s kH rfl rfl rfl iiz iiz zU fun a w s=> ?_
 refine zA rfl (hQ _ _ ?_)
 refine sY ?_
 exact wI s (CU.agg (fQN (q+ -q'))) rfl kH rfl rfl (z5 _) (fun cs W h=>by rw [Rat.sub_eq_add_neg];exact h)
theorem zSi {W:Wg} {m:Nat} {v v':Wh} {q q':Rat} (h:RVp m q v W) (h':RVp m q' v' W) (hm:m<=650) (hm0:0<m) (hT:Tab W):Calls prog 143 #[v,v'] W (Ret W (yU (fQN (q / q')) (fI (if q'=0 then 30 else 0))).tS):=by
 have hq:QB q m:=h.qb hm0
 have hq':QB q' m:=h'.qb hm0
 have bk2:Bd (if decide ((q').num<0) then -((q').den:Int) else ((q').den:Int)) m:=by split;exact (jR hq'.2).neg;exact jR hq'.2
 have hval:mkRat ((q).num*(if decide ((q').num<0) then -((q').den:Int) else ((q').den:Int))) ((q).den*(q').num.natAbs)=q / q':=zLI q q'
 have herr:((q).den*(q').num.natAbs=0)=(q'=0):=by rw [Nat.mul_eq_zero,Int.natAbs_eq_zero,zMv];have:=q.den_pos;simp;omega
 have hnew: ∀W u0 u1,Tab W->NV W u0 ((q).num*(if decide ((q').num<0) then -((q').den:Int) else ((q').den:Int)))->y7 W u1 ((q).den*(q').num.natAbs)->Calls prog 157 #[u0,u1] W (Ret W (yU (fQN (q / q')) (fI (if q'=0 then 30 else 0))).tS):=fun W u0 u1 hT h0 h1=>by
  have:=zSk (m:=m+m) (h0.uv' (Bd.mul hq.1 bk2)) (h1.lv (zCS hq.2 hq'.1)) oO hT
  simp only [hval,herr] at this
  exact this
 refine z9 [(fRV m q).tS,(fRV m q').tS] func143 rfl kH ⟨h,h',trivial⟩ fun a s=> ?_
 refine sX ?_
 refine zC 0 [] hmix s kH
  zD fun a w1 s=> ?_
 refine yD (CU.agg (fRV m q)) rfl s kH (fun v W h=>y6 h) fun b2 a w s=> ?_
 refine yD (CU.agg (fRV m q')) rfl s kH (fun v W h=>y6 h) fun b3 a w s=> ?_
 refine z4 (CU.len 3) (cs:=zR3) kH rfl s kH (fun W=>rfl) rfl fun b4 a w s=> ?_
 refine zS (uI 0) rfl s kH iiz fun a w s=> ?_
 refine zA rfl ?_
 refine sX ?_
 have so:=s.old;have sg:=s.gr
 refine qZ 6 ((8, .Z (fRV m q))::(9, .s (wH w 84 (CU.agg (fQN q))))::(10, .Z (fRV m q'))::(11, .s (wH w 84 (CU.agg (fQN q'))))::(6, .s (wH w 84 (CU.agg (fQN q))))::(7, .s (wH w 84 (CU.agg (fQN q')))):: []) hmix s kH
  (oc (zI (f:=fRV m q) 3 kH (hz:=zT _ _))<|oc (zH zE zKR (fun u0 W hb (h0:RVp m q u0 W)=>(zIj h0 oO (hT.below (s.up hb))).mono (wF (zBy hb.size))))<|oc (zI (f:=fRV m q') 3 kH (hz:=zT _ _))<|oc (zH zE zKR (fun u0 W hb (h0:RVp m q' u0 W)=>(zIj h0 oO (hT.below (s.up hb))).mono (wF (zBy hb.size))))<|oc zF<|oc zF<|zD) fun a w2 s hr=> ?_
 obtain ⟨b6,_,s⟩:=s.adopt true 6 (hr (_,_) mz4) sg (fun y hy=> .inl (so y hy))
 obtain ⟨b7,_,s⟩:=s.adopt true 7 (hr (_,_) mz5) sg (fun y hy=>by rcases tW.1 hy with rfl|hy;exact .inr ⟨rfl,rfl⟩;exact .inl (so y hy))
 refine zA rfl ?_
 refine sX ?_
 replace s:=s.drop [5]
 refine yC [0,5,11,19,24] 34 ((12, .s (wG b6 (cg (fQN q))))::(13, .Y (fQN q))::(14, .X (fQN q) 0)::(15, .X (fQN q) 0)::(16, .Z (fNV ((q).num)))::(17, .s (wG b7 (cg (fQN q'))))::(18, .Y (fQN q'))::(19, .X (fQN q') 0)::(20, .X (fQN q') 0)::(21, .X (fQN q') 0)::(22, .Z (uB (decide ((q').num<0))))::(23, .s (wG b7 (cg (fQN q'))))::(24, .Y (fQN q'))::(25, .X (fQN q') 0)::(26, .X (fQN q') 2)::(27, .Z (yQ ((q').den)))::(28, .Z (fUV m (if decide ((q').num<0) then -((q').den:Int) else ((q').den:Int))))::(29, .s (zFU (m+m) [(q).num,(if decide ((q').num<0) then -((q').den:Int) else ((q').den:Int))]))::(30, .Z (fNV ((q).num*(if decide ((q').num<0) then -((q').den:Int) else ((q').den:Int)))))::(31, .s (wG b6 (cg (fQN q))))::(32, .Y (fQN q))::(33, .X (fQN q) 0)::(34, .X (fQN q) 2)::(35, .Z (yQ ((q).den)))::(36, .s (wG b7 (cg (fQN q'))))::(37, .Y (fQN q'))::(38, .X (fQN q') 0)::(39, .X (fQN q') 0)::(40, .X (fQN q') 1)::(41, .Z (yQ ((q').num.natAbs)))::(42, .Z (yQ ((q).den*(q').num.natAbs)))::(43, .Z (yU (fQN (q / q')) (uI (if q'=0 then 30 else 0))))::(44, .u (fQN (q / q')))::(45, .u (uI (if q'=0 then 30 else 0))):: []) hmix s kH
  (oc zB<|oc (qI (C:=cg (fQN q)))<|oc (zK (C:=cg (fQN q)) 0 kH)<|oc (yE (C:=cg (fQN q)) 0 0 kH)<|oc (yB (C:=cg (fQN q)) (k:=0) 2 kH (h:=zBj))<|oc zB<|oc (qI (C:=cg (fQN q')))<|oc (zK (C:=cg (fQN q')) 0 kH)<|oc (yE (C:=cg (fQN q')) 0 0 kH)<|oc (yE (C:=cg (fQN q')) 0 0 kH)<|oc (yL (C:=cg (fQN q')) (k:=0) kH (h:=zJv))<|oc zB<|oc (qI (C:=cg (fQN q')))<|oc (zK (C:=cg (fQN q')) 0 kH)<|oc (yE (C:=cg (fQN q')) 0 2 kH)<|oc (yL (C:=cg (fQN q')) (k:=2) kH (h:=zAw))<|oc (yS (fun u v W (hu:u= .bool (decide ((q').num<0))) (hv:y7 W v ((q').den))=>zFD hu hv hq'.2))<|oc (yK (fun u v W (hu:NV W u ((q).num)) (hv:UV W m v (if decide ((q').num<0) then -((q').den:Int) else ((q').den:Int)))=>jV (NV.uv' hu (Bd.mono (hq).1 (m':=(m+m)) (by first|omega|decide))) (UV.mono hv (m':=(m+m)) (by first|omega|decide))))<|oc (zH zE zKQ (fun u0 W hb (h0:ISV W (m+m) u0 [(q).num,(if decide ((q').num<0) then -((q').den:Int) else ((q').den:Int))])=>zKE (k:=((q).num*(if decide ((q').num<0) then -((q').den:Int) else ((q').den:Int)))) h0 (by show (m+m)*2+(m+m)+1<=40000;omega) (by simp) (by simp)))<|oc zB<|oc (qI (C:=cg (fQN q)))<|oc (zK (C:=cg (fQN q)) 0 kH)<|oc (yE (C:=cg (fQN q)) 0 2 kH)<|oc (yL (C:=cg (fQN q)) (k:=2) kH (h:=zAw))<|oc zB<|oc (qI (C:=cg (fQN q')))<|oc (zK (C:=cg (fQN q')) 0 kH)<|oc (yE (C:=cg (fQN q')) 0 0 kH)<|oc (yE (C:=cg (fQN q')) 0 1 kH)<|oc (yL (C:=cg (fQN q')) (k:=1) kH (h:=zJw))<|oc (zJ zE zM5 (fun u0 u1 W hb (h0:y7 W u0 ((q).den)) (h1:y7 W u1 ((q').num.natAbs))=>zRk (LV.mono (y7.lv h0 hq.2) (m':=m) oO) (y7.lv h1 hq'.1) oO))<|oc (zJ zE zTg (fun u0 u1 W hb (h0:NV W u0 ((q).num*(if decide ((q').num<0) then -((q').den:Int) else ((q').den:Int)))) (h1:y7 W u1 ((q).den*(q').num.natAbs))=>hnew W u0 u1 (hT.below (s.up hb)) h0 h1))<|oc (yY (A:=(fQN (q / q')).tS) (B:=(uI (if q'=0 then 30 else 0)).tS) iiz)<|oc (yX (A:=(fQN (q / q')).tS) (B:=(uI (if q'=0 then 30 else 0)).tS) iiz)<|zD) fun Q' hQ a w3 s=> ?_
 refine zN (CU.agg (fQN (q / q'))) ((fQN (q / q')).tS) rfl s kH rfl rfl rfl iiz iiz zU fun a w s=> ?_
 refine zS (uI (if q'=0 then 30 else 0)) rfl s kH iiz fun a w s=> ?_
 refine zA rfl (hQ _ _ ?_)
 refine sY ?_
 exact wK s (CU.agg (fQN (q / q'))) rfl kH rfl rfl (z5 _) (fun cs v W h1 h2=>⟨_,_,rfl,h1,h2⟩)
def UVx (n:Nat) (k:Int) (v:Wh) (w:Wg):Prop:= ∃s A c l,v= .agg #[.bool s, .slice A n c]/\Rd w A n c l/\Lt l/\iv s l=k
def LVx (n x:Nat) (v:Wh) (w:Wg):Prop:= ∃A c l,v= .slice A n c/\Rd w A n c l/\Lt l/\val l=x
def QXp (n n':Nat) (k:Int) (d:Nat) (v:Wh) (w:Wg):Prop:= ∃b s t,v= .agg #[b,s,t]/\UVx n k (.agg #[b,s]) w/\LVx n' d t w
def fQX (n n':Nat) (k:Int) (d:Nat):UF:= .mk' (QXp n n' k d) fun _ _ _ ⟨b,s,t,e,⟨sg,A,c,l,e1,h1,h2⟩,A',c',l',e2,h1',h2'⟩ u=>⟨b,s,t,e,⟨sg,A,c,l,e1,h1.keepU u,h2⟩,A',c',l',e2,h1'.keepU u,h2'⟩
theorem zT5 {n n' m:Nat} {k:Int} {d:Nat} {v:Wh} {W:Wg} (h:QXp n n' k d v W) (h1:n<=m) (h2:n'<=m):QVp m k d v W:=by
 obtain ⟨b,s,t,e,⟨sg,A,c,l,e1,g1,g2,g3⟩,A',c',l',e2,g1',g2',g3'⟩:=h
 exact ⟨b,s,t,e,⟨sg,A,n,c,l,e1,g1,g2,h1,g3⟩,A',n',c',l',e2,g1',g2',h2,g3'⟩
theorem zSp {n n':Nat} {k:Int} {d:Nat} (cs:List Wh) (W:Wg) (h:(CU.agg (fQX n n' k d)).p cs W): ∃u,cs[1]?=some u/\ ∃A c,u= .slice A n c:=by
 obtain ⟨b,s,t,e,⟨sg,A,c,l,e1,_⟩,_⟩:=h
 rw [zAE e]
 have:=tQ Array.toList (zAz e1)
 simp at this
 exact ⟨s,rfl,A,c,this.2⟩
theorem zSn {n n':Nat} {k:Int} {d:Nat} (cs:List Wh) (W:Wg) (h:(CU.agg (fQX n n' k d)).p cs W): ∃u,cs[2]?=some u/\ ∃A c,u= .slice A n' c:=by
 obtain ⟨b,s,t,e,_,A,c,l,e1,_⟩:=h
 rw [zAE e]
 exact ⟨t,rfl,A,c,e1⟩
theorem zL2 (n n':Nat) (k:Int) (d:Nat): ∀cs:List Wh, ∀W,(fQX n n' k d).p (.agg cs.toArray) W->cs.length=3:=fun cs W ⟨b,s,t,e,_⟩=>by rw [zAE e];rfl
def fSl (n:Nat):UF:= .mk' (fun v _=> ∃A c,v= .slice A n c) fun _ _ _ h _=>h
end Go.Proofs.Wd

namespace Go.Proofs.Wd
open Tryz
set_option maxRecDepth 100000
open Go.RowKit Lb
structure QX where
 n:Nat
 n':Nat
 k:Int
 d:Nat
abbrev QX.cu (x:QX):CU:=CU.agg (fQX x.n x.n' x.k x.d)
def zAV (L:List QX) (k:Nat):Nat:=((L.take k).map fun x=>min (x.n+x.n') 1000).sum
theorem zCR {L:List QX} {k:Nat} {x:QX} (h:L[k]?=some x):zAV L (k+1)=zAV L k+min (x.n+x.n') 1000:=by
 unfold zAV
 rw [zVM,h]
 simp
theorem zOp (L:List QX) (k:Nat):zAV L k<=1000*k:=by
 induction k with
 |zero=>simp [zAV]
 | succ k ih=>
  cases h:L[k]? with
  |none=>
   have:zAV L (k+1)=zAV L k:=by unfold zAV;rw [zVM,h];simp
   omega
  |some x=>
   rw [zCR h]
   omega
theorem zL5 {L:List QX} {k i:Nat} {x:QX} (h:L[i]?=some x) (hi:i<k):min (x.n+x.n') 1000<=zAV L k:=by
 induction k with
 |zero=>omega
 | succ k ih=>
  by_cases e:i=k
  ·subst e;rw [zCR h];omega
  ·have h1:=ih oO
   cases h2:L[k]? with
   |none=>
    have:zAV L (k+1)=zAV L k:=by unfold zAV;rw [zVM,h2];simp
    omega
   |some y=>rw [zCR h2];omega
def gq (L:List QX):Bool:=decide (((L.map QX.cu).length:Int)>60)||decide (((zAV L (min (L.map QX.cu).length 61):Nat):Int)>40)
theorem zO3 {L:List QX} (h:gq L=false): ∀x,x∈L->x.n<=40/\x.n'<=40:=by
 unfold gq at h
 rw [Bool.or_eq_false_iff] at h
 have h1:=tI h.1
 have h2:=tI h.2
 rw [tR] at h1 h2
 intro x hx
 obtain ⟨i,hi⟩:=List.getElem?_of_mem hx
 have hlt:=(tL.1 hi).1
 have h3:=zL5 hi (k:=min L.length 61) oO
 omega
theorem wrap64 (u:Int) (r:Nat) (h:u=r) (hr:r<9223372036854775808):IntKind.i64.wrap u=r:=by
 subst h
 rw [IntKind.wrap_i64]
 omega
theorem zHd {W:Wg} {v:Wh} {L:List QX} (h:(SF.row 3 (L.map QX.cu)).p v W) (hL: ∀x,x∈L->x.n+x.n'<9223372036854775808):Calls prog 4 #[v] W (Ret W (fB (gq L)).tS):=by
 refine z9 [SF.row 3 (L.map QX.cu)] func4 rfl kH ⟨h,trivial⟩ fun a s=> ?_
 refine sX ?_
 refine zC 1 ((2, .u (uB false)):: []) hmix s kH
  (oc zF<|zD) fun a w1 s=> ?_
 refine zA rfl ?_
 refine sX ?_
 refine zC 1 ((3, .u (uI 0)):: []) hmix s kH
  (oc zF<|zD) fun a w2 s=> ?_
 refine zA rfl ?_
 refine sX ?_
 refine sX ?_
 refine zC 1 ((4, .u (uI 0)):: []) hmix s kH
  (oc zF<|zD) fun a w3 s=> ?_
 refine zA rfl ?_
 refine tC ?_
 refine zQs (min (L.map QX.cu).length 61) 4 (fun k=> [(0, .o (SF.row 3 ((L).map QX.cu))),(4, .u (fI ((k:Nat):Int))),(3, .u (fI ((zAV L k:Nat):Int)))]) (fun k=>mz1) (s.keepK _ (fmz ⟨mz3,fmz ⟨.head _,fmz ⟨mz1,fnz⟩⟩⟩)) fun k a w hk s=> ?_
 refine sX ?_
 refine sX ?_
 refine zC 8 ((5, .Z (fI (k:Int)))::(6, .s (SF.row 3 ((L).map QX.cu)))::(7, .Z (uI (((L).map QX.cu).length:Int)))::(8, .Z (uB (decide ((k:Int)<(((L).map QX.cu).length:Int)))))::(9, .Z (uB (decide ((k:Int)<(((L).map QX.cu).length:Int)))))::(10, .s (SF.imp (decide ((k:Int)<(((L).map QX.cu).length:Int))=true) ((fI (k:Int)).tS)))::(11, .s (SF.imp (decide ((k:Int)<(((L).map QX.cu).length:Int))=true) ((uB (decide ((k:Int)<=60))).tS)))::(12, .u (uB ((decide ((k:Int)<(((L).map QX.cu).length:Int)))&&(decide ((k:Int)<=60))))):: []) hmix s kH
  (oc zB<|oc zB<|oc (zDc (z:=3) (Cs:=(L).map QX.cu) kH iiz (fun _=>rfl))<|oc (zO .i64 (k:Int) (((L).map QX.cu).length:Int) (decide ((k:Int)<(((L).map QX.cu).length:Int))) iiz iiz rfl rfl)<|oc zB<|oc (zG 9 (decide ((k:Int)<(((L).map QX.cu).length:Int))) kH iiz (fun e=>zQ [] ((fI (k:Int)).tS) fnz (fun _ _ h _=>h) kH zB) (fun e W h=>absurd h e))<|oc (zG 9 (decide ((k:Int)<(((L).map QX.cu).length:Int))) kH iiz (fun e=>zQ [(10,(fI (k:Int)).tS)] ((uB (decide ((k:Int)<=60))).tS) (fmz ⟨fun v W h=>zL (c:=decide ((k:Int)<(((L).map QX.cu).length:Int))=true) (f:=(fI (k:Int)).tS) e h,fnz⟩) (fun _ _ h _=>h) kH (zO .i64 (k:Int) 60 (decide ((k:Int)<=60)) iiz iiz rfl rfl)) (fun e W h=>absurd h e))<|oc (yO (decide ((k:Int)<(((L).map QX.cu).length:Int))) iiz (fun e v W h=>jM (zL e h) e) (fun e v W h=>qV h e))<|zD) fun a w4 s=> ?_
 refine zA rfl ?_
 refine StS.cond s ((decide ((k:Int)<(((L).map QX.cu).length:Int)))&&(decide ((k:Int)<=60))) iiz (fun e=> ?_) (fun e=> ?_)
 ·rw [Bool.and_eq_true] at e
  have hk1:=tJ e.1
  have hk2:=tJ e.2
  have hk3:k<L.length:=by rw [tR] at hk1;omega
  obtain ⟨x,hxl⟩: ∃x,L[k]?=some x:=⟨_,tD hk3⟩
  have hx:(L.map QX.cu)[k]?=some x.cu:=by rw [tM,hxl];rfl
  have hxm:=hL x (List.mem_of_getElem? hxl)
  have hgs:=zCR hxl
  have hgl:=zOp L k
  refine tA ?_
  refine sX ?_
  refine tC ?_
  refine zE4 (K:= [(12, .u (uB ((decide ((k:Int)<(((L).map QX.cu).length:Int)))&&(decide ((k:Int)<=60))))),(0, .o (SF.row 3 ((L).map QX.cu))),(4, .u (fI (k:Int)))]) [(3, .u (fI ((zAV L k:Nat):Int)))] [0,1,2,8,9] 17 ((15, .Z (fI ((zAV L k:Nat):Int)))::(16, .s (SF.row 3 ((L).map QX.cu)))::(17, .Z (fI (k:Int)))::(18, .s (wB (QX.cu x).cf))::(19, .s (wB ((QX.cu x).cf.at 0)))::(20, .s (wB ((QX.cu x).cf.at 1)))::(21, .Z (fSl (x.n)))::(22, .Z (uI (x.n:Int)))::(23, .s (SF.row 3 ((L).map QX.cu)))::(24, .Z (fI (k:Int)))::(25, .s (wB (QX.cu x).cf))::(26, .s (wB ((QX.cu x).cf.at 2)))::(27, .Z (fSl (x.n')))::(28, .Z (uI (x.n':Int)))::(29, .Z (uI ((x.n+x.n':Nat):Int)))::(30, .Z (uI (min ((x.n+x.n':Nat):Int) 1000)))::(31, .u (fI ((zAV L (k+1):Nat):Int))):: []) hmix (s.keepK _ (fmz ⟨mz3,fmz ⟨.head _,fmz ⟨mz1,fmz ⟨mz2,fnz⟩⟩⟩⟩)) kH
   (oc zB<|oc zB<|oc zB<|oc (zA0 (z:=3) (Cs:=(L).map QX.cu) (i:=k) (C:=QX.cu x) kH hx iiz iiz)<|oc (zK (C:=(QX.cu x).cf) 0 kH)<|oc (yE (C:=(QX.cu x).cf) 0 1 kH)<|oc (yL (C:=(QX.cu x).cf) (k:=1) kH (h:=zSp))<|oc (zC4 kH (fun v W ⟨A,c,e⟩=>⟨A,x.n,c,e,rfl⟩))<|oc zB<|oc zB<|oc (zA0 (z:=3) (Cs:=(L).map QX.cu) (i:=k) (C:=QX.cu x) kH hx iiz iiz)<|oc (zK (C:=(QX.cu x).cf) 2 kH)<|oc (yL (C:=(QX.cu x).cf) (k:=2) kH (h:=zSn))<|oc (zC4 kH (fun v W ⟨A,c,e⟩=>⟨A,x.n',c,e,rfl⟩))<|oc (yM .i64 (x.n:Int) (x.n':Int) ((x.n+x.n':Nat):Int) iiz iiz (wrap64 _ _ oO oO))<|oc (zRe ((x.n+x.n':Nat):Int) 1000 iiz iiz)<|oc (yM .i64 ((zAV L k:Nat):Int) (min ((x.n+x.n':Nat):Int) 1000) ((zAV L (k+1):Nat):Int) iiz iiz (wrap64 _ _ oO oO))<|zD) fun Q' hQ a w5 s=> ?_
  refine zS (fI ((zAV L (k+1):Nat):Int)) rfl s kH iiz fun a w s=> ?_
  refine zA rfl (hQ _ _ ?_)
  refine zR 2 ((13, .Z (fI (k:Int)))::(14, .u (fI ((k+1:Nat):Int))):: []) s kH
   (oc zB<|oc (yM .i64 (k:Int) 1 ((k+1:Nat):Int) iiz iiz (wrap64 _ _ oO oO))<|zD) fun a w6 s=> ?_
  replace s:=s.drop [4]
  refine zS (fI ((k+1:Nat):Int)) rfl s kH iiz fun a w s=> ?_
  refine zA rfl ?_
  exact ⟨by omega,s.keepK _ (fmz ⟨mz5,fmz ⟨.head _,fmz ⟨mz2,fnz⟩⟩⟩)⟩
 ·rw [Bool.and_eq_false_iff] at e
  have hkN:k=min (L.map QX.cu).length 61:=by
   rcases e with e|e
   ·have:=tI e;omega
   ·have:=tI e;omega
  refine tV ?_
  refine sX ?_
  refine zC 8 ((32, .s (SF.row 3 ((L).map QX.cu)))::(33, .Z (uI (((L).map QX.cu).length:Int)))::(34, .Z (uB (decide ((((L).map QX.cu).length:Int)>60))))::(35, .Z (uB (decide ((((L).map QX.cu).length:Int)>60))))::(36, .s (SF.imp (decide ((((L).map QX.cu).length:Int)>60)=false) ((fI ((zAV L k:Nat):Int)).tS)))::(37, .s (SF.imp (decide ((((L).map QX.cu).length:Int)>60)=false) ((uB (decide (((zAV L k:Nat):Int)>40))).tS)))::(38, .Z (uB ((decide ((((L).map QX.cu).length:Int)>60))||(decide (((zAV L k:Nat):Int)>40)))))::(2, .u (uB ((decide ((((L).map QX.cu).length:Int)>60))||(decide (((zAV L k:Nat):Int)>40))))):: []) hmix s kH
   (oc zB<|oc (zDc (z:=3) (Cs:=(L).map QX.cu) kH iiz (fun _=>rfl))<|oc (zO .i64 (((L).map QX.cu).length:Int) 60 (decide ((((L).map QX.cu).length:Int)>60)) iiz iiz rfl rfl)<|oc zB<|oc (zG 35 (decide ((((L).map QX.cu).length:Int)>60)) kH iiz (fun e=>zQ [] ((fI ((zAV L k:Nat):Int)).tS) fnz (fun _ _ h _=>h) kH zB) (fun e W h=>absurd h e))<|oc (zG 35 (decide ((((L).map QX.cu).length:Int)>60)) kH iiz (fun e=>zQ [(36,(fI ((zAV L k:Nat):Int)).tS)] ((uB (decide (((zAV L k:Nat):Int)>40))).tS) (fmz ⟨fun v W h=>zL (c:=decide ((((L).map QX.cu).length:Int)>60)=false) (f:=(fI ((zAV L k:Nat):Int)).tS) e h,fnz⟩) (fun _ _ h _=>h) kH (zO .i64 ((zAV L k:Nat):Int) 40 (decide (((zAV L k:Nat):Int)>40)) iiz iiz rfl rfl)) (fun e W h=>absurd h e))<|oc (yO (decide ((((L).map QX.cu).length:Int)>60)) iiz (fun e v W h=>zCz h e) (fun e v W h=>zBJ (zL e h) e))<|oc zF<|zD) fun a w7 s=> ?_
  refine zA rfl ?_
  refine sY ?_
  exact wJ s (t:=2) rfl (fun _ _ h=>by rw [hkN] at h;exact h)
def G1 (g:FuncId) (m:Nat) (op:Rat->Rat->Rat):Prop:= ∀(W:Wg) (s:Wh) (p q:Rat),(fQS m [p,q]).p s W->QB p m->QB q m->Tab W->Calls prog g #[s] W (Ret W (fQN (op p q)).tS)
theorem zCh {u:Wh}: ∀cs W,(wE [u]).p cs W-> ∃x,cs[0]?=some x/\(UF.eq u).p x W:=fun cs W h=>by
 obtain rfl:cs= [u]:=h
 exact ⟨u,rfl,rfl⟩
theorem zMK {u v:Wh} {W:Wg} (h:v=u) (hu:u.cells=#[u]) (hn:yR u=true:=by rfl):(wE [u]).p v.cells.toList W/\v.cells.toList.all yR=true:=by
 subst h
 rw [hu]
 exact ⟨rfl,by simp [hn]⟩
section
variable {F:Fence} {m:Nat} {P:Wl} {w0:Wg} {ops:Array Oper} {G:Nat->SF} {d:Tmp} {ty:Wi} {pos:String} {aft:Array Edge}
end
end Go.Proofs.Wd

namespace Lb
set_option maxHeartbeats 1000000
theorem zR1 {l:List Nat} (ht:Lt l) {j s x:Nat} (hj:j<l.length) (hz: ∀i,i<j->lm l i=0) (hx:lm l j=2^s*x) (ho:x % 2=1):TZ (val l) (32*j+s)/\s<32:=by
 have hb:=qM ht j
 have hs:s<32:=by
  have h1:2^s*1<=2^s*x:=Nat.mul_le_mul_left _ oO
  rw [Nat.mul_one, <-hx] at h1
  exact (Nat.pow_lt_pow_iff_right dA).1 (sZ h1 (by rw [zU8] at hb;simpa using hb))
 refine ⟨?_,hs⟩
 have e0:val (l.take j)=0:=by
  rw [zF1 oO]
  have:sm (lm l) j=sm (lm l) 0:=zC2 (tH _) fun i _ hi=>hz i hi
  rw [this];rfl
 have e1:=jY l j oO
 rw [e0,Nat.zero_add,zBm hj,hx,zEp] at e1
 obtain ⟨y,hy⟩: ∃y,val (l.drop (j+1))=y:=⟨_,rfl⟩
 rw [hy,show BB=2^s*(2*2^(31 - s)) from by rw [<-Nat.pow_succ', <-zVN,show s+(31 - s+1)=32 from by omega];rfl,zVO, <-Nat.mul_add, <-zVO, <-zVN] at e1
 refine ⟨x / 2+2^(31 - s)*y, ?_⟩
 rw [e1]
 congr 1
 rw [Nat.mul_add, <-zVO]
 omega
end Lb
namespace Go.Proofs.Wd
open Tryz
open Go.RowKit Lb
theorem zNH (A:Wj Addr) (n c:Nat) (l:List Nat) (w:Wg) (h:Rd w A n c l) (ht:Lt l) (h0:0<val l) (hn:n<=2000):
  ∃q t:Nat,TZ (val l) (32*q+t)/\t<=31/\q<n/\Calls prog 85 #[.slice A n c] w fun e w'=>e= .returned (.int .i64 ((32*q+t:Nat):Int))/\w'=w:=by
 obtain ⟨j,hjn,hjz,hj0⟩: ∃j,j<n/\(∀i,i<j->lm l i=0)/\lm l j≠0:=by
  have hex: ∃j,lm l j≠0:=by
   refine zV6 fun hc=> ?_
   have hz: ∀i,lm l i=0:=fun i=>zV6 fun e=>hc ⟨i,e⟩
   have:sm (lm l) l.length=sm (lm l) 0:=zC2 (tH _) fun i _ _=>hz i
   have e:val l=sm (lm l) l.length:=rfl
   rw [e,this] at h0
   simp [sm] at h0
  have hmin: ∀k,(∃j,j<=k/\lm l j≠0)-> ∃j,(∀i,i<j->lm l i=0)/\lm l j≠0:=by
   intro k
   induction k with
   |zero=>rintro ⟨j,hj,e⟩;exact ⟨j,fun i hi=>by omega,e⟩
   |succ k ih=>
    rintro ⟨j,hj,e⟩
    by_cases hk: ∃j,j<=k/\lm l j≠0
    ·exact ih hk
    ·exact ⟨j,fun i hi=>zV6 fun e'=>hk ⟨i,by omega,e'⟩,e⟩
  obtain ⟨j0,hj0⟩:=hex
  obtain ⟨j,h1,h2⟩:=hmin j0 ⟨j0,tG _,hj0⟩
  refine ⟨j, ?_,h1,h2⟩
  rw [<-h.len]
  exact Nat.lt_of_not_le fun e=>h2 (zDQ e)
 obtain ⟨s,hs⟩:=vL (lm l j) oO
 obtain ⟨m,hm⟩:=hs
 obtain ⟨htz,hs32⟩:=zR1 ht (s:=s) (x:=2*m+1) (by rw [h.len];exact hjn) hjz hm oO
 refine ⟨j,s,htz,by omega,hjn, ?_⟩
 have hb:=qM ht j
 have hle:=h.le;have hcap:=h.cap
 have HJZ:=hid hjz;have HM:=hid hm;have HB:=hid hb
 obtain ⟨d,hd⟩: ∃d:Nat->Nat,d=fun i=>2^(s - i)*(2*m+1):=⟨_,rfl⟩
 have hd0:d 0=lm l j:=by rw [hd,hm];rfl
 have hds:d s % 2=1:=by rw [hd];simp
 have hdi: ∀i,i<s->d i % 2=0/\d i / 2=d (i+1):=fun i hi=>by
  rw [hd]
  show 2^(s - i)*(2*m+1) % 2=0/\2^(s - i)*(2*m+1) / 2=2^(s - (i+1))*(2*m+1)
  rw [show s - i=(s - (i+1))+1 from by omega,Nat.pow_succ',zVO]
  omega
 have hdl: ∀i,d i<=d 0:=fun i=>by
  rw [hd]
  exact Nat.mul_le_mul_right _ (tE oO oO)
 have HD0:=hid hd0;have HDS:=hid hds;have HDI:=hid hdi;have HDL:=hid hdl
 clear hd hd0 hds hdi hdl
 have HL:Hid (∀i,lm l i<4294967296):=hid fun i=>qM ht i
 clear hjz hm htz hb h0
 go_enter func85,ntmps85
 go_wp2
 go_loopw [3,4] (fun t i wr=> ∃k:Nat,k<=j/\i= .int .i64 k/\t= .int .i64 ((32*k:Nat):Int)/\wr=w) (fun _ i _=>j - (intOf i).toNat)
 case atStart=>exact ⟨0,tH _,rfl,rfl,rfl⟩
 case round=>
  obtain ⟨k,hk,rfl,rfl,rfl⟩:=hrel
  obtain ⟨b,o,rfl,hc⟩:=h.cells k oO
  by_cases hkj:k<j
  ·have hz:=HJZ.out k hkj
   rw [hz] at hc
   clear hz
   go_wp2
   go_roundw
   case rel=>exact ⟨k+1,by omega,by go_num,by go_num,trivial⟩
   case measure=>simp [intOf];omega
  ·obtain rfl:k=j:=by omega
   have hlk:=HL.out k
   obtain ⟨x,hx⟩: ∃x,lm l k=x:=⟨_,rfl⟩
   rw [hx] at hc hj0 hlk
   have HX:=hid hx
   clear hx
   have e1:((32*k:Nat):Int).tdiv 32=(k:Int):=by rw [zVP oO];omega
   have e2:(((32*k:Nat):Int) / 32)=(k:Int):=by omega
   have hx2:((x:Int)==0)=false:=by simpa using hj0
   go_wp2
   go_loopw [3,5] (fun t y wr2=> ∃i:Nat,i<=s/\t= .int .i64 ((32*k+i:Nat):Int)/\y= .int .u32 (d i:Nat)/\wr2=wr) (fun t _ _=>32*k+s - (intOf t).toNat)
   case atStart=>exact ⟨0,tH _,rfl,by rw [HD0.out,HX.out],rfl⟩
   case round=>
    obtain ⟨i,hi,rfl,rfl,rfl⟩:=hrel
    have hdx:=HDL.out i
    rw [HD0.out,HX.out] at hdx
    by_cases his:i<s
    ·obtain ⟨q1,q2⟩:=HDI.out i his
     obtain ⟨y,hy⟩: ∃y,d i=y:=⟨_,rfl⟩
     rw [hy] at q1 q2 hdx ⊢
     have HY:=hid q2
     clear q2 hy
     go_wp2
     go_roundw
     case rel=>exact ⟨i+1,by omega,by go_num,by rw [<-HY.out];go_num,trivial⟩
     case measure=>simp [intOf];omega
    ·obtain rfl:i=s:=by omega
     have q1:=HDS.out
     obtain ⟨y,hy⟩: ∃y,d i=y:=⟨_,rfl⟩
     rw [hy] at q1 hdx ⊢
     clear hy
     go_wp2
     go_ret
     exact ⟨rfl,rfl⟩
theorem zLz {W:Wg} {m:Nat} {v v':Wh} {a b:Nat} (h:LV W m v a) (h':LV W m v' b) (hm:m<=100000):Calls prog 33 #[v,v'] W (zNq W (a*b)):=by
 obtain ⟨A,n,c,l,rfl,h1,h2,h3,rfl⟩:=h
 obtain ⟨A',n',c',l',rfl,h1',h2',h3',rfl⟩:=h'
 exact (zJn A n c l A' n' c' l' W h1 h1' h2 h2' oO oO).mono fun _ _=>jH.v
theorem zD4 {W:Wg} {m:Nat} {v:Wh} {a:Nat} (h:LV W m v a) (hm:m<=100000):Calls prog 54 #[v] W (zNq W a):=by
 obtain ⟨A,n,c,l,rfl,h1,h2,h3,rfl⟩:=h
 exact (jL A n c l W h1 h2 oO).mono fun _ _=>jH.v
theorem y7.open {W:Wg} {v:Wh} {x:Nat} (h:y7 W v x): ∃A n c,v= .slice A n c/\(x=0->n=0)/\(0<x->0<n)/\n<=c/\c<=9223372036854775807/\y7 W (.slice A n c) x:=by
 obtain ⟨A,n,c,l,rfl,h1,h2⟩:=h
 have h3:=h1.zero_iff;have h4:=h1.pos_iff
 rw [h2.len] at h3 h4
 exact ⟨A,n,c,rfl,h3.1,h4.1,h2.le,h2.cap,⟨A,n,c,l,rfl,h1,h2⟩⟩
end Go.Proofs.Wd

namespace Lb
set_option maxHeartbeats 2000000
theorem zPG {x k:Nat} (h:TZ x k):x / 2^k % 2=1/\x / 2^k<=x/\0<x / 2^k:=by
 have:=h.part.2
 exact ⟨this,tK _ _,Nat.pos_of_ne_zero fun e=>by rw [e] at this;simp at this⟩
def Bin (G x y:Nat):Prop:=0<y/\(x=0->y=G)/\ ∀i j,TZ x i->TZ y j->Nat.gcd (x / 2^i) (y / 2^j)=G
theorem Bin.start {a b i j:Nat} (hi:TZ a i) (hj:TZ b j):Bin (Nat.gcd (a / 2^i) (b / 2^j)) a b:=
 ⟨hj.pos,fun e=>by have:=hi.pos;omega,fun i' j' h1 h2=>by rw [h1.unique hi,h2.unique hj]⟩
theorem Bin.turn {G x y:Nat} (hx:x % 2=1) (hy:y % 2=1) (hg:Nat.gcd x y=G) (hle:y<=x):Bin G (x - y) y:=by
 refine ⟨by omega,fun e=> ?_,fun i j h1 h2=> ?_⟩
 ·have:x=y:=by omega
  rw [<-hg,this,Nat.gcd_self]
 ·have hj:j=0:=h2.unique (wY hy)
  rw [hj,Nat.pow_zero,Nat.div_one,Nat.gcd_comm,vE hy h1,Nat.gcd_comm,zGB hle,hg]
end Lb
namespace Go.Proofs.Wd
open Tryz
open Go.RowKit Lb
theorem zLE {W:Wg} {m:Nat} {A:Wj Addr} {n c:Nat} {x q t:Nat} (h:y7 W (.slice A n c) x) (hx:x<BB^m) (hm:m<=2000) (htt:t<=31) (hq:q<n):Calls prog 86 #[.slice A n c, .int .i64 ((32*q+t:Nat):Int)] W (zNq W (x / 2^(32*q+t))):=by
 obtain ⟨A1,n1,c1,l1,e1,h1,h2⟩:=h
 cases e1
 have hn:n<=m:=zHK h1 h2 hx
 have:=zLF A n c l1 q t W h2 h1.lt htt oO oO oO
 rw [h1.val] at this
 exact this.mono fun _ _=>jH.v
theorem zT0 {W:Wg} {m:Nat} {A:Wj Addr} {n c:Nat} {x q t:Nat} (h:LV W m (.slice A n c) x) (hm:m<=2000) (htt:t<=31) (hq:q<=2000):Calls prog 89 #[.slice A n c, .int .i64 ((32*q+t:Nat):Int)] W (zNq W (x*2^(32*q+t))):=by
 obtain ⟨A1,n1,c1,l1,e1,h1,h2,h3,rfl⟩:=h
 cases e1
 exact (zIh A n c l1 q t W h1 h2 htt oO oO).mono fun _ _=>jH.v
def zU2 (w:Wg) (x:Nat):Ending->Wg->Prop:=fun e w'=> ∃v,e= .returned (.tuple #[v, .int .i64 0])/\y7 w' v x/\Below w.heap.size w w'
theorem zPw {W:Wg} {m:Nat} {v v':Wh} {a b:Nat} (h:LV W m v a) (h':LV W m v' b) (hm:m<=2000) (hab:b<=a):Calls prog 88 #[v,v'] W (zU2 W (a - b)):=by
 obtain ⟨A,n,c,l,rfl,h1,h2,h3,rfl⟩:=h
 obtain ⟨A',n',c',l',rfl,h1',h2',h3',rfl⟩:=h'
 refine (zGa A n c l A' n' c' l' W h1 h1' h2 h2' hab oO).mono ?_
 rintro e w' ⟨A1,n1,c1,l1,rfl,i1,r1,hb⟩
 exact ⟨_,rfl,⟨A1,n1,c1,l1,rfl,i1,r1⟩,hb⟩
theorem zI1 {W:Wg} {m:Nat} {A:Wj Addr} {n c:Nat} {x:Nat} (h:y7 W (.slice A n c) x) (hx:x<BB^m) (hm:m<=2000) (h0:0<x):
  ∃q t:Nat,TZ x (32*q+t)/\t<=31/\q<n/\n<=m/\Calls prog 85 #[.slice A n c] W fun e w'=>e= .returned (.int .i64 ((32*q+t:Nat):Int))/\w'=W:=by
 obtain ⟨A1,n1,c1,l1,e1,h1,h2⟩:=h
 cases e1
 have hn:n<=m:=zHK h1 h2 hx
 obtain ⟨q,t,k1,k2,k3,k4⟩:=zNH A n c l1 W h2 h1.lt (by rw [h1.val];exact h0) oO
 rw [h1.val] at k1
 exact ⟨q,t,k1,k2,k3,hn,k4⟩
theorem y7.rdv {W:Wg} {v:Wh} {x:Nat} (h:y7 W v x):rdv W v=x:=by
 obtain ⟨A1,n1,c1,l1,rfl,h1,h2⟩:=h
 exact h2.rdv h1
def RgI (w:Wg) (m G:Nat) (u v:Wh) (W:Wg):Prop:= ∃A n c A' n' c' x y,u= .slice A n c/\v= .slice A' n' c'/\y7 W (.slice A n c) x/\y7 W (.slice A' n' c') y/\x<BB^m/\y<BB^m/\Bin G x y/\Below w.heap.size w W
theorem zQ6 {W:Wg} {m:Nat} {v v':Wh} {a b:Nat} (h:LV W m v a) (h':LV W m v' b) (hm:m<=2000):Calls prog 57 #[v,v'] W (zNq W (Nat.gcd a b)):=by
 have hla:=h.bound;have hlb:=h'.bound
 obtain ⟨A0,n0,c0,rfl,-,k1,k2,h⟩:=h.open
 obtain ⟨B0,m0,d0,rfl,-,k3,k4,h'⟩:=h'.open
 go_enter func57,ntmps57
 go_wp2_with fail
 refine (zD4 h oO).mono ?_
 rintro e w1 ⟨va,rfl,ha,b1⟩
 obtain ⟨A,n,c,rfl,za,pa,ia,ja,ha⟩:=ha.open
 go_wp2_with fail
 refine (zD4 (h'.below b1) oO).mono ?_
 rintro e w2 ⟨vb,rfl,hb,b2⟩
 obtain ⟨A',n',c',rfl,zb,pb,ib,jb,hb⟩:=hb.open
 have b02:=b1.trans (b2.mono b1.size)
 have ha2:=ha.below b2
 clear h h' ha b1 b2 k1 k2 k3 k4
 by_cases h0:a=0∨b=0
 ·have hg:Nat.gcd a b=a+b:=by
   rcases h0 with e|e
   ·rw [e];simp
   ·rw [e];simp
  have h00:n=0∨(0<n/\n'=0):=by
   rcases tS n with e|e
   ·exact .inl e
   ·refine .inr ⟨e,zb (h0.resolve_left fun e'=> ?_)⟩
    have:=za e';omega
  have HG:=hid hg
  clear za pa zb pb h0 hg
  have ad:=zQP (ha2.lv hla) (hb.lv hlb) oO 23
  have bS:Below w2.heap.size w2 (w2.alloc (.cells #[.slice A n c, .slice A' n' c'] 23)):=(tN _ w2).alloc (tG _) _
  have HLA:=hid hla;have HLB:=hid hlb
  clear hla hlb
  rcases h00 with rfl|⟨e1,rfl⟩
  all_goals
   go_wp2_with fail
   refine ad.mono ?_
   rintro e w4 ⟨vs,rfl,hs,b4⟩
   go_wp2_with fail
   go_ret
   exact ⟨vs,rfl,by rw [HG.out];exact hs,b02.trans ((bS.trans (b4.mono bS.size)).mono b02.size)⟩
 ·have hn0:0<n:=pa oO
  have hn0':0<n':=pb oO
  have hnb:((n:Int)==0)=false:=by simp;omega
  have hnb':((n':Int)==0)=false:=by simp;omega
  obtain ⟨q,t,hz,ht,hq,hnm,htw⟩:=zI1 ha2 hla hm oO
  obtain ⟨q',t',hz',ht',hq',hnm',htw'⟩:=zI1 hb hlb hm oO
  have hgcd:=hz.gcd hz'
  have hbin:=Bin.start hz hz'
  have hG0:Nat.gcd (a / 2^(32*q+t)) (b / 2^(32*q'+t'))<BB^m:=zPM (sZ (tK _ _) hla) (sZ (tK _ _) hlb)
  obtain ⟨G,hG⟩: ∃G,Nat.gcd (a / 2^(32*q+t)) (b / 2^(32*q'+t'))=G:=⟨_,rfl⟩
  rw [hG] at hgcd hbin hG0
  obtain ⟨p,s,hs,hps,hpq⟩: ∃p s:Nat,s<=31/\p<=2000/\min (32*q+t) (32*q'+t')=32*p+s:=by
   rcases Nat.le_total (32*q+t) (32*q'+t') with e|e
   ·exact ⟨q,t,ht,by omega,by omega⟩
   ·exact ⟨q',t',ht',by omega,by omega⟩
  rw [hpq] at hgcd
  have hmin:min ((32*q+t:Nat):Int) ((32*q'+t':Nat):Int)=((32*p+s:Nat):Int):=by omega
  have HGC:=hid hgcd;have HBI:=hid hbin;have HG0:=hid hG0
  obtain ⟨k,hk⟩: ∃k,32*q+t=k:=⟨_,rfl⟩
  obtain ⟨k',hk'⟩: ∃k,32*q'+t'=k:=⟨_,rfl⟩
  rw [hk] at htw hmin
  rw [hk'] at htw' hmin
  obtain ⟨K,hK⟩: ∃K,32*p+s=K:=⟨_,rfl⟩
  rw [hK] at hmin
  have HK:=hid hK
  have hK2:K<=64500:=by omega
  have hk2:k<=64500:=by omega
  have hk2':k'<=64500:=by omega
  have HLA:=hid hla;have HLB:=hid hlb
  clear hgcd hbin hG0 hz hz' hG hpq hk hk' hK za pa zb pb hq hq' ht ht' hnm hnm' h0 hla hlb
  go_wp2_with fail
  refine htw.mono ?_
  rintro e w3 ⟨rfl,rfl⟩
  go_wp2_with fail
  refine htw'.mono ?_
  rintro e w3 ⟨rfl,rfl⟩
  go_wp2
  go_loopw [0,1] (RgI W m G) (fun u v wr=>rdv wr u+rdv wr v)
  case atStart=>exact ⟨A,n,c,A',n',c',a,b,rfl,rfl,ha2,hb,HLA.out,HLB.out,HBI.out,b02⟩
  case round=>
   clear ha2 hb b02 hn0 hn0' hnb hnb' htw htw' ia ja ib jb hmin
   obtain ⟨A1,n1,c1,A2,n2,c2,x,y,rfl,rfl,hx,hy,hxl,hyl,hbn,hB⟩:=hrel
   obtain ⟨_,_,_,e1,zx,px,ix,jx,_⟩:=hx.open
   cases e1
   obtain ⟨_,_,_,e1,zy,py,iy,jy,_⟩:=hy.open
   cases e1
   have hy0:=hbn.1
   have HBN:=hid hbn
   have HXL:=hid hxl;have HYL:=hid hyl
   rcases tS n1 with h0|h0
   ·have hx0:x=0:=by
     rcases tS x with e|e
     ·exact e
     ·have:=px e;omega
    have hyG:=hbn.2.1 hx0
    have HYG:=hid hyG
    have hup:=zT0 (q:=p) (t:=s) (hy.lv hyl) hm hs hps
    rw [HK.out] at hup
    subst h0
    clear hbn hxl hyl hx0 hyG zx px zy py
    go_wp2_with fail
    refine hup.mono ?_
    rintro e w5 ⟨v5,rfl,hv5,hb5⟩
    go_wp2_with fail
    go_ret
    exact ⟨v5,rfl,by rw [HGC.out,HK.out, <-HYG.out,Nat.mul_comm];exact hv5,hB.trans (hb5.mono hB.size)⟩
   ·have hx0:0<x:=Nat.pos_of_ne_zero fun e=>by have:=zx e;omega
    obtain ⟨q1,t1,z1,ht1,hq1,hnm1,htw1⟩:=zI1 hx hxl hm hx0
    have hd1:=zLE hx hxl hm ht1 hq1
    obtain ⟨o1,o2,o3⟩:=zPG z1
    obtain ⟨k1,hk1⟩: ∃k,32*q1+t1=k:=⟨_,rfl⟩
    have hk1l:k1<=64500:=by omega
    rw [hk1] at htw1 hd1 z1 o1 o2 o3
    have Z1:=hid z1
    obtain ⟨X,hX⟩: ∃X,x / 2^k1=X:=⟨_,rfl⟩
    have HX:=hid hX
    rw [hX] at hd1 o1 o2 o3
    clear z1 hX hk1 ht1 hq1 hnm1 hbn zx px zy py
    have HO1:=hid o1
    have hrx:=hx.rdv;have hry:=hy.rdv
    have HRX:=hid hrx;have HRY:=hid hry
    clear hrx hry o1
    go_wp2_with fail
    refine htw1.mono ?_
    rintro e w5 ⟨rfl,rfl⟩
    go_wp2_with fail
    refine hd1.mono ?_
    rintro e w6 ⟨v6,rfl,h6,b6⟩
    obtain ⟨A6,n6,c6,rfl,z6,p6,i6,j6,h6⟩:=h6.open
    have hy6:=hy.below b6
    obtain ⟨q2,t2,z2,ht2,hq2,hnm2,htw2⟩:=zI1 hy6 hyl hm hy0
    have hd2:=zLE hy6 hyl hm ht2 hq2
    obtain ⟨o4,o5,o6⟩:=zPG z2
    obtain ⟨k2,hk2⟩: ∃k,32*q2+t2=k:=⟨_,rfl⟩
    have hk2l:k2<=64500:=by omega
    rw [hk2] at htw2 hd2 z2 o4 o5 o6
    have Z2:=hid z2
    obtain ⟨Y,hY⟩: ∃Y,y / 2^k2=Y:=⟨_,rfl⟩
    have HY:=hid hY
    rw [hY] at hd2 o4 o5 o6
    clear z2 hY hk2 ht2 hq2 hnm2 htw1 hd1 z6 p6
    have HO4:=hid o4
    clear o4
    go_wp2_with fail
    refine htw2.mono ?_
    rintro e w7 ⟨rfl,rfl⟩
    go_wp2_with fail
    refine hd2.mono ?_
    rintro e w8 ⟨v8,rfl,h8,b8⟩
    obtain ⟨A8,n8,c8,rfl,z8,p8,i8,j8,h8⟩:=h8.open
    have h68:=h6.below b8
    have b68:=b6.trans (b8.mono b6.size)
    have hB8:=hB.trans (b68.mono hB.size)
    have hXl:X<BB^m:=sZ o2 HXL.out
    have hYl:Y<BB^m:=sZ o5 HYL.out
    have hXY:Nat.gcd X Y=G:=by rw [<-HX.out, <-HY.out];exact HBN.out.2.2 _ _ Z1.out Z2.out
    have HXY:=hid hXY
    obtain ⟨cz,hcz⟩: ∃cz,zAy X Y=cz:=⟨_,rfl⟩
    have hc1:=zSg (h68.lv hXl) (h8.lv hYl)
    have hcl:cz<0↔X<Y:=by
     rw [<-hcz]
     unfold zAy
     split
     ·exact ⟨fun _=>by assumption,fun _=>by omega⟩
     ·split
      ·exact ⟨fun h=>by omega,fun h=>by omega⟩
      ·exact ⟨fun h=>by omega,fun h=>by omega⟩
    rw [hcz] at hc1
    clear htw2 hd2 z8 p8 h6 hy6 hx hy hXY hcz hxl hyl
    have HXl:=hid hXl;have HYl:=hid hYl
    clear hXl hYl
    rcases Nat.lt_or_ge X Y with hlt|hge
    ·have hcz:cz<0:=hcl.2 hlt
     have hsb:=zPw (h8.lv HYl.out) (h68.lv HXl.out) hm (tY hlt)
     have hbt:=Bin.turn (G:=G) HO4.out HO1.out (by rw [Nat.gcd_comm];exact HXY.out) (tY hlt)
     have HBT:=hid hbt
     clear hbt hcl
     go_wp2_with fail
     refine hc1.mono ?_
     rintro e w9 ⟨rfl,rfl⟩
     go_wp2_with fail
     refine hsb.mono ?_
     rintro e w10 ⟨v10,rfl,h10,b10⟩
     obtain ⟨A10,n10,c10,rfl,z10,p10,i10,j10,h10⟩:=h10.open
     clear z10 p10
     go_wp2_with fail
     refine ⟨⟨A10,n10,c10,A6,n6,c6,Y - X,X,rfl,rfl,h10,h68.below b10,sZ (Nat.sub_le _ _) HYl.out,HXl.out,HBT.out,hB8.trans (b10.mono hB8.size)⟩, ?_⟩
     show rdv _ _+rdv _ _<rdv _ _+rdv _ _
     rw [h10.rdv,(h68.below b10).rdv,HRX.out,HRY.out]
     omega
    ·have hcz: ¬cz<0:=fun e=>by have:=hcl.1 e;omega
     have hsb:=zPw (h68.lv HXl.out) (h8.lv HYl.out) hm hge
     have hbt:=Bin.turn (G:=G) HO1.out HO4.out HXY.out hge
     have HBT:=hid hbt
     clear hbt hcl
     go_wp2_with fail
     refine hc1.mono ?_
     rintro e w9 ⟨rfl,rfl⟩
     go_wp2_with fail
     refine hsb.mono ?_
     rintro e w10 ⟨v10,rfl,h10,b10⟩
     obtain ⟨A10,n10,c10,rfl,z10,p10,i10,j10,h10⟩:=h10.open
     clear z10 p10
     go_wp2_with fail
     refine ⟨⟨A10,n10,c10,A8,n8,c8,X - Y,Y,rfl,rfl,h10,h8.below b10,sZ (Nat.sub_le _ _) HXl.out,HYl.out,HBT.out,hB8.trans (b10.mono hB8.size)⟩, ?_⟩
     show rdv _ _+rdv _ _<rdv _ _+rdv _ _
     rw [h10.rdv,(h8.below b10).rdv,HRX.out,HRY.out]
     omega
theorem zJo {P:Wl} {f:FuncId} {args:Array Wh} {W:Wg} {g g':SF} (h:Calls P f args W (Ret W g)) (e:g=g'):Calls P f args W (Ret W g'):=e▸h
theorem zLR {W:Wg} {u:Wh} (k:Int) (hu:u= .int .i64 k) (h: -9223372036854775808<=k/\k<=9223372036854775807):Calls prog 27 #[u] W (zGO W k):=by
 subst hu
 exact zPz k h
end Go.Proofs.Wd

namespace Go.Proofs.Wd
open Tryz
set_option maxRecDepth 100000
open Go.RowKit Lb
def zMV:Nat:=10000
theorem zSQ {x:Nat} (h:x<18446744073709551616) (m:Nat) (hm:2<=m):x<BB^m:=tB h (tF (show 18446744073709551616<=BB^2 by decide) (tE y4 hm))
theorem zHm {W:Wg} {m:Nat} {v:Wh} {x:Nat} (h:LV W m v x) (hm:m<=100000):Calls prog 55 #[v] W (Ret W (yU (UF.eq (.int .u64 ((zP x:Nat):Int))) (fB (y5 x))).tS):=by
 obtain ⟨A,n,c,l,rfl,h1,h2,h3,rfl⟩:=h
 refine (zKp A n c l W h1 h2 oO).mono ?_
 rintro e w' ⟨rfl,hb⟩
 exact ⟨_,rfl,⟨_,_,rfl,rfl,rfl⟩,hb⟩
theorem zPA {W:Wg} {v:Wh} (x:Nat) (hx:x<18446744073709551616) (hv:v= .int .u64 (x:Int)):Calls prog 53 #[v] W (Ret W (yQ x).tS):=by
 subst hv
 exact (zIk x hx W).mono fun _ _ h=>jH.v h
theorem zAR (x:Nat):zP x<18446744073709551616:=by unfold zP;split<;>omega
theorem zIy {F:Fence} {m:Nat} {P:Wl} {w0:Wg} {ops:Array Oper} {G:Nat->SF} {d:Tmp} {ty:Wi} {pos:String} {aft:Array Edge} {t:Wi} {x y:Wk} {t':Wi} (k:IntKind) (u v r:Int) (hx: ∀q W,(fct G x).p q W->q= .int k u) (hy: ∀q W,(fct G y).p q W->q= .int k v) (hv:v≠0) (hr:k.wrap (u.tdiv v)=r) (hd: ∀W,(G d).p (.int k r) W:=by exact fun _=>rfl):qX F m P w0 ops G ⟨some d, .binOp .quo t x y t',ty,pos,aft,none⟩:=
 zAC (.int k u) (.int k v) (.int k r) hx hy (fun W=>by simp [eqGuard]) (fun W=>by simp [binOp,Op.intDiv,hv,hr]) hd
theorem zRZ (u:Int) (r:Nat) (h:u=r) (hr:r<18446744073709551616):IntKind.u64.wrap u=r:=by
 subst h
 rw [IntKind.wrap_u64]
 omega
theorem zFO {W:Wg} {v:Wh} {x:Nat} (h:y7 W v x):Calls prog 18 #[v] W (Ret W (fNV (x:Int)).tS):=by
 refine z9 [(yQ x).tS] func18 rfl kH ⟨h,trivial⟩ fun a s=> ?_
 refine sX ?_
 refine zC 0 [] hmix s kH
  zD fun a w1 s=> ?_
 refine z4 (CU.len 2) (cs:= [.bool false, .slice none 0 0]) kH rfl s kH (fun W=>rfl) rfl fun b2 a w s=> ?_
 refine zA rfl ?_
 refine sX ?_
 refine zC 2 ((3, .Z (yQ x))::(4, .u (fNV (x:Int))):: []) hmix s kH
  (oc zB<|oc (zBB (fun u W (hu:y7 W u x)=>zNf hu))<|zD) fun a w2 s=> ?_
 refine zN (CU.agg (fNV (x:Int))) ((fNV (x:Int)).tS) rfl s kH rfl rfl rfl iiz iiz y2 fun a w s=> ?_
 refine zA rfl ?_
 refine sY ?_
 exact wI s (CU.agg (fNV (x:Int))) rfl kH rfl rfl (qQ _) (fun cs W h=>h)
theorem zBI {W:Wg} {v:Wh} (z:Int) (hv:v= .int .i64 z) (hz: -9223372036854775808<=z/\z<=9223372036854775807):Calls prog 12 #[v] W (Ret W (fQN (z:Rat)).tS):=by
 refine z9 [(fI z).tS] func12 rfl kH ⟨hv,trivial⟩ fun a s=> ?_
 refine sX ?_
 refine zC 0 [] hmix s kH
  zD fun a w1 s=> ?_
 refine z4 (CU.len 3) (cs:=zR3) kH rfl s kH (fun W=>rfl) rfl fun b2 a w s=> ?_
 refine zA rfl ?_
 refine sX ?_
 refine zC 4 ((3, .Z (uI z))::(4, .Z (fNV z))::(5, .Z (yQ 1))::(6, .u (fQN (z:Rat))):: []) hmix s kH
  (oc zB<|oc (zH zE zPb (fun u0 W hb (h0:u0= .int .i64 z)=>zLR z h0 hz))<|oc (qB (fun u W (hu:u= .int .u32 1)=>zG1 hu))<|oc (yS (fun u v W (hu:NV W u z) (hv:y7 W v 1)=>zHY (q:=(z:Rat)) hu hv))<|zD) fun a w2 s=> ?_
 refine zN (CU.agg (fQN (z:Rat))) ((fQN (z:Rat)).tS) rfl s kH rfl rfl rfl iiz iiz zU fun a w s=> ?_
 refine zA rfl ?_
 refine sY ?_
 exact wI s (CU.agg (fQN (z:Rat))) rfl kH rfl rfl (z5 _) (fun cs W h=>h)
theorem zEo (k:Int) (d:Nat) (h:0<d):(if decide (k<0) then -((k.natAbs / Nat.gcd k.natAbs d:Nat):Int) else ((k.natAbs / Nat.gcd k.natAbs d:Nat):Int))=(mkRat k d).num:=by
 have h1:=zDK k d h
 have h2:=zB5 k d h
 rw [<-h1, <-h2]
 by_cases hs:(mkRat k d).num<0
 ·rw [tO hs,if_pos rfl]
  omega
 ·rw [tP hs,if_neg dA]
  omega
theorem zQV {W:Wg} {m:Nat} {v v':Wh} {k:Int} {d:Nat} (h:UV W m v k) (h':LV W m v' d) (hm:m<=2000) (hd:d=0):Calls prog 29 #[v,v'] W (Ret W (yU (fQN (mkRat k d)) (fI 30)).tS):=by
 have bk:k.natAbs<BB^m:=h.bound
 have hz:true=decide (d=0):=(tO hd).symm
 have hq0:mkRat k d=((0:Int):Rat):=by rw [hd,zVW];rfl
 refine z9 [(fUV m k).tS,(fLV m d).tS] func29 rfl kH ⟨h,h',trivial⟩ fun a s=> ?_
 refine sX ?_
 refine zC 0 [] hmix s kH
  zD fun a w1 s=> ?_
 refine yD (CU.agg (fUV m k)) rfl s kH (fun v W h=>zCg h) fun b2 a w s=> ?_
 refine z4 (CU.len 3) (cs:=zR3) kH rfl s kH (fun W=>rfl) rfl fun b4 a w s=> ?_
 refine zS (uI 0) rfl s kH iiz fun a w s=> ?_
 refine zA rfl ?_
 refine sX ?_
 refine sX ?_
 refine zC 4 ((18, .Z (fLV m d))::(19, .Z (yQ d))::(20, .s (zMW d))::(21, .u (uB true)):: []) hmix s kH
  (oc zB<|oc (zH zE zO9 (fun u0 W hb (h0:LV W m u0 d)=>(zD4 h0 oO)))<|oc (zCB kH iiz)<|oc (zEb hz)<|zD) fun a w2 s=> ?_
 refine zA rfl ?_
 refine StS.cond s true iiz (fun e=> ?_) (fun e=>by cases e)
 refine sX ?_
 replace s:=s.drop [5]
 refine zC 1 ((22, .u (fQN ((0:Int):Rat))):: []) hmix s kH
  (oc (zH zE zDT (fun u0 W hb (h0:u0= .int .i64 0)=>zBI 0 h0 dA))<|zD) fun a w3 s=> ?_
 refine zN (CU.agg (fQN ((0:Int):Rat))) ((fQN ((0:Int):Rat)).tS) rfl s kH rfl rfl rfl iiz iiz zU fun a w s=> ?_
 refine zS (uI 30) rfl s kH iiz fun a w s=> ?_
 refine zA rfl ?_
 refine sY ?_
 exact wK s (CU.agg (fQN ((0:Int):Rat))) rfl kH rfl rfl (z5 _) (fun cs v W h1 h2=>⟨_,_,rfl,by rw [hq0];exact h1,h2⟩)
theorem zLO {W:Wg} {m:Nat} {v v':Wh} {k:Int} {d:Nat} (h:UV W m v k) (h':LV W m v' d) (hm:m<=2000) (hd0:0<d):Calls prog 29 #[v,v'] W (Ret W (yU (fQN (mkRat k d)) (fI 0)).tS):=by
 have bk:k.natAbs<BB^m:=h.bound
 have hz:false=decide (d=0):=(tP oO).symm
 have hdiv: ∀W u0 u1 x,LV W m u0 x->y7 W u1 (Nat.gcd k.natAbs d)->Calls prog 58 #[u0,u1] W (Ret W (zBu (yQ (x / (Nat.gcd k.natAbs d))) (yQ (x % (Nat.gcd k.natAbs d))) (fI 0)).tS):=fun W u0 u1 x h1 h2=>by
  refine (zHc h1 (y7.lv (m:=m) h2 (sZ (Nat.gcd_le_right _ hd0) h'.bound)) oO (zWb _ hd0)).mono ?_
  rintro e w' ⟨v1,v2,rfl,h3,h4,hb⟩
  exact ⟨_,rfl,⟨v1,v2,_,rfl,h3,h4,rfl⟩,hb⟩
 refine z9 [(fUV m k).tS,(fLV m d).tS] func29 rfl kH ⟨h,h',trivial⟩ fun a s=> ?_
 refine sX ?_
 refine zC 0 [] hmix s kH
  zD fun a w1 s=> ?_
 refine yD (CU.agg (fUV m k)) rfl s kH (fun v W h=>zCg h) fun b2 a w s=> ?_
 refine z4 (CU.len 3) (cs:=zR3) kH rfl s kH (fun W=>rfl) rfl fun b4 a w s=> ?_
 refine zS (uI 0) rfl s kH iiz fun a w s=> ?_
 refine zA rfl ?_
 refine sX ?_
 refine sX ?_
 refine zC 4 ((18, .Z (fLV m d))::(19, .Z (yQ d))::(20, .s (zMW d))::(21, .u (uB false)):: []) hmix s kH
  (oc zB<|oc (zH zE zO9 (fun u0 W hb (h0:LV W m u0 d)=>(zD4 h0 oO)))<|oc (zCB kH iiz)<|oc (zEb hz)<|zD) fun a w2 s=> ?_
 refine zA rfl ?_
 refine StS.cond s false iiz (fun e=>by cases e) (fun e=> ?_)
 refine tA ?_
 refine sX ?_
 refine zC 2 ((23, .Z (fUV m k))::(24, .u (fNV k)):: []) hmix s kH
  (oc (zI (f:=fUV m k) 2 kH (hz:=zAQ _ _))<|oc (zH zE zDk (fun u0 W hb (h0:UV W m u0 k)=>j5 h0 oO))<|zD) fun a w3 s=> ?_
 refine zN (CU.agg (fNV k)) ((fNV k).tS) rfl s kH rfl rfl rfl (zAQ _ _) iiz y2 fun a w s=> ?_
 refine zA rfl ?_
 refine sX ?_
 refine zC 8 ((26, .X (fNV k) 1)::(27, .Z (yQ ((k).natAbs)))::(28, .Z (yU (UF.eq (.int .u64 ((zP ((k).natAbs):Nat):Int))) (uB (y5 ((k).natAbs)))))::(25, .Z (yU (UF.eq (.int .u64 ((zP ((k).natAbs):Nat):Int))) (uB (y5 ((k).natAbs)))))::(29, .Z (UF.eq (.int .u64 ((zP ((k).natAbs):Nat):Int))))::(30, .Z (uB (y5 ((k).natAbs))))::(6, .u (UF.eq (.int .u64 ((zP ((k).natAbs):Nat):Int))))::(7, .u (uB (y5 ((k).natAbs)))):: []) hmix s kH
  (oc (zK (C:=cg (fNV k)) 1 kH)<|oc (yL (C:=cg (fNV k)) (k:=1) kH (h:=zHC))<|oc (zH zE zS6 (fun u0 W hb (h0:y7 W u0 ((k).natAbs))=>zHm (y7.lv (m:=m) h0 bk) oO))<|oc zB<|oc (yY (A:=(UF.eq (.int .u64 ((zP ((k).natAbs):Nat):Int))).tS) (B:=(uB (y5 ((k).natAbs))).tS) iiz)<|oc (yX (A:=(UF.eq (.int .u64 ((zP ((k).natAbs):Nat):Int))).tS) (B:=(uB (y5 ((k).natAbs))).tS) iiz)<|oc zF<|oc zF<|zD) fun a w4 s=> ?_
 refine zA rfl ?_
 refine sX ?_
 refine zC 7 ((32, .Z (fLV m d))::(33, .Z (yU (UF.eq (.int .u64 ((zP d:Nat):Int))) (uB (y5 d))))::(31, .Z (yU (UF.eq (.int .u64 ((zP d:Nat):Int))) (uB (y5 d))))::(34, .Z (UF.eq (.int .u64 ((zP d:Nat):Int))))::(35, .Z (uB (y5 d)))::(8, .u (UF.eq (.int .u64 ((zP d:Nat):Int))))::(9, .u (uB (y5 d))):: []) hmix s kH
  (oc zB<|oc (zH zE zS6 (fun u0 W hb (h0:LV W m u0 d)=>zHm h0 oO))<|oc zB<|oc (yY (A:=(UF.eq (.int .u64 ((zP d:Nat):Int))).tS) (B:=(uB (y5 d)).tS) iiz)<|oc (yX (A:=(UF.eq (.int .u64 ((zP d:Nat):Int))).tS) (B:=(uB (y5 d)).tS) iiz)<|oc zF<|oc zF<|zD) fun a w5 s=> ?_
 refine zA rfl ?_
 refine sX ?_
 refine sX ?_
 refine zC 4 ((36, .Z (uB (y5 ((k).natAbs))))::(37, .Z (uB (y5 ((k).natAbs))))::(38, .s (SF.imp ((y5 ((k).natAbs))=true) ((uB (y5 d)).tS)))::(39, .u (uB ((y5 ((k).natAbs))&&(y5 d)))):: []) hmix s kH
  (oc zB<|oc zB<|oc (zG 37 (y5 ((k).natAbs)) kH iiz (fun e=>zQ [] ((uB (y5 d)).tS) fnz (fun _ _ h _=>h) kH zB) (fun e W h=>absurd h e))<|oc (yO (y5 ((k).natAbs)) iiz (fun e v W h=>jM (zL e h) e) (fun e v W h=>qV h e))<|zD) fun a w6 s=> ?_
 refine zA rfl ?_
 refine StS.cond s ((y5 ((k).natAbs))&&(y5 d)) iiz (fun e=> ?_) (fun e=> ?_)
 ·rw [Bool.and_eq_true] at e
  have hs1:zP k.natAbs=k.natAbs:=by have:=e.1;unfold y5 at this;unfold zP;rw [if_pos (tJ this)]
  have hs2:zP d=d:=by have:=e.2;unfold y5 at this;unfold zP;rw [if_pos (tJ this)]
  have hg0:((Nat.gcd (zP k.natAbs) (zP d):Nat):Int)≠0:=by rw [hs1,hs2];have:=zWb k.natAbs hd0;omega
  have hden:(mkRat k d).den=zP d / (Nat.gcd (zP k.natAbs) (zP d)):=by rw [hs1,hs2];exact zCD k d hd0
  have hlt: ∀x,x<18446744073709551616->x<BB^zMV:=fun x hx=>zSQ hx _ dA
  have hnum: ∀W u,UV W zMV u (if decide (k<0) then -(((zP k.natAbs / (Nat.gcd (zP k.natAbs) (zP d))):Nat):Int) else (((zP k.natAbs / (Nat.gcd (zP k.natAbs) (zP d))):Nat):Int))->Calls prog 30 #[u] W (zGO W (mkRat k d).num):=fun W u hu=>by
   have:=j5 hu dA
   rw [hs1,hs2,zEo k d hd0] at this
   exact this
  refine sX ?_
  refine zC 4 ((40, .Z (UF.eq (.int .u64 ((zP ((k).natAbs):Nat):Int))))::(41, .Z (UF.eq (.int .u64 ((zP d:Nat):Int))))::(42, .Z (UF.eq (.int .u64 ((Nat.gcd (zP k.natAbs) (zP d):Nat):Int))))::(10, .u (UF.eq (.int .u64 ((Nat.gcd (zP k.natAbs) (zP d):Nat):Int)))):: []) hmix s kH
   (oc zB<|oc zB<|oc (zJ zE zUw (fun u0 u1 W hb (h0:u0= .int .u64 ((zP ((k).natAbs):Nat):Int)) (h1:u1= .int .u64 ((zP d:Nat):Int))=>zLN _ _ h0 h1 (zAR _) (zAR _)))<|oc zF<|zD) fun a w7 s=> ?_
  refine zA rfl ?_
  refine sX ?_
  replace s:=s.drop [5]
  refine yC [2,3,8,9] 13 ((43, .X (fNV k) 0)::(44, .Z (uB (decide (k<0))))::(45, .Z (UF.eq (.int .u64 ((zP ((k).natAbs):Nat):Int))))::(46, .Z (UF.eq (.int .u64 ((Nat.gcd (zP k.natAbs) (zP d):Nat):Int))))::(47, .Z (UF.eq (.int .u64 ((zP k.natAbs / (Nat.gcd (zP k.natAbs) (zP d)):Nat):Int))))::(48, .Z (yQ (zP k.natAbs / (Nat.gcd (zP k.natAbs) (zP d)))))::(49, .Z (fUV zMV (if decide (k<0) then -((zP k.natAbs / (Nat.gcd (zP k.natAbs) (zP d)):Nat):Int) else ((zP k.natAbs / (Nat.gcd (zP k.natAbs) (zP d)):Nat):Int))))::(50, .Z (fNV ((mkRat k d).num)))::(51, .Z (UF.eq (.int .u64 ((zP d:Nat):Int))))::(52, .Z (UF.eq (.int .u64 ((Nat.gcd (zP k.natAbs) (zP d):Nat):Int))))::(53, .Z (UF.eq (.int .u64 ((zP d / (Nat.gcd (zP k.natAbs) (zP d)):Nat):Int))))::(54, .Z (yQ (zP d / (Nat.gcd (zP k.natAbs) (zP d)))))::(55, .u (fQN (mkRat k d))):: []) hmix s kH
   (oc (zK (C:=cg (fNV k)) 0 kH)<|oc (yL (C:=cg (fNV k)) (k:=0) kH (h:=zA1))<|oc zB<|oc zB<|oc (zIy .u64 ((zP ((k).natAbs):Nat):Int) ((Nat.gcd (zP k.natAbs) (zP d):Nat):Int) ((zP k.natAbs / (Nat.gcd (zP k.natAbs) (zP d)):Nat):Int) iiz iiz hg0 (zRZ _ _ (by rw [zVP oO,Int.natCast_ediv]) (sZ (tK _ _) (zAR _))))<|oc (zH zE zS7 (fun u0 W hb (h0:u0= .int .u64 ((zP k.natAbs / (Nat.gcd (zP k.natAbs) (zP d)):Nat):Int))=>zPA _ (sZ (tK _ _) (zAR _)) h0))<|oc (yS (fun u v W (hu:u= .bool (decide (k<0))) (hv:y7 W v (zP k.natAbs / (Nat.gcd (zP k.natAbs) (zP d))))=>zFD hu hv (hlt _ (by first|exact sZ (tK _ _) (zAR _)|exact hk64|exact sZ (tK _ _) (tB bk (tE y4 (tF hm dA)))))))<|oc (zH zE zDk (fun u0 W hb (h0:UV W zMV u0 (if decide (k<0) then -((zP k.natAbs / (Nat.gcd (zP k.natAbs) (zP d)):Nat):Int) else ((zP k.natAbs / (Nat.gcd (zP k.natAbs) (zP d)):Nat):Int)))=>hnum W u0 (h0:UV W zMV u0 _)))<|oc zB<|oc zB<|oc (zIy .u64 ((zP d:Nat):Int) ((Nat.gcd (zP k.natAbs) (zP d):Nat):Int) ((zP d / (Nat.gcd (zP k.natAbs) (zP d)):Nat):Int) iiz iiz hg0 (zRZ _ _ (by rw [zVP oO,Int.natCast_ediv]) (sZ (tK _ _) (zAR _))))<|oc (zH zE zS7 (fun u0 W hb (h0:u0= .int .u64 ((zP d / (Nat.gcd (zP k.natAbs) (zP d)):Nat):Int))=>zPA _ (sZ (tK _ _) (zAR _)) h0))<|oc (yS (fun u v W (hu:NV W u ((mkRat k d).num)) (hv:y7 W v (zP d / (Nat.gcd (zP k.natAbs) (zP d))))=>zHY (q:=mkRat k d) hu (by first|exact hv|(rw [hden];exact hv))))<|zD) fun Q' hQ a w8 s=> ?_
  refine zN (CU.agg (fQN (mkRat k d))) ((fQN (mkRat k d)).tS) rfl s kH rfl rfl rfl iiz iiz zU fun a w s=> ?_
  refine zS (uI 0) rfl s kH iiz fun a w s=> ?_
  refine zA rfl (hQ _ _ ?_)
  refine sY ?_
  exact wK s (CU.agg (fQN (mkRat k d))) rfl kH rfl rfl (z5 _) (fun cs v W h1 h2=>⟨_,_,rfl,h1,h2⟩)
 ·have hlt: ∀x,x<BB^zMV->x<BB^zMV:=fun x hx=>hx
  have hden:(mkRat k d).den=d / (Nat.gcd k.natAbs d):=zCD k d hd0
  have hnum: ∀W u,UV W zMV u (if decide (k<0) then -((((k).natAbs / (Nat.gcd k.natAbs d)):Nat):Int) else ((((k).natAbs / (Nat.gcd k.natAbs d)):Nat):Int))->Calls prog 30 #[u] W (zGO W (mkRat k d).num):=fun W u hu=>by
   have:=j5 hu dA
   rw [zEo k d hd0] at this
   exact this
  refine tA ?_
  refine sX ?_
  refine zC 5 ((56, .X (fNV k) 1)::(57, .Z (yQ ((k).natAbs)))::(58, .Z (fLV m d))::(59, .Z (yQ (Nat.gcd k.natAbs d)))::(11, .u (yQ (Nat.gcd k.natAbs d))):: []) hmix s kH
   (oc (zK (C:=cg (fNV k)) 1 kH)<|oc (yL (C:=cg (fNV k)) (k:=1) kH (h:=zHC))<|oc zB<|oc (zJ zE zUv (fun u0 u1 W hb (h0:y7 W u0 ((k).natAbs)) (h1:LV W m u1 d)=>zQ6 (y7.lv (m:=m) h0 bk) h1 oO))<|oc zF<|zD) fun a w9 s=> ?_
  refine zA rfl ?_
  refine sX ?_
  refine zC 11 ((61, .X (fNV k) 1)::(62, .Z (yQ ((k).natAbs)))::(63, .Z (yQ (Nat.gcd k.natAbs d)))::(64, .Z (zBu (yQ (((k).natAbs) / (Nat.gcd k.natAbs d))) (yQ (((k).natAbs) % (Nat.gcd k.natAbs d))) (uI 0)))::(60, .Z (zBu (yQ (((k).natAbs) / (Nat.gcd k.natAbs d))) (yQ (((k).natAbs) % (Nat.gcd k.natAbs d))) (uI 0)))::(65, .Z (yQ (((k).natAbs) / (Nat.gcd k.natAbs d))))::(66, .Z (yQ (((k).natAbs) % (Nat.gcd k.natAbs d))))::(67, .Z (uI 0))::(12, .u (yQ (((k).natAbs) / (Nat.gcd k.natAbs d))))::(13, .Z (yQ (((k).natAbs) % (Nat.gcd k.natAbs d))))::(14, .Z (uI 0)):: []) hmix s kH
   (oc (zK (C:=cg (fNV k)) 1 kH)<|oc (yL (C:=cg (fNV k)) (k:=1) kH (h:=zHC))<|oc zB<|oc (zJ zE zKP (fun u0 u1 W hb (h0:y7 W u0 ((k).natAbs)) (h1:y7 W u1 (Nat.gcd k.natAbs d))=>hdiv W u0 u1 _ (y7.lv (m:=m) h0 bk) h1))<|oc zB<|oc (zBr (A:=(yQ (((k).natAbs) / (Nat.gcd k.natAbs d))).tS) (B:=(yQ (((k).natAbs) % (Nat.gcd k.natAbs d))).tS) (C:=(uI 0).tS) iiz)<|oc (zBq (A:=(yQ (((k).natAbs) / (Nat.gcd k.natAbs d))).tS) (B:=(yQ (((k).natAbs) % (Nat.gcd k.natAbs d))).tS) (C:=(uI 0).tS) iiz)<|oc (zBp (A:=(yQ (((k).natAbs) / (Nat.gcd k.natAbs d))).tS) (B:=(yQ (((k).natAbs) % (Nat.gcd k.natAbs d))).tS) (C:=(uI 0).tS) iiz)<|oc zF<|oc zF<|oc zF<|zD) fun a w10 s=> ?_
  refine zA rfl ?_
  refine sX ?_
  refine zC 10 ((69, .Z (fLV m d))::(70, .Z (yQ (Nat.gcd k.natAbs d)))::(71, .Z (zBu (yQ (d / (Nat.gcd k.natAbs d))) (yQ (d % (Nat.gcd k.natAbs d))) (uI 0)))::(68, .Z (zBu (yQ (d / (Nat.gcd k.natAbs d))) (yQ (d % (Nat.gcd k.natAbs d))) (uI 0)))::(72, .Z (yQ (d / (Nat.gcd k.natAbs d))))::(73, .Z (yQ (d % (Nat.gcd k.natAbs d))))::(74, .Z (uI 0))::(15, .u (yQ (d / (Nat.gcd k.natAbs d))))::(16, .Z (yQ (d % (Nat.gcd k.natAbs d))))::(17, .Z (uI 0)):: []) hmix s kH
   (oc zB<|oc zB<|oc (zJ zE zKP (fun u0 u1 W hb (h0:LV W m u0 d) (h1:y7 W u1 (Nat.gcd k.natAbs d))=>hdiv W u0 u1 _ h0 h1))<|oc zB<|oc (zBr (A:=(yQ (d / (Nat.gcd k.natAbs d))).tS) (B:=(yQ (d % (Nat.gcd k.natAbs d))).tS) (C:=(uI 0).tS) iiz)<|oc (zBq (A:=(yQ (d / (Nat.gcd k.natAbs d))).tS) (B:=(yQ (d % (Nat.gcd k.natAbs d))).tS) (C:=(uI 0).tS) iiz)<|oc (zBp (A:=(yQ (d / (Nat.gcd k.natAbs d))).tS) (B:=(yQ (d % (Nat.gcd k.natAbs d))).tS) (C:=(uI 0).tS) iiz)<|oc zF<|oc zF<|oc zF<|zD) fun a w11 s=> ?_
  refine zA rfl ?_
  refine sX ?_
  replace s:=s.drop [5]
  refine zC 7 ((75, .X (fNV k) 0)::(76, .Z (uB (decide (k<0))))::(77, .Z (yQ (((k).natAbs) / (Nat.gcd k.natAbs d))))::(78, .Z (fUV zMV (if decide (k<0) then -((((k).natAbs) / (Nat.gcd k.natAbs d):Nat):Int) else ((((k).natAbs) / (Nat.gcd k.natAbs d):Nat):Int))))::(79, .Z (fNV ((mkRat k d).num)))::(80, .Z (yQ (d / (Nat.gcd k.natAbs d))))::(81, .u (fQN (mkRat k d))):: []) hmix s kH
   (oc (zK (C:=cg (fNV k)) 0 kH)<|oc (yL (C:=cg (fNV k)) (k:=0) kH (h:=zA1))<|oc zB<|oc (yS (fun u v W (hu:u= .bool (decide (k<0))) (hv:y7 W v (((k).natAbs) / (Nat.gcd k.natAbs d)))=>zFD hu hv (hlt _ (by first|exact sZ (tK _ _) (zAR _)|exact hk64|exact sZ (tK _ _) (tB bk (tE y4 (tF hm dA)))))))<|oc (zH zE zDk (fun u0 W hb (h0:UV W zMV u0 (if decide (k<0) then -((((k).natAbs) / (Nat.gcd k.natAbs d):Nat):Int) else ((((k).natAbs) / (Nat.gcd k.natAbs d):Nat):Int)))=>hnum W u0 (h0:UV W zMV u0 _)))<|oc zB<|oc (yS (fun u v W (hu:NV W u ((mkRat k d).num)) (hv:y7 W v (d / (Nat.gcd k.natAbs d)))=>zHY (q:=mkRat k d) hu (by first|exact hv|(rw [hden];exact hv))))<|zD) fun a w12 s=> ?_
  refine zN (CU.agg (fQN (mkRat k d))) ((fQN (mkRat k d)).tS) rfl s kH rfl rfl rfl iiz iiz zU fun a w s=> ?_
  refine zS (uI 0) rfl s kH iiz fun a w s=> ?_
  refine zA rfl ?_
  refine sY ?_
  exact wK s (CU.agg (fQN (mkRat k d))) rfl kH rfl rfl (z5 _) (fun cs v W h1 h2=>⟨_,_,rfl,h1,h2⟩)
theorem zD6 {W:Wg} {m:Nat} {v v':Wh} {k:Int} {d:Nat} (h:UV W m v k) (h':LV W m v' d) (hm:m<=2000):Calls prog 29 #[v,v'] W (Ret W (yU (fQN (mkRat k d)) (fI (if d=0 then 30 else 0))).tS):=by
 by_cases hd:d=0
 ·rw [if_pos hd]
  exact zQV h h' hm hd
 ·rw [if_neg hd]
  exact zLO h h' hm oO
end Go.Proofs.Wd

namespace Go.Proofs.Wd
open Tryz
set_option maxRecDepth 100000
open Go.RowKit Lb
theorem zOg {W:Wg} {m:Nat} {v:Wh} {k:Int} {d:Nat} (h:QVp m k d v W) (hm:m<=2000):Calls prog 14 #[v] W (Ret W (fQN (mkRat k d)).tS):=by
 refine z9 [(fQV m k d).tS] func14 rfl kH ⟨h,trivial⟩ fun a s=> ?_
 refine sX ?_
 refine zC 0 [] hmix s kH
  zD fun a w1 s=> ?_
 refine yD (CU.agg (fQV m k d)) rfl s kH (fun v W h=>zDA h) fun b1 a w s=> ?_
 refine z4 (CU.len 3) (cs:=zR3) kH rfl s kH (fun W=>rfl) rfl fun b2 a w s=> ?_
 refine zA rfl ?_
 refine sX ?_
 refine zC 8 ((6, .X (fQV m k d) 0)::(7, .Z (fUV m k))::(8, .X (fQV m k d) 2)::(9, .Z (fLV m d))::(10, .Z (yU (fQN (mkRat k d)) (uI (if d=0 then 30 else 0))))::(5, .Z (yU (fQN (mkRat k d)) (uI (if d=0 then 30 else 0))))::(11, .u (fQN (mkRat k d)))::(12, .u (uI (if d=0 then 30 else 0))):: []) hmix s kH
  (oc (zK (C:=cg (fQV m k d)) 0 kH)<|oc (yB (C:=cg (fQV m k d)) (k:=0) 2 kH (h:=zL3))<|oc (zK (C:=cg (fQV m k d)) 2 kH)<|oc (yL (C:=cg (fQV m k d)) (k:=2) kH (h:=zHn))<|oc (zJ zE zIM (fun u0 u1 W hb (h0:UV W m u0 k) (h1:LV W m u1 d)=>zD6 h0 h1 hm))<|oc zB<|oc (yY (A:=(fQN (mkRat k d)).tS) (B:=(uI (if d=0 then 30 else 0)).tS) iiz)<|oc (yX (A:=(fQN (mkRat k d)).tS) (B:=(uI (if d=0 then 30 else 0)).tS) iiz)<|zD) fun a w2 s=> ?_
 refine z4 (CU.len 3) (cs:=zR3) kH rfl s kH (fun W=>rfl) rfl fun b3 a w s=> ?_
 refine zN (CU.agg (fQN (mkRat k d))) ((fQN (mkRat k d)).tS) rfl s kH rfl rfl rfl iiz iiz zU fun a w s=> ?_
 refine zS (uI (if d=0 then 30 else 0)) rfl s kH iiz fun a w s=> ?_
 refine zA rfl ?_
 refine sX ?_
 refine zC 1 ((13, .u (fQN (mkRat k d))):: []) hmix s kH
  (oc (zI (f:=fQN (mkRat k d)) 3 kH (hz:=z5 _))<|zD) fun a w3 s=> ?_
 refine zN (CU.agg (fQN (mkRat k d))) ((fQN (mkRat k d)).tS) rfl s kH rfl rfl rfl iiz iiz zU fun a w s=> ?_
 refine zA rfl ?_
 refine sY ?_
 exact wI s (CU.agg (fQN (mkRat k d))) rfl kH rfl rfl (z5 _) (fun cs W h=>h)
theorem jA {W:Wg} {m:Nat} {v:Wh} {q:Rat} (h:RVp m q v W) (hm:m<=2000):Calls prog 14 #[v] W (Ret W (fQN q).tS):=by
 obtain ⟨k,d,h1,rfl⟩:=h
 exact zOg h1 hm
theorem zLM (n:Int) (d:Nat) (hd:0<d):(mkRat n d).num.sign=n.sign:=by
 have h1:=zVQ.1 (zB5 n d hd)
 have h2:(mkRat n d).num=0↔n=0:=by rw [zMv,Rat.mkRat_eq_zero oO]
 rcases Int.lt_trichotomy n 0 with h|h|h
 ·rw [zWc h,zWc (h1.2 h)]
 ·rw [h2.2 h,h]
 ·rw [Int.sign_eq_one_of_pos h,Int.sign_eq_one_of_pos (by have:=mt h1.1 oO;have:=mt h2.1 oO;omega)]
theorem zOe {W:Wg} {m:Nat} {v:Wh} {k:Int} {d:Nat} (h:QVp m k d v W) (hm:m<=2000) (hd:d=0):Calls prog 126 #[v] W (Ret W (fI 0).tS):=by
 have hz:true=decide (d=0):=(tO hd).symm
 refine z9 [(fQV m k d).tS] func126 rfl kH ⟨h,trivial⟩ fun a s=> ?_
 refine sX ?_
 refine zC 0 [] hmix s kH
  zD fun a w1 s=> ?_
 refine yD (CU.agg (fQV m k d)) rfl s kH (fun v W h=>zDA h) fun b1 a w s=> ?_
 refine zS (uI 0) rfl s kH iiz fun a w s=> ?_
 refine zA rfl ?_
 refine sX ?_
 refine sX ?_
 refine zC 5 ((3, .X (fQV m k d) 2)::(4, .Z (fLV m d))::(5, .Z (yQ d))::(6, .s (zMW d))::(7, .u (uB true)):: []) hmix s kH
  (oc (zK (C:=cg (fQV m k d)) 2 kH)<|oc (yL (C:=cg (fQV m k d)) (k:=2) kH (h:=zHn))<|oc (zH zE zO9 (fun u0 W hb (h0:LV W m u0 d)=>(zD4 h0 oO)))<|oc (zCB kH iiz)<|oc (zEb hz)<|zD) fun a w2 s=> ?_
 refine zA rfl ?_
 refine StS.cond s true iiz (fun e=> ?_) (fun e=>by cases e)
 refine sX ?_
 replace s:=s.drop [2]
 refine zC 1 ((2, .u (uI 0)):: []) hmix s kH
  (oc zF<|zD) fun a w3 s=> ?_
 refine zA rfl ?_
 refine sY ?_
 exact wJ s (t:=2) rfl iiz
theorem zOf {W:Wg} {m:Nat} {v:Wh} {k:Int} {d:Nat} (h:QVp m k d v W) (hm:m<=2000) (hd:0<d):Calls prog 126 #[v] W (Ret W (fI k.sign).tS):=by
 have hz:false=decide (d=0):=(tP oO).symm
 refine z9 [(fQV m k d).tS] func126 rfl kH ⟨h,trivial⟩ fun a s=> ?_
 refine sX ?_
 refine zC 0 [] hmix s kH
  zD fun a w1 s=> ?_
 refine yD (CU.agg (fQV m k d)) rfl s kH (fun v W h=>zDA h) fun b1 a w s=> ?_
 refine zS (uI 0) rfl s kH iiz fun a w s=> ?_
 refine zA rfl ?_
 refine sX ?_
 refine sX ?_
 refine zC 5 ((3, .X (fQV m k d) 2)::(4, .Z (fLV m d))::(5, .Z (yQ d))::(6, .s (zMW d))::(7, .u (uB false)):: []) hmix s kH
  (oc (zK (C:=cg (fQV m k d)) 2 kH)<|oc (yL (C:=cg (fQV m k d)) (k:=2) kH (h:=zHn))<|oc (zH zE zO9 (fun u0 W hb (h0:LV W m u0 d)=>(zD4 h0 oO)))<|oc (zCB kH iiz)<|oc (zEb hz)<|zD) fun a w2 s=> ?_
 refine zA rfl ?_
 refine StS.cond s false iiz (fun e=>by cases e) (fun e=> ?_)
 refine tA ?_
 refine sX ?_
 replace s:=s.drop [2]
 refine zC 4 ((8, .X (fQV m k d) 0)::(9, .Z (fUV m k))::(10, .Z (uI (k.sign)))::(2, .u (uI (k.sign))):: []) hmix s kH
  (oc (zK (C:=cg (fQV m k d)) 0 kH)<|oc (yB (C:=cg (fQV m k d)) (k:=0) 2 kH (h:=zL3))<|oc (zH zE zTh (fun u0 W hb (h0:UV W m u0 k)=>zEO (zJs h0 oO)))<|oc zF<|zD) fun a w3 s=> ?_
 refine zA rfl ?_
 refine sY ?_
 exact wJ s (t:=2) rfl iiz
theorem zJq {W:Wg} {m:Nat} {v:Wh} {q:Rat} (h:RVp m q v W) (hm:m<=2000):Calls prog 126 #[v] W (Ret W (fI q.num.sign).tS):=by
 obtain ⟨k,d,h1,rfl⟩:=h
 by_cases hd:d=0
 ·have:=zOe h1 hm hd
  rw [hd,zVW]
  exact this
 ·rw [zLM k d oO]
  exact zOf h1 hm oO
theorem zQT {W:Wg} {m:Nat} {u v:Wh} {p q:Rat} (h:QNp p u W) (h':QNp q v W) (hp:QB p m) (hq:QB q m) (hm:m<=990):Calls prog 102 #[u,v] W (Ret W (fQN (p+q)).tS):=by
 have hnew: ∀W u0 u1,NV W u0 (((p).num*((q).den:Int))+((q).num*((p).den:Int)))->y7 W u1 ((p).den*(q).den)->Calls prog 29 #[u0,u1] W (Ret W (yU (fQN (p+q)) UF.any).tS):=fun W u0 u1 h0 h1=>by
  have:=zD6 (m:=m+m+1) (h0.uv' (hp.num_add hq)) (h1.lv (tB (hp.den_mul hq) (tE y4 oO))) oO
  rw [<-Rat.add_def' p q] at this
  exact this.mono fun e w' ⟨v,e1,⟨x,y,e2,h2,_⟩,hb⟩=>⟨v,e1,⟨x,y,e2,h2,trivial⟩,hb⟩
 refine z9 [(fQN p).tS,(fQN q).tS] func102 rfl kH ⟨h,h',trivial⟩ fun a s=> ?_
 refine sX ?_
 refine zC 0 [] hmix s kH
  zD fun a w1 s=> ?_
 refine yD (CU.agg (fQN p)) rfl s kH (fun v W h=>zHp h) fun b2 a w s=> ?_
 refine yD (CU.agg (fQN q)) rfl s kH (fun v W h=>zHp h) fun b3 a w s=> ?_
 refine z4 (CU.len 3) (cs:=zR3) kH rfl s kH (fun W=>rfl) rfl fun b4 a w s=> ?_
 refine zA rfl ?_
 refine sX ?_
 have so:=s.old;have sg:=s.gr
 refine qL [24] [⟨25,5,27, [.bool false, .slice none 0 0, .slice none 0 0],wH w 27 (CU.len 3)⟩] 26 ((8, .X (fQN p) 0)::(9, .Z (fNV ((p).num)))::(10, .X (fQN q) 2)::(11, .Z (yQ ((q).den)))::(12, .Z (fNV ((q).den:Int)))::(13, .s (zFU (m+m) [(p).num,((q).den:Int)]))::(14, .Z (fNV ((p).num*((q).den:Int))))::(15, .X (fQN q) 0)::(16, .Z (fNV ((q).num)))::(17, .X (fQN p) 2)::(18, .Z (yQ ((p).den)))::(19, .Z (fNV ((p).den:Int)))::(20, .s (zFU (m+m) [(q).num,((p).den:Int)]))::(21, .Z (fNV ((q).num*((p).den:Int))))::(22, .s (zFU (m+m) [((p).num*((q).den:Int)),((q).num*((p).den:Int))]))::(23, .Z (fNV (((p).num*((q).den:Int))+((q).num*((p).den:Int)))))::(24, .X (fQN p) 2)::(25, .Z (yQ ((p).den)))::(26, .X (fQN q) 2)::(27, .Z (yQ ((q).den)))::(28, .Z (yQ ((p).den*(q).den)))::(29, .Z (yU (fQN (p+q)) (UF.any)))::(7, .Z (yU (fQN (p+q)) (UF.any)))::(30, .u (fQN (p+q)))::(5, .s (wH w 27 (CU.len 3))):: []) hmix s (fmz ⟨⟨by show 25<26;decide, .tail _ (.tail _ (.tail _ (.tail _ (.tail _ (.tail _ (.tail _ (.tail _ (.tail _ zNw)))))))),⟨_,_,_,rfl⟩,by kernel_rfl,jI (fun _=>rfl) rfl⟩,fnz⟩) kH
  (oc (zK (C:=cg (fQN p)) 0 kH)<|oc (yB (C:=cg (fQN p)) (k:=0) 2 kH (h:=zBj))<|oc (zK (C:=cg (fQN q)) 2 kH)<|oc (yL (C:=cg (fQN q)) (k:=2) kH (h:=zAw))<|oc (zH zE zKS (fun u0 W hb (h0:y7 W u0 ((q).den))=>zFO h0))<|oc (yK (fun u v W (hu:NV W u ((p).num)) (hv:NV W v ((q).den:Int))=>jV (NV.uv' hu (Bd.mono (hp).1 (m':=(m+m)) (by first|omega|decide))) (NV.uv' hv (Bd.mono (jR hq.2) (m':=(m+m)) (by first|omega|decide)))))<|oc (zH zE zFm (fun u0 W hb (h0:ISV W (m+m) u0 [(p).num,((q).den:Int)])=>zBA h0 (by show (m+m)*2+(m+m)+1<=40000;omega) (by simp) (by simp)))<|oc (zK (C:=cg (fQN q)) 0 kH)<|oc (yB (C:=cg (fQN q)) (k:=0) 2 kH (h:=zBj))<|oc (zK (C:=cg (fQN p)) 2 kH)<|oc (yL (C:=cg (fQN p)) (k:=2) kH (h:=zAw))<|oc (zH zE zKS (fun u0 W hb (h0:y7 W u0 ((p).den))=>zFO h0))<|oc (yK (fun u v W (hu:NV W u ((q).num)) (hv:NV W v ((p).den:Int))=>jV (NV.uv' hu (Bd.mono (hq).1 (m':=(m+m)) (by first|omega|decide))) (NV.uv' hv (Bd.mono (jR hp.2) (m':=(m+m)) (by first|omega|decide)))))<|oc (zH zE zFm (fun u0 W hb (h0:ISV W (m+m) u0 [(q).num,((p).den:Int)])=>zBA h0 (by show (m+m)*2+(m+m)+1<=40000;omega) (by simp) (by simp)))<|oc (yK (fun u v W (hu:NV W u ((p).num*((q).den:Int))) (hv:NV W v ((q).num*((p).den:Int)))=>jV (NV.uv' hu (Bd.mul (hp).1 (jR hq.2))) (NV.uv' hv (Bd.mul (hq).1 (jR hp.2)))))<|oc (zH zE zTe (fun u0 W hb (h0:ISV W (m+m) u0 [((p).num*((q).den:Int)),((q).num*((p).den:Int))])=>zLV h0 oO (by simp) (by simp)))<|oc (zK (C:=cg (fQN p)) 2 kH)<|oc (yL (C:=cg (fQN p)) (k:=2) kH (h:=zAw))<|oc (zK (C:=cg (fQN q)) 2 kH)<|oc (yL (C:=cg (fQN q)) (k:=2) kH (h:=zAw))<|oc (zJ zE zRK (fun u0 u1 W hb (h0:y7 W u0 ((p).den)) (h1:y7 W u1 ((q).den))=>zLz (y7.lv (m:=m) h0 hp.2) (y7.lv (m:=m) h1 hq.2) oO))<|oc (zJ zE zIM (fun u0 u1 W hb (h0:NV W u0 (((p).num*((q).den:Int))+((q).num*((p).den:Int)))) (h1:y7 W u1 ((p).den*(q).den))=>hnew W u0 u1 h0 h1))<|oc zB<|oc (yY (A:=(fQN (p+q)).tS) (B:=(UF.any).tS) iiz)<|oc (yX (A:=(fQN (p+q)).tS) (B:=(UF.any).tS) iiz)<|oc (zAL (cs:=zR3) kH (jI (fun _=>rfl) rfl))<|zD) fun Q' hQ a w2 s hr hd=> ?_
 obtain ⟨b5,_,e5,s⟩:=s.adoptA false 5 (hr (_,_) (.tail _ (.tail _ (.tail _ (.tail _ (.tail _ (.tail _ (.tail _ (.tail _ (.tail _ zNw)))))))))) sg (fun y hy=> .inl (so y hy))
 refine zN (CU.agg (fQN (p+q))) ((fQN (p+q)).tS) rfl s kH rfl rfl rfl iiz iiz zU fun a w s=> ?_
 refine zS UF.any rfl s kH (fun _ _ _=>trivial) fun a w s=> ?_
 refine zA rfl (hQ _ _ ?_)
 refine sX ?_
 refine zC 1 ((32, .u (fQN (p+q))):: []) hmix s kH
  (oc (zI (f:=fQN (p+q)) 3 kH (hz:=z5 _))<|zD) fun a w3 s=> ?_
 refine zN (CU.agg (fQN (p+q))) ((fQN (p+q)).tS) rfl s kH rfl rfl rfl iiz iiz zU fun a w s=> ?_
 refine zA rfl ?_
 refine sY ?_
 exact wI s (CU.agg (fQN (p+q))) rfl kH rfl rfl (z5 _) (fun cs W h=>h)
theorem zLP {W:Wg} {m:Nat} {v:Wh} {q:Rat} (h:RVp m q v W) (hm:m<=990) (hm0:0<m):Calls prog 101 #[v] W (Ret W (fQN (-q)).tS):=by
 have hq:QB q m:=h.qb hm0
 refine z9 [(fRV m q).tS] func101 rfl kH ⟨h,trivial⟩ fun a s=> ?_
 refine sX ?_
 refine zC 0 [] hmix s kH
  zD fun a w1 s=> ?_
 refine yD (CU.agg (fRV m q)) rfl s kH (fun v W h=>y6 h) fun b1 a w s=> ?_
 refine z4 (CU.len 3) (cs:=zR3) kH rfl s kH (fun W=>rfl) rfl fun b2 a w s=> ?_
 refine zA rfl ?_
 refine sX ?_
 refine zC 2 ((3, .Z (fRV m q))::(4, .u (fQN q)):: []) hmix s kH
  (oc (zI (f:=fRV m q) 3 kH (hz:=zT _ _))<|oc (zH zE zCa (fun u0 W hb (h0:RVp m q u0 W)=>jA h0 oO))<|zD) fun a w2 s=> ?_
 refine zN (CU.agg (fQN q)) ((fQN q).tS) rfl s kH rfl rfl rfl (zT _ _) iiz zU fun a w s=> ?_
 refine zA rfl ?_
 refine sX ?_
 refine yC [] 6 ((5, .X (fQN q) 0)::(6, .Z (fNV ((q).num)))::(7, .Z (fNV (-(q).num)))::(8, .X (fQN q) 2)::(9, .Z (yQ ((q).den)))::(10, .u (fQN (-q))):: []) hmix s kH
  (oc (zK (C:=cg (fQN q)) 0 kH)<|oc (yB (C:=cg (fQN q)) (k:=0) 2 kH (h:=zBj))<|oc (zH zE zTd (fun u0 W hb (h0:NV W u0 ((q).num))=>zLS (NV.uv' h0 (hq).1) oO))<|oc (zK (C:=cg (fQN q)) 2 kH)<|oc (yL (C:=cg (fQN q)) (k:=2) kH (h:=zAw))<|oc (yS (fun u v W (hu:NV W u (-(q).num)) (hv:y7 W v ((q).den))=>zHY (q:= -q) hu hv))<|zD) fun Q' hQ a w3 s=> ?_
 refine zN (CU.agg (fQN (-q))) ((fQN (-q)).tS) rfl s kH rfl rfl rfl iiz iiz zU fun a w s=> ?_
 refine zA rfl (hQ _ _ ?_)
 refine sY ?_
 exact wI s (CU.agg (fQN (-q))) rfl kH rfl rfl (z5 _) (fun cs W h=>h)
theorem zAZ {W:Wg} {m:Nat} {u v:Wh} {p q:Rat} (h:RVp m p u W) (h':RVp m q v W) (hm:m<=990) (hm0:0<m):Calls prog 6 #[u,v] W (Ret W (fI (qsg p q)).tS):=by
 have hp:QB p m:=h.qb hm0
 have hq:QB q m:=h'.qb hm0
 refine z9 [(fRV m p).tS,(fRV m q).tS] func6 rfl kH ⟨h,h',trivial⟩ fun a s=> ?_
 refine sX ?_
 refine zC 0 [] hmix s kH
  zD fun a w1 s=> ?_
 refine yD (CU.agg (fRV m p)) rfl s kH (fun v W h=>y6 h) fun b2 a w s=> ?_
 refine yD (CU.agg (fRV m q)) rfl s kH (fun v W h=>y6 h) fun b3 a w s=> ?_
 refine zS (uI 0) rfl s kH iiz fun a w s=> ?_
 refine zA rfl ?_
 refine sX ?_
 refine yC [] 4 ((5, .Z (fRV m p))::(6, .u (fQN p))::(7, .Z (fRV m q))::(8, .u (fQN q)):: []) hmix s kH
  (oc (zI (f:=fRV m p) 3 kH (hz:=zT _ _))<|oc (zH zE zCa (fun u0 W hb (h0:RVp m p u0 W)=>jA h0 oO))<|oc (zI (f:=fRV m q) 3 kH (hz:=zT _ _))<|oc (zH zE zCa (fun u0 W hb (h0:RVp m q u0 W)=>jA h0 oO))<|zD) fun Q' hQ a w2 s=> ?_
 refine zN (CU.agg (fQN p)) ((fQN p).tS) rfl s kH rfl rfl rfl (zT _ _) iiz zU fun a w s=> ?_
 refine zN (CU.agg (fQN q)) ((fQN q).tS) rfl s kH rfl rfl rfl (zT _ _) iiz zU fun a w s=> ?_
 refine zA rfl (hQ _ _ ?_)
 refine sX ?_
 replace s:=s.drop [4]
 refine zC 17 ((9, .X (fQN p) 0)::(10, .Z (fNV ((p).num)))::(11, .X (fQN q) 2)::(12, .Z (yQ ((q).den)))::(13, .Z (fNV ((q).den:Int)))::(14, .s (zFU (m+m) [(p).num,((q).den:Int)]))::(15, .Z (fNV ((p).num*((q).den:Int))))::(16, .X (fQN q) 0)::(17, .Z (fNV ((q).num)))::(18, .X (fQN p) 2)::(19, .Z (yQ ((p).den)))::(20, .Z (fNV ((p).den:Int)))::(21, .s (zFU (m+m) [(q).num,((p).den:Int)]))::(22, .Z (fNV ((q).num*((p).den:Int))))::(23, .Z (fNV (((p).num*((q).den:Int)) - ((q).num*((p).den:Int)))))::(24, .Z (uI (qsg p q)))::(4, .u (uI (qsg p q))):: []) hmix s kH
  (oc (zK (C:=cg (fQN p)) 0 kH)<|oc (yB (C:=cg (fQN p)) (k:=0) 2 kH (h:=zBj))<|oc (zK (C:=cg (fQN q)) 2 kH)<|oc (yL (C:=cg (fQN q)) (k:=2) kH (h:=zAw))<|oc (zH zE zKS (fun u0 W hb (h0:y7 W u0 ((q).den))=>zFO h0))<|oc (yK (fun u v W (hu:NV W u ((p).num)) (hv:NV W v ((q).den:Int))=>jV (NV.uv' hu (Bd.mono (hp).1 (m':=(m+m)) (by first|omega|decide))) (NV.uv' hv (Bd.mono (jR hq.2) (m':=(m+m)) (by first|omega|decide)))))<|oc (zH zE zFm (fun u0 W hb (h0:ISV W (m+m) u0 [(p).num,((q).den:Int)])=>zBA h0 (by show (m+m)*2+(m+m)+1<=40000;omega) (by simp) (by simp)))<|oc (zK (C:=cg (fQN q)) 0 kH)<|oc (yB (C:=cg (fQN q)) (k:=0) 2 kH (h:=zBj))<|oc (zK (C:=cg (fQN p)) 2 kH)<|oc (yL (C:=cg (fQN p)) (k:=2) kH (h:=zAw))<|oc (zH zE zKS (fun u0 W hb (h0:y7 W u0 ((p).den))=>zFO h0))<|oc (yK (fun u v W (hu:NV W u ((q).num)) (hv:NV W v ((p).den:Int))=>jV (NV.uv' hu (Bd.mono (hq).1 (m':=(m+m)) (by first|omega|decide))) (NV.uv' hv (Bd.mono (jR hp.2) (m':=(m+m)) (by first|omega|decide)))))<|oc (zH zE zFm (fun u0 W hb (h0:ISV W (m+m) u0 [(q).num,((p).den:Int)])=>zBA h0 (by show (m+m)*2+(m+m)+1<=40000;omega) (by simp) (by simp)))<|oc (zJ zE zKT (fun u0 u1 W hb (h0:NV W u0 ((p).num*((q).den:Int))) (h1:NV W u1 ((q).num*((p).den:Int)))=>zD7 (NV.uv' h0 (Bd.mul (hp).1 (jR hq.2))) (NV.uv' h1 (Bd.mul (hq).1 (jR hp.2))) oO))<|oc (zH zE zTh (fun u0 W hb (h0:NV W u0 (((p).num*((q).den:Int)) - ((q).num*((p).den:Int))))=>zEO (zJs (NV.uv' h0 (Bd.sub (Bd.mul (hp).1 (jR hq.2)) (Bd.mul (hq).1 (jR hp.2)))) oO)))<|oc zF<|zD) fun a w3 s=> ?_
 refine zA rfl ?_
 refine sY ?_
 exact wJ s (t:=4) rfl iiz
theorem zQU {W:Wg} {m:Nat} {u v:Wh} {p q:Rat} (h:RVp m p u W) (h':RVp m q v W) (hm:m<=990) (hm0:0<m):Calls prog 107 #[u,v] W (Ret W (yU (fQN (p / q)) (fI (if q=0 then 30 else 0))).tS):=by
 have hp:QB p m:=h.qb hm0
 have hq:QB q m:=h'.qb hm0
 have bk2:Bd (if decide ((q).num<0) then -((q).den:Int) else ((q).den:Int)) m:=by split;exact (jR hq.2).neg;exact jR hq.2
 have hval:mkRat ((p).num*(if decide ((q).num<0) then -((q).den:Int) else ((q).den:Int))) ((p).den*(q).num.natAbs)=p / q:=zLI p q
 have herr:((p).den*(q).num.natAbs=0)=(q=0):=by rw [Nat.mul_eq_zero,Int.natAbs_eq_zero,zMv];have:=p.den_pos;simp;omega
 have hnew: ∀W u0 u1,NV W u0 ((p).num*(if decide ((q).num<0) then -((q).den:Int) else ((q).den:Int)))->y7 W u1 ((p).den*(q).num.natAbs)->Calls prog 29 #[u0,u1] W (Ret W (yU (fQN (p / q)) (fI (if q=0 then 30 else 0))).tS):=fun W u0 u1 h0 h1=>by
  have:=zD6 (m:=m+m) (h0.uv' (Bd.mul hp.1 bk2)) (h1.lv (zCS hp.2 hq.1)) oO
  simp only [hval,herr] at this
  exact this
 refine z9 [(fRV m p).tS,(fRV m q).tS] func107 rfl kH ⟨h,h',trivial⟩ fun a s=> ?_
 refine sX ?_
 refine zC 0 [] hmix s kH
  zD fun a w1 s=> ?_
 refine yD (CU.agg (fRV m p)) rfl s kH (fun v W h=>y6 h) fun b2 a w s=> ?_
 refine yD (CU.agg (fRV m q)) rfl s kH (fun v W h=>y6 h) fun b3 a w s=> ?_
 refine z4 (CU.len 3) (cs:=zR3) kH rfl s kH (fun W=>rfl) rfl fun b4 a w s=> ?_
 refine zS (uI 0) rfl s kH iiz fun a w s=> ?_
 refine zA rfl ?_
 refine sX ?_
 refine yC [] 4 ((6, .Z (fRV m p))::(7, .u (fQN p))::(8, .Z (fRV m q))::(9, .u (fQN q)):: []) hmix s kH
  (oc (zI (f:=fRV m p) 3 kH (hz:=zT _ _))<|oc (zH zE zCa (fun u0 W hb (h0:RVp m p u0 W)=>jA h0 oO))<|oc (zI (f:=fRV m q) 3 kH (hz:=zT _ _))<|oc (zH zE zCa (fun u0 W hb (h0:RVp m q u0 W)=>jA h0 oO))<|zD) fun Q' hQ a w2 s=> ?_
 refine zN (CU.agg (fQN p)) ((fQN p).tS) rfl s kH rfl rfl rfl (zT _ _) iiz zU fun a w s=> ?_
 refine zN (CU.agg (fQN q)) ((fQN q).tS) rfl s kH rfl rfl rfl (zT _ _) iiz zU fun a w s=> ?_
 refine zA rfl (hQ _ _ ?_)
 refine sX ?_
 replace s:=s.drop [5]
 refine yC [] 19 ((10, .X (fQN p) 0)::(11, .Z (fNV ((p).num)))::(12, .X (fQN q) 0)::(13, .X (fQN q) 0)::(14, .Z (uB (decide ((q).num<0))))::(15, .X (fQN q) 2)::(16, .Z (yQ ((q).den)))::(17, .Z (fUV m (if decide ((q).num<0) then -((q).den:Int) else ((q).den:Int))))::(18, .s (zFU (m+m) [(p).num,(if decide ((q).num<0) then -((q).den:Int) else ((q).den:Int))]))::(19, .Z (fNV ((p).num*(if decide ((q).num<0) then -((q).den:Int) else ((q).den:Int)))))::(20, .X (fQN p) 2)::(21, .Z (yQ ((p).den)))::(22, .X (fQN q) 0)::(23, .X (fQN q) 1)::(24, .Z (yQ ((q).num.natAbs)))::(25, .Z (yQ ((p).den*(q).num.natAbs)))::(26, .Z (yU (fQN (p / q)) (uI (if q=0 then 30 else 0))))::(27, .u (fQN (p / q)))::(28, .u (uI (if q=0 then 30 else 0))):: []) hmix s kH
  (oc (zK (C:=cg (fQN p)) 0 kH)<|oc (yB (C:=cg (fQN p)) (k:=0) 2 kH (h:=zBj))<|oc (zK (C:=cg (fQN q)) 0 kH)<|oc (yE (C:=cg (fQN q)) 0 0 kH)<|oc (yL (C:=cg (fQN q)) (k:=0) kH (h:=zJv))<|oc (zK (C:=cg (fQN q)) 2 kH)<|oc (yL (C:=cg (fQN q)) (k:=2) kH (h:=zAw))<|oc (yS (fun u v W (hu:u= .bool (decide ((q).num<0))) (hv:y7 W v ((q).den))=>zFD hu hv hq.2))<|oc (yK (fun u v W (hu:NV W u ((p).num)) (hv:UV W m v (if decide ((q).num<0) then -((q).den:Int) else ((q).den:Int)))=>jV (NV.uv' hu (Bd.mono (hp).1 (m':=(m+m)) (by first|omega|decide))) (UV.mono hv (m':=(m+m)) (by first|omega|decide))))<|oc (zH zE zFm (fun u0 W hb (h0:ISV W (m+m) u0 [(p).num,(if decide ((q).num<0) then -((q).den:Int) else ((q).den:Int))])=>zBA h0 (by show (m+m)*2+(m+m)+1<=40000;omega) (by simp) (by simp)))<|oc (zK (C:=cg (fQN p)) 2 kH)<|oc (yL (C:=cg (fQN p)) (k:=2) kH (h:=zAw))<|oc (zK (C:=cg (fQN q)) 0 kH)<|oc (yE (C:=cg (fQN q)) 0 1 kH)<|oc (yL (C:=cg (fQN q)) (k:=1) kH (h:=zJw))<|oc (zJ zE zRK (fun u0 u1 W hb (h0:y7 W u0 ((p).den)) (h1:y7 W u1 ((q).num.natAbs))=>zLz (y7.lv (m:=m) h0 hp.2) (y7.lv (m:=m) h1 hq.1) oO))<|oc (zJ zE zIM (fun u0 u1 W hb (h0:NV W u0 ((p).num*(if decide ((q).num<0) then -((q).den:Int) else ((q).den:Int)))) (h1:y7 W u1 ((p).den*(q).num.natAbs))=>hnew W u0 u1 h0 h1))<|oc (yY (A:=(fQN (p / q)).tS) (B:=(uI (if q=0 then 30 else 0)).tS) iiz)<|oc (yX (A:=(fQN (p / q)).tS) (B:=(uI (if q=0 then 30 else 0)).tS) iiz)<|zD) fun Q' hQ a w3 s=> ?_
 refine zN (CU.agg (fQN (p / q))) ((fQN (p / q)).tS) rfl s kH rfl rfl rfl iiz iiz zU fun a w s=> ?_
 refine zS (uI (if q=0 then 30 else 0)) rfl s kH iiz fun a w s=> ?_
 refine zA rfl (hQ _ _ ?_)
 refine sY ?_
 exact wK s (CU.agg (fQN (p / q))) rfl kH rfl rfl (z5 _) (fun cs v W h1 h2=>⟨_,_,rfl,h1,h2⟩)
theorem zFB {r b:Int} (h:jO r b) (hb:0<b):0<=r/\r<b:=by
 unfold jO at h
 omega
theorem zOm {W:Wg} {m:Nat} {v v':Wh} {k k':Int} (h:UV W m v k) (h':UV W m v' k') (hm:m<=2000) (h0:0<k'):Calls prog 142 #[v,v'] W (Ret W (zBu (fNV (k / k')) (fNV (k % k')) (fI 0)).tS):=by
 refine (zQZ h h' hm oO).mono ?_
 rintro e w' ⟨q,r,v1,v2,rfl,h1,h2,h3,h4,hb⟩
 have h5:=zFB h2 h0
 have hq:q=k / k':=by
  rw [h1,Int.mul_comm,Int.add_comm,Int.add_mul_ediv_left _ _ oO,Int.ediv_eq_zero_of_lt h5.1 h5.2,Int.zero_add]
 have hr:r=k % k':=by
  rw [h1,Int.mul_comm,Int.add_comm,Int.add_mul_emod_self_left,Int.emod_eq_of_lt h5.1 h5.2]
 subst hq
 subst hr
 exact ⟨_,rfl,⟨v1,v2,_,rfl,h3,h4,rfl⟩,hb⟩
end Go.Proofs.Wd

namespace Go.Proofs.Wd
open Tryz
set_option maxRecDepth 100000
open Go.RowKit Lb
theorem zMu {W:Wg} {b o:Nat} {cs ds:List Wh} (k:Nat) (h:Mem W b o cs) (hd: ∀j u,ds[j]?=some u->cs[k+j]?=some u):Mem W b (o+k) ds:=fun j u hj=>by
 have:=h (k+j) u (hd j u hj)
 rwa [<-Nat.add_assoc] at this
abbrev rvs (m:Nat) (qs:List Rat):List CU:=qs.map fun q=>CU.agg (fRV m q)
theorem zLp {m:Nat} {qs:List Rat} {k:Nat} (h:k<qs.length):(rvs m qs)[k]?=some (CU.agg (fRV m (qAt qs k))):=by
 rw [tM,tD h]
 simp [qAt,h]
theorem qU {qs:List Rat} {k:Nat} (h:k<qs.length):qAt qs k∈qs:=by
 simp [qAt,h]
theorem zJi {m:Nat} {q:Rat} {v:Wh} {W:Wg} (h:RVp m q v W): ∃s A n c D i j,v= .agg #[.bool s, .slice A n c, .slice D i j]:=by
 obtain ⟨k,d,h1,_⟩:=h
 exact zCv h1
theorem zC3 {u v:Wh} {W:Wg} {m:Nat} {p q:Rat} (hu:RVp m p u W) (hv:RVp m q v W): ∃e cs,yA prog 28 2 [(0,u),(1,v)]=some (e,cs)/\(SF.row 3 (rvs m [p,q])).p (.slice (some ⟨W.heap.size,0,none⟩) 2 2) (W.alloc (.cells cs e)):=by
 obtain ⟨s,A,n,c,D,i,j,rfl⟩:=zJi hu
 obtain ⟨s',A',n',c',D',i',j',rfl⟩:=zJi hv
 refine ⟨_,_,zPv s s' A A' D D' n n' c c' i i' j j',some ⟨W.heap.size,0,none⟩,2,rfl,tG _,by decide,fun e=>(by cases e),fun x C hx=> ?_⟩
 have hb:=zCd W (.cells #[.bool s, .slice A n c, .slice D i j, .bool s', .slice A' n' c', .slice D' i' j'] 27)
 have hm:=zB6 W #[.bool s, .slice A n c, .slice D i j, .bool s', .slice A' n' c', .slice D' i' j'] 27
 rcases (by have:=(tL.1 hx).1;simp at this;omega:x=0∨x=1) with rfl|rfl
 ·obtain rfl:CU.agg (fRV m p)=C:=by simpa using hx
  exact ⟨W.heap.size,0, [.bool s, .slice A n c, .slice D i j],rfl,zMu 0 hm (fun j u hj=>by match j with|0=>exact hj|1=>exact hj|2=>exact hj|j+3=>simp at hj),(fRV m p).tS.st _ _ _ hu hb⟩
 ·obtain rfl:CU.agg (fRV m q)=C:=by simpa using hx
  exact ⟨W.heap.size,0, [.bool s', .slice A' n' c', .slice D' i' j'],rfl,zMu 3 hm (fun j u hj=>by match j with|0=>exact hj|1=>exact hj|2=>exact hj|j+3=>simp at hj),(fRV m q).tS.st _ _ _ hv hb⟩
theorem zQX {W:Wg} {m:Nat} {v:Wh} {qs:List Rat} (M:Nat) (h:(SF.row 3 (rvs m qs)).p v W) (_hm0:0<m) (hmM:m<=M) (hM:M<=990) (hl:qs.length<=1000000) (hq: ∀q,q∈qs->QB q m) (hp: ∀k,k<qs.length->QB (zDm qs k) M):Calls prog 71 #[v] W (Ret W (fQN (zDm qs qs.length)).tS):=by
 refine z9 [SF.row 3 (rvs m qs)] func71 rfl kH ⟨h,trivial⟩ fun a s=> ?_
 refine sX ?_
 refine zC 0 [] hmix s kH
  zD fun a w1 s=> ?_
 refine z4 (CU.len 3) (cs:=zR3) kH rfl s kH (fun W=>rfl) rfl fun b2 a w s=> ?_
 refine zA rfl ?_
 refine sX ?_
 refine zC 1 ((5, .u (fQN ((0:Int):Rat))):: []) hmix s kH
  (oc (zH zE zDT (fun u0 W hb (h0:u0= .int .i64 0)=>zBI 0 h0 dA))<|zD) fun a w2 s=> ?_
 refine z4 (CU.len 3) (cs:=zR3) kH rfl s kH (fun W=>rfl) rfl fun b3 a w s=> ?_
 refine zN (CU.agg (fQN ((0:Int):Rat))) ((fQN ((0:Int):Rat)).tS) rfl s kH rfl rfl rfl iiz iiz zU fun a w s=> ?_
 refine zA rfl ?_
 refine sX ?_
 refine sX ?_
 refine zC 1 ((4, .u (uI 0)):: []) hmix s kH
  (oc zF<|zD) fun a w3 s=> ?_
 refine zA rfl ?_
 refine tC ?_
 refine zGW 3 (fun p=>CU.agg (fQN (zDm qs p))) (fun p=>p<=qs.length) (fun p=> [(0, .o (SF.row 3 (rvs m qs))),(4, .u (fI ((p:Nat):Int)))]) (fun p=>qs.length - p) (0:Nat) (tH _) (s.keepK _ (fmz ⟨mz2,fmz ⟨.head _,fnz⟩⟩)) rfl fun p a w hx s=> ?_
 refine sX ?_
 refine sX ?_
 refine zC 4 ((6, .Z (fI (p:Int)))::(7, .s (SF.row 3 (rvs m qs)))::(8, .Z (uI ((rvs m qs).length:Int)))::(9, .u (uB (decide ((p:Int)<((rvs m qs).length:Int))))):: []) hmix s kH
  (oc zB<|oc zB<|oc (zDc (z:=3) (Cs:=rvs m qs) kH iiz (fun _=>rfl))<|oc (zO .i64 (p:Int) ((rvs m qs).length:Int) (decide ((p:Int)<((rvs m qs).length:Int))) iiz iiz rfl rfl)<|zD) fun a w4 s=> ?_
 refine zA rfl ?_
 refine StS.cond s (decide ((p:Int)<((rvs m qs).length:Int))) iiz (fun e=> ?_) (fun e=> ?_)
 ·have hk1:p+1<=qs.length:=by have:=tJ e;rw [tR] at this;omega
  have hx2:=zLp (m:=m) (k:=p) hk1
  have hqp:=hq _ (qU (k:=p) hk1)
  refine tA ?_
  refine sX ?_
  refine tC ?_
  refine yC [1,2] 7 ((12, .Z (fQN (zDm qs p)))::(13, .s (SF.row 3 (rvs m qs)))::(14, .Z (fI (p:Int)))::(15, .Y (fRV m (qAt qs p)))::(16, .Z (fRV m (qAt qs p)))::(17, .Z (fQN (qAt qs p)))::(18, .u (fQN (zDm qs p+qAt qs p))):: []) hmix s kH
   (oc (zI (f:=fQN (zDm qs p)) 3 kH (hz:=z5 _))<|oc zB<|oc zB<|oc (zA0 (z:=3) (Cs:=rvs m qs) (i:=p) (C:=CU.agg (fRV m (qAt qs p))) kH hx2 iiz iiz)<|oc (zI (f:=fRV m (qAt qs p)) 3 kH (hz:=zT _ _))<|oc (zH zE zCa (fun u0 W hb (h0:RVp m (qAt qs p) u0 W)=>jA h0 oO))<|oc (zJ zE zTs (fun u0 u1 W hb (h0:QNp (zDm qs p) u0 W) (h1:QNp (qAt qs p) u1 W)=>zQT h0 h1 (hp p hk1) (hqp.mono oO) oO))<|zD) fun Q' hQ a w5 s=> ?_
  refine zN (CU.agg (fQN (zDm qs p+qAt qs p))) ((fQN (zDm qs p+qAt qs p)).tS) rfl s kH rfl rfl rfl (z5 _) iiz zU fun a w s=> ?_
  refine zA rfl (hQ _ _ ?_)
  refine zR 2 ((10, .Z (fI (p:Int)))::(11, .u (fI ((p+1:Nat):Int))):: []) s kH
   (oc zB<|oc (yM .i64 (p:Int) 1 ((p+1:Nat):Int) iiz iiz (wrap64 _ _ oO oO))<|zD) fun a w6 s=> ?_
  replace s:=s.drop [4]
  refine zS (fI ((p+1:Nat):Int)) rfl s kH iiz fun a w s=> ?_
  refine zA rfl ?_
  exact ⟨p+1,hk1,(by show qs.length - (p+1)<qs.length - p;omega),s.keepK _ (fmz ⟨mz4,fmz ⟨.head _,fnz⟩⟩)⟩
 ·have hk1:p=qs.length:=by have:=tI e;rw [tR] at this;omega
  refine tV ?_
  refine sX ?_
  refine zC 1 ((19, .u (fQN (zDm qs p))):: []) hmix s kH
   (oc (zI (f:=fQN (zDm qs p)) 3 kH (hz:=z5 _))<|zD) fun a w7 s=> ?_
  refine zN (CU.agg (fQN (zDm qs p))) ((fQN (zDm qs p)).tS) rfl s kH rfl rfl rfl iiz iiz zU fun a w s=> ?_
  refine zA rfl ?_
  refine sY ?_
  exact wI s (CU.agg (fQN (zDm qs p))) rfl kH rfl rfl (z5 _) (fun cs W h=>by rw [hk1] at h;exact h)
theorem zQW {W:Wg} {m:Nat} {v:Wh} {qs:List Rat} (M:Nat) (h:(SF.row 3 (rvs m qs)).p v W) (_hm0:0<m) (hmM:m<=M) (hM:M<=990) (hl:qs.length<=1000000) (hq: ∀q,q∈qs->QB q m) (hp: ∀k,k<qs.length->QB (q9 qs k) M):Calls prog 108 #[v] W (Ret W (fQN (q9 qs qs.length)).tS):=by
 refine z9 [SF.row 3 (rvs m qs)] func108 rfl kH ⟨h,trivial⟩ fun a s=> ?_
 refine sX ?_
 refine zC 0 [] hmix s kH
  zD fun a w1 s=> ?_
 refine z4 (CU.len 3) (cs:=zR3) kH rfl s kH (fun W=>rfl) rfl fun b2 a w s=> ?_
 refine zA rfl ?_
 refine sX ?_
 refine zC 1 ((6, .u (fQN ((1:Int):Rat))):: []) hmix s kH
  (oc (zH zE zDT (fun u0 W hb (h0:u0= .int .i64 1)=>zBI 1 h0 dA))<|zD) fun a w2 s=> ?_
 refine z4 (CU.len 3) (cs:=zR3) kH rfl s kH (fun W=>rfl) rfl fun b3 a w s=> ?_
 refine zN (CU.agg (fQN ((1:Int):Rat))) ((fQN ((1:Int):Rat)).tS) rfl s kH rfl rfl rfl iiz iiz zU fun a w s=> ?_
 refine zA rfl ?_
 refine sX ?_
 refine sX ?_
 refine zC 1 ((4, .u (uI 0)):: []) hmix s kH
  (oc zF<|zD) fun a w3 s=> ?_
 refine zA rfl ?_
 refine tC ?_
 refine zGW 3 (fun p=>CU.agg (fQN (q9 qs p))) (fun p=>p<=qs.length) (fun p=> [(0, .o (SF.row 3 (rvs m qs))),(4, .u (fI ((p:Nat):Int)))]) (fun p=>qs.length - p) (0:Nat) (tH _) (s.keepK _ (fmz ⟨mz2,fmz ⟨.head _,fnz⟩⟩)) rfl fun p a w hx s=> ?_
 refine sX ?_
 refine sX ?_
 refine zC 4 ((7, .Z (fI (p:Int)))::(8, .s (SF.row 3 (rvs m qs)))::(9, .Z (uI ((rvs m qs).length:Int)))::(10, .u (uB (decide ((p:Int)<((rvs m qs).length:Int))))):: []) hmix s kH
  (oc zB<|oc zB<|oc (zDc (z:=3) (Cs:=rvs m qs) kH iiz (fun _=>rfl))<|oc (zO .i64 (p:Int) ((rvs m qs).length:Int) (decide ((p:Int)<((rvs m qs).length:Int))) iiz iiz rfl rfl)<|zD) fun a w4 s=> ?_
 refine zA rfl ?_
 refine StS.cond s (decide ((p:Int)<((rvs m qs).length:Int))) iiz (fun e=> ?_) (fun e=> ?_)
 ·have hk1:p+1<=qs.length:=by have:=tJ e;rw [tR] at this;omega
  have hx2:=zLp (m:=m) (k:=p) hk1
  have hqp:=hq _ (qU (k:=p) hk1)
  have hnew: ∀W u0 u1,NV W u0 ((q9 qs p).num*(qAt qs p).num)->y7 W u1 ((q9 qs p).den*(qAt qs p).den)->Calls prog 29 #[u0,u1] W (Ret W (yU (fQN (q9 qs p*qAt qs p)) (fI 0)).tS):=fun W u0 u1 h0 h1=>by
   have:=zLO (m:=M+m) (h0.uv' (Bd.mul (hp p hk1).1 hqp.1)) (h1.lv (zCS (hp p hk1).2 hqp.2)) oO (Nat.mul_pos (Rat.den_pos _) (Rat.den_pos _))
   rw [<-Rat.mul_def'] at this
   exact this
  refine tA ?_
  refine sX ?_
  refine tC ?_
  refine sX ?_
  refine zC 5 ((13, .s (SF.row 3 (rvs m qs)))::(14, .Z (fI (p:Int)))::(15, .Y (fRV m (qAt qs p)))::(16, .Z (fRV m (qAt qs p)))::(17, .u (fQN (qAt qs p))):: []) hmix s kH
   (oc zB<|oc zB<|oc (zA0 (z:=3) (Cs:=rvs m qs) (i:=p) (C:=CU.agg (fRV m (qAt qs p))) kH hx2 iiz iiz)<|oc (zI (f:=fRV m (qAt qs p)) 3 kH (hz:=zT _ _))<|oc (zH zE zCa (fun u0 W hb (h0:RVp m (qAt qs p) u0 W)=>jA h0 oO))<|zD) fun a w5 s=> ?_
  refine z4 (CU.len 3) (cs:=zR3) kH rfl s kH (fun W=>rfl) rfl fun b5 a w s=> ?_
  refine zN (CU.agg (fQN (qAt qs p))) ((fQN (qAt qs p)).tS) rfl s kH rfl rfl rfl iiz iiz zU fun a w s=> ?_
  refine zA rfl ?_
  refine qL [14] [] 15 ((19, .X (fQN (q9 qs p)) 0)::(20, .Z (fNV ((q9 qs p).num)))::(21, .X (fQN (qAt qs p)) 0)::(22, .Z (fNV ((qAt qs p).num)))::(23, .s (zFU (M+m) [(q9 qs p).num,(qAt qs p).num]))::(24, .Z (fNV ((q9 qs p).num*(qAt qs p).num)))::(25, .X (fQN (q9 qs p)) 2)::(26, .Z (yQ ((q9 qs p).den)))::(27, .X (fQN (qAt qs p)) 2)::(28, .Z (yQ ((qAt qs p).den)))::(29, .Z (yQ ((q9 qs p).den*(qAt qs p).den)))::(30, .Z (yU (fQN (q9 qs p*qAt qs p)) (uI 0)))::(18, .Z (yU (fQN (q9 qs p*qAt qs p)) (uI 0)))::(31, .u (fQN (q9 qs p*qAt qs p)))::(32, .Z (uI 0)):: []) hmix s fnz kH
   (oc (zK (C:=cg (fQN (q9 qs p))) 0 kH)<|oc (yB (C:=cg (fQN (q9 qs p))) (k:=0) 2 kH (h:=zBj))<|oc (zK (C:=cg (fQN (qAt qs p))) 0 kH)<|oc (yB (C:=cg (fQN (qAt qs p))) (k:=0) 2 kH (h:=zBj))<|oc (yK (fun u v W (hu:NV W u ((q9 qs p).num)) (hv:NV W v ((qAt qs p).num))=>jV (NV.uv' hu (Bd.mono (hp p hk1).1 (m':=(M+m)) (by first|omega|decide))) (NV.uv' hv (Bd.mono (hqp).1 (m':=(M+m)) (by first|omega|decide)))))<|oc (zH zE zFm (fun u0 W hb (h0:ISV W (M+m) u0 [(q9 qs p).num,(qAt qs p).num])=>zBA h0 (by show (M+m)*2+(M+m)+1<=40000;omega) (by simp) (by simp)))<|oc (zK (C:=cg (fQN (q9 qs p))) 2 kH)<|oc (yL (C:=cg (fQN (q9 qs p))) (k:=2) kH (h:=zAw))<|oc (zK (C:=cg (fQN (qAt qs p))) 2 kH)<|oc (yL (C:=cg (fQN (qAt qs p))) (k:=2) kH (h:=zAw))<|oc (zJ zE zRK (fun u0 u1 W hb (h0:y7 W u0 ((q9 qs p).den)) (h1:y7 W u1 ((qAt qs p).den))=>zLz (y7.lv (m:=M+m) h0 (tB (hp p hk1).2 (tE y4 oO))) (y7.lv (m:=M+m) h1 (tB hqp.2 (tE y4 oO))) oO))<|oc (zJ zE zIM (fun u0 u1 W hb (h0:NV W u0 ((q9 qs p).num*(qAt qs p).num)) (h1:y7 W u1 ((q9 qs p).den*(qAt qs p).den))=>hnew W u0 u1 h0 h1))<|oc zB<|oc (yY (A:=(fQN (q9 qs p*qAt qs p)).tS) (B:=(uI 0).tS) iiz)<|oc (yX (A:=(fQN (q9 qs p*qAt qs p)).tS) (B:=(uI 0).tS) iiz)<|zD) fun Q' hQ a w6 s hr hd=> ?_
  refine zN (CU.agg (fQN (q9 qs p*qAt qs p))) ((fQN (q9 qs p*qAt qs p)).tS) rfl s kH rfl rfl rfl (z5 _) iiz zU fun a w s=> ?_
  refine zA rfl (hQ _ _ ?_)
  refine zR 2 ((11, .Z (fI (p:Int)))::(12, .u (fI ((p+1:Nat):Int))):: []) s kH
   (oc zB<|oc (yM .i64 (p:Int) 1 ((p+1:Nat):Int) iiz iiz (wrap64 _ _ oO oO))<|zD) fun a w7 s=> ?_
  replace s:=s.drop [4]
  refine zS (fI ((p+1:Nat):Int)) rfl s kH iiz fun a w s=> ?_
  refine zA rfl ?_
  replace s:=s.popB
  exact ⟨p+1,hk1,(by show qs.length - (p+1)<qs.length - p;omega),s.keepK _ (fmz ⟨mz5,fmz ⟨.head _,fnz⟩⟩)⟩
 ·have hk1:p=qs.length:=by have:=tI e;rw [tR] at this;omega
  refine tV ?_
  refine sX ?_
  refine zC 1 ((33, .u (fQN (q9 qs p))):: []) hmix s kH
   (oc (zI (f:=fQN (q9 qs p)) 3 kH (hz:=z5 _))<|zD) fun a w8 s=> ?_
  refine zN (CU.agg (fQN (q9 qs p))) ((fQN (q9 qs p)).tS) rfl s kH rfl rfl rfl iiz iiz zU fun a w s=> ?_
  refine zA rfl ?_
  refine sY ?_
  exact wI s (CU.agg (fQN (q9 qs p))) rfl kH rfl rfl (z5 _) (fun cs W h=>by rw [hk1] at h;exact h)
theorem zDy {W:Wg} {m:Nat} {v:Wh} {p q:Rat} (h:(SF.row 3 (rvs m [p,q])).p v W) (hp:QB p m) (hq:QB q m) (hm:m<=990):Calls prog 71 #[v] W (Ret W (fQN (p+q)).tS):=by
 have:=zQX m h hp.pos lr hm (by simp) (fun x hx=>by simp at hx;rcases hx with rfl|rfl;exact hp;exact hq) (fun k hk=>by
  rcases (by simp at hk;omega:k=0∨k=1) with rfl|rfl
  ·exact QB.zero hp.pos
  ·show QB (0+p) _
   rw [Rat.zero_add]
   exact hp)
 rw [show ([p,q]:List Rat).length=2 from rfl,zQ8] at this
 exact this
theorem zOh {W:Wg} {m:Nat} {v:Wh} {p q:Rat} (h:(SF.row 3 (rvs m [p,q])).p v W) (hp:QB p m) (hq:QB q m) (hm:m<=990):Calls prog 108 #[v] W (Ret W (fQN (p*q)).tS):=by
 have hm0:=hp.pos
 have:=zQW m h hm0 lr hm (by simp) (fun x hx=>by simp at hx;rcases hx with rfl|rfl;exact hp;exact hq) (fun k hk=>by
  rcases (by simp at hk;omega:k=0∨k=1) with rfl|rfl
  ·exact QB.one hp.pos
  ·show QB (1*p) _
   rw [zGy]
   exact hp)
 rw [show ([p,q]:List Rat).length=2 from rfl,zL4] at this
 exact this
theorem zCP {m:Nat} {q:Rat} (v:Wh) (W:Wg) (h:(fRV m q).p v W): ∃vs:List Wh,v= .agg vs.toArray/\vs.length=3/\(∀u,u∈vs->u.oneCell'=true)/\vs.all yR=true/\(CU.agg (fRV m q)).p vs W:=by
 obtain ⟨k,d,h1,h2⟩:=h
 obtain ⟨vs,e,hl,h3,h4,h5⟩:=zOo v W h1
 exact ⟨vs,e,hl,h3,h4,k,d,h5,h2⟩
theorem zEa {F:Fence} {m:Nat} {P:Wl} {w0:Wg} {ops:Array Oper} {G:Nat->SF} {d:Tmp} {ty:Wi} {pos:String} {aft:Array Edge} {t:Wi} {x y:Wk} {t':Wi} (k:IntKind) (u v r:Int) (hx: ∀q W,(fct G x).p q W->q= .int k u) (hy: ∀q W,(fct G y).p q W->q= .int k v) (hr:k.wrap (u - v)=r) (hd: ∀W,(G d).p (.int k r) W:=by exact fun _=>rfl):qX F m P w0 ops G ⟨some d, .binOp .sub t x y t',ty,pos,aft,none⟩:=
 zAC (.int k u) (.int k v) (.int k r) hx hy (fun W=>by simp [eqGuard]) (fun W=>by simp [binOp,Op.intArith,hr]) hd
theorem zE5 {W:Wg} {m:Nat} {u v:Wh} {p q:Rat} (h:RVp m p u W) (h':RVp m q v W) (hm:m<=990) (hm0:0<m):Calls prog 70 #[u,v] W (Ret W (fQN (p - q)).tS):=by
 have hp:QB p m:=h.qb hm0
 have hq:QB q m:=h'.qb hm0
 refine z9 [(fRV m p).tS,(fRV m q).tS] func70 rfl kH ⟨h,h',trivial⟩ fun a s=> ?_
 refine sX ?_
 refine zC 0 [] hmix s kH
  zD fun a w1 s=> ?_
 refine yD (CU.agg (fRV m p)) rfl s kH (fun v W h=>y6 h) fun b2 a w s=> ?_
 refine yD (CU.agg (fRV m q)) rfl s kH (fun v W h=>y6 h) fun b3 a w s=> ?_
 refine z4 (CU.len 3) (cs:=zR3) kH rfl s kH (fun W=>rfl) rfl fun b4 a w s=> ?_
 refine zA rfl ?_
 refine sX ?_
 refine yC [] 5 ((5, .Z (fRV m p))::(6, .Z (fRV m q))::(7, .Z (fQN (-q)))::(8, .s (SF.row 3 (rvs m [p,(-q)])))::(9, .u (fQN (p+ -q))):: []) hmix s kH
  (oc (zI (f:=fRV m p) 3 kH (hz:=zT _ _))<|oc (zI (f:=fRV m q) 3 kH (hz:=zT _ _))<|oc (zH zE zP0 (fun u0 W hb (h0:RVp m q u0 W)=>zLP h0 oO hm0))<|oc (yK (fun u v W (hu:RVp m p u W) (hv:QNp (-q) v W)=>zC3 hu (wD hv hq.neg)))<|oc (zH zE zMZ (fun u0 W hb (h0:(SF.row 3 (rvs m [p,(-q)])).p u0 W)=>zDy h0 hp hq.neg oO))<|zD) fun Q' hQ a w2 s=> ?_
 refine zN (CU.agg (fQN (p+ -q))) ((fQN (p+ -q)).tS) rfl s kH rfl rfl rfl iiz iiz zU fun a w s=> ?_
 refine zA rfl (hQ _ _ ?_)
 refine sY ?_
 exact wI s (CU.agg (fQN (p+ -q))) rfl kH rfl rfl (z5 _) (fun cs W h=>by rw [Rat.sub_eq_add_neg];exact h)
theorem zBR {sh M:Nat} (h:sh<=32*M):2^sh<=BB^M:=by
 rw [zEp]
 exact tE dA h
theorem zLq {W:Wg} {m:Nat} {u v:Wh} {x sh:Nat} (h:LV W m u x) (hv:v= .int .i64 (sh:Int)) (hm:m<=100000) (hs:sh<=65536):Calls prog 89 #[u,v] W (Ret W (yQ (x*2^sh)).tS):=by
 subst hv
 obtain ⟨A,n,c,l,rfl,h1,h2,h3,rfl⟩:=h
 have hd:32*(sh / 32)+sh % 32=sh:=by omega
 have:=zIh A n c l (sh / 32) (sh % 32) W h1 h2 oO oO oO
 rw [hd] at this
 exact this.mono fun _ _ h=>jH.v h
theorem zF5 {x sh m M:Nat} (h:x<BB^m) (hs:sh<=32*M):x*2^sh<BB^(m+M):=by
 rw [zVN]
 exact Nat.mul_lt_mul_of_lt_of_le h (zBR hs) (Nat.pow_pos y4)
theorem zJb (q:Rat) (sh:Nat):(if decide (q.num<0) then -((q.num.natAbs*2^sh:Nat):Int) else ((q.num.natAbs*2^sh:Nat):Int))=q.num*((2^sh:Nat):Int):=by
 by_cases h:q.num<0
 ·rw [tO h,if_pos rfl,Int.natCast_mul, <-Int.neg_mul]
  congr 1
  omega
 ·rw [tP h,if_neg dA,Int.natCast_mul]
  congr 1
  omega
theorem zPO {q:Rat} {m sh M:Nat} (h:QB q m) (hs:sh<=32*M):Bd (fl (q*jP sh)) (m+M):=by
 have h1:=h.1
 have h2:(fl (q*jP sh)).natAbs<=(q.num*((2^sh:Nat):Int)).natAbs:=by
  rw [zPN]
  have hd:(0:Int)<q.den:=by have:=q.den_pos;omega
  generalize q.num*((2^sh:Nat):Int)=z
  rcases Int.lt_or_le z 0 with hn|hn
  ·have h2:z<=z / (q.den:Int):=by
    rw [Int.le_ediv_iff_mul_le hd]
    have:z*(q.den:Int)<=z*1:=Int.mul_le_mul_of_nonpos_left oO oO
    omega
   have h3:z / (q.den:Int)<0:=Int.ediv_neg_of_neg_of_pos hn hd
   omega
  ·have h2:=Int.ediv_le_self (q.den:Int) hn
   have h3:=Int.ediv_nonneg hn (Int.le_of_lt hd)
   omega
 have h3:(q.num*((2^sh:Nat):Int)).natAbs<BB^(m+M):=by
  rw [Int.natAbs_mul,Int.natAbs_natCast]
  exact zF5 h1 hs
 exact sZ h2 h3
theorem zKO {q:Rat} {m sh M:Nat} (h:QB q m) (hs:sh<=32*M):Bd (fl (q*jP sh)+1) (m+M+1):=by
 exact (zPO h hs).add (tB (show (1:Int).natAbs<BB^1 by decide) (tE y4 (by have:=h.pos;omega)))
theorem zE6 {W:Wg} {m M:Nat} {u v:Wh} {q:Rat} {sh:Nat} (h:QNp q u W) (hv:v= .int .i64 (sh:Int)) (hq:QB q m) (hs:sh<=32*M) (hM:m+M<=900):Calls prog 130 #[u,v] W (Ret W (fNV ((fl (q*jP sh))+1)).tS):=by
 have hq0:=hq.pos
 obtain ⟨rest,hrest⟩: ∃rest,(q.num*((2^sh:Nat):Int)) % (q.den:Int)=rest:=⟨_,rfl⟩
 have hb1:Bd (1:Int) (m+M+1):=tB (show (1:Int).natAbs<BB^1 by decide) (tE y4 oO)
 have hbf:Bd (fl (q*jP sh)) (m+M+1):=by have h1:=zPO hq hs;exact h1.mono oO
 have hdiv: ∀W u0 u1,UV W (m+M) u0 (q.num*((2^sh:Nat):Int))->NV W u1 (q.den:Int)->Calls prog 142 #[u0,u1] W (Ret W (zBu (fNV (fl (q*jP sh))) (fNV rest) (fI 0)).tS):=fun W u0 u1 h0 h1=>by
  have:=zOm h0 (NV.uv' h1 ((jR hq.2).mono oO)) oO (by have:=q.den_pos;omega)
  rw [<-zPN,hrest] at this
  exact this
 refine z9 [(fQN q).tS,(fI (sh:Int)).tS] func130 rfl kH ⟨h,hv,trivial⟩ fun a s=> ?_
 refine sX ?_
 refine zC 0 [] hmix s kH
  zD fun a w1 s=> ?_
 refine yD (CU.agg (fQN q)) rfl s kH (fun v W h=>zHp h) fun b2 a w s=> ?_
 refine z4 (CU.len 2) (cs:= [.bool false, .slice none 0 0]) kH rfl s kH (fun W=>rfl) rfl fun b4 a w s=> ?_
 refine zA rfl ?_
 refine sX ?_
 have so:=s.old;have sg:=s.gr
 refine qL [15,16] [⟨17,5,25, [.bool false, .slice none 0 0],wH w 25 (CU.len 2)⟩,⟨18,6,25, [.bool false, .slice none 0 0],wH w 25 (CU.len 2)⟩] 19 ((9, .X (fQN q) 0)::(10, .X (fQN q) 0)::(11, .Z (uB (decide ((q).num<0))))::(12, .X (fQN q) 0)::(13, .X (fQN q) 1)::(14, .Z (yQ ((q).num.natAbs)))::(15, .Z (fI (sh:Int)))::(16, .Z (yQ ((q).num.natAbs*2^sh)))::(17, .Z (fUV (m+M) (q.num*((2^sh:Nat):Int))))::(18, .X (fQN q) 2)::(19, .Z (yQ ((q).den)))::(20, .Z (fNV ((q).den:Int)))::(21, .Z (zBu (fNV (fl (q*jP sh))) (fNV rest) (uI 0)))::(8, .Z (zBu (fNV (fl (q*jP sh))) (fNV rest) (uI 0)))::(22, .u (fNV (fl (q*jP sh))))::(23, .u (fNV rest))::(24, .u (uI 0))::(5, .s (wH w 25 (CU.len 2)))::(6, .s (wH w 25 (CU.len 2))):: []) hmix s (fmz ⟨⟨by show 17<19;decide, .tail _ (.tail _ zNw),⟨_,_,_,rfl⟩,by kernel_rfl,jI (fun _=>rfl) rfl⟩,fmz ⟨⟨by show 18<19;decide, .tail _ (.tail _ (.tail _ zNw)),⟨_,_,_,rfl⟩,by kernel_rfl,jI (fun _=>rfl) rfl⟩,fnz⟩⟩) kH
  (oc (zK (C:=cg (fQN q)) 0 kH)<|oc (yE (C:=cg (fQN q)) 0 0 kH)<|oc (yL (C:=cg (fQN q)) (k:=0) kH (h:=zJv))<|oc (zK (C:=cg (fQN q)) 0 kH)<|oc (yE (C:=cg (fQN q)) 0 1 kH)<|oc (yL (C:=cg (fQN q)) (k:=1) kH (h:=zJw))<|oc zB<|oc (zJ zE zMY (fun u0 u1 W hb (h0:y7 W u0 ((q).num.natAbs)) (h1:u1= .int .i64 (sh:Int))=>zLq (y7.lv (m:=m) h0 hq.1) h1 oO oO))<|oc (yS (fun u v W (hu:u= .bool (decide ((q).num<0))) (hv:y7 W v ((q).num.natAbs*2^sh))=>by have:=zFD hu hv (zF5 hq.1 hs);rw [zJb q sh] at this;exact this))<|oc (zK (C:=cg (fQN q)) 2 kH)<|oc (yL (C:=cg (fQN q)) (k:=2) kH (h:=zAw))<|oc (zH zE zKS (fun u0 W hb (h0:y7 W u0 ((q).den))=>zFO h0))<|oc (zJ zE zTk (fun u0 u1 W hb (h0:UV W (m+M) u0 (q.num*((2^sh:Nat):Int))) (h1:NV W u1 ((q).den:Int))=>hdiv W u0 u1 h0 h1))<|oc zB<|oc (zBr (A:=(fNV (fl (q*jP sh))).tS) (B:=(fNV rest).tS) (C:=(uI 0).tS) iiz)<|oc (zBq (A:=(fNV (fl (q*jP sh))).tS) (B:=(fNV rest).tS) (C:=(uI 0).tS) iiz)<|oc (zBp (A:=(fNV (fl (q*jP sh))).tS) (B:=(fNV rest).tS) (C:=(uI 0).tS) iiz)<|oc (zAL (cs:= [.bool false, .slice none 0 0]) kH (jI (fun _=>rfl) rfl))<|oc (zAL (cs:= [.bool false, .slice none 0 0]) kH (jI (fun _=>rfl) rfl))<|zD) fun Q' hQ a w2 s hr hd=> ?_
 obtain ⟨b5,_,e5,s⟩:=s.adoptA false 5 (hr (_,_) (.tail _ (.tail _ zNw))) sg (fun y hy=> .inl (so y hy))
 obtain ⟨b6,_,e6,s⟩:=s.adoptA false 6 (hr (_,_) (.tail _ (.tail _ (.tail _ zNw)))) sg (fun y hy=>by rcases tW.1 hy with rfl|hy;exact .inr (.inr fun b hb=>hd _ _ (.head _) mz1 (by show 17≠18;decide) _ _ e5 hb);exact .inl (so y hy))
 refine zN (CU.agg (fNV (fl (q*jP sh)))) ((fNV (fl (q*jP sh))).tS) rfl s kH rfl rfl rfl iiz iiz y2 fun a w s=> ?_
 refine zN (CU.agg (fNV rest)) ((fNV rest).tS) rfl s kH rfl rfl rfl iiz iiz y2 fun a w s=> ?_
 refine zS (uI 0) rfl s kH iiz fun a w s=> ?_
 refine zA rfl (hQ _ _ ?_)
 refine sX ?_
 refine yC [] 4 ((25, .Z (fNV (fl (q*jP sh))))::(26, .Z (fNV (1:Int)))::(27, .s (zFU (m+M+1) [(fl (q*jP sh)),(1:Int)]))::(28, .u (fNV ((fl (q*jP sh))+1))):: []) hmix s kH
  (oc (zI (f:=fNV (fl (q*jP sh))) 2 kH (hz:=qQ _))<|oc (zH zE zPb (fun u0 W hb (h0:u0= .int .i64 1)=>zLR 1 h0 dA))<|oc (yK (fun u v W (hu:NV W u (fl (q*jP sh))) (hv:NV W v (1:Int))=>jV (NV.uv' hu hbf) (NV.uv' hv hb1)))<|oc (zH zE zTe (fun u0 W hb (h0:ISV W (m+M+1) u0 [(fl (q*jP sh)),(1:Int)])=>zLV h0 oO (by simp) (by simp)))<|zD) fun Q' hQ a w3 s=> ?_
 refine zN (CU.agg (fNV ((fl (q*jP sh))+1))) ((fNV ((fl (q*jP sh))+1)).tS) rfl s kH rfl rfl rfl iiz iiz y2 fun a w s=> ?_
 refine zA rfl (hQ _ _ ?_)
 refine sY ?_
 exact wI s (CU.agg (fNV ((fl (q*jP sh))+1))) rfl kH rfl rfl (qQ _) (fun cs W h=>h)
theorem zG2 (p q:Rat) (sh:Nat):decide (((((fl (p*jP sh))+1)*((q).den:Int)) - (q.num*((2^sh:Nat):Int))).sign<0)=zFy p q sh:=by
 unfold zFy
 rw [zVQ]
 have h1:=@Int.sign_eq_neg_one_iff_neg ((((fl (p*jP sh))+1)*((q).den:Int)) - (q.num*((2^sh:Nat):Int)))
 have h2:=Int.sign_trichotomy ((((fl (p*jP sh))+1)*((q).den:Int)) - (q.num*((2^sh:Nat):Int)))
 omega
theorem zJr {W:Wg} {m M:Nat} {u v x:Wh} {p q:Rat} {sh:Nat} (h:QNp p u W) (h':QNp q v W) (hv:x= .int .i64 (sh:Int)) (hp:QB p m) (hq:QB q m) (hs:sh<=32*M) (hM:m+M<=900):Calls prog 129 #[u,v,x] W (Ret W (fB (zFy p q sh)).tS):=by
 have hp0:=hp.pos
 refine z9 [(fQN p).tS,(fQN q).tS,(fI (sh:Int)).tS] func129 rfl kH ⟨h,h',hv,trivial⟩ fun a s=> ?_
 refine sX ?_
 refine zC 0 [] hmix s kH
  zD fun a w1 s=> ?_
 refine yD (CU.agg (fQN p)) rfl s kH (fun v W h=>zHp h) fun b3 a w s=> ?_
 refine yD (CU.agg (fQN q)) rfl s kH (fun v W h=>zHp h) fun b4 a w s=> ?_
 refine zS (uB false) rfl s kH iiz fun a w s=> ?_
 refine zA rfl ?_
 refine sX ?_
 refine zC 3 ((8, .Z (fQN p))::(9, .Z (fI (sh:Int)))::(10, .u (fNV ((fl (p*jP sh))+1))):: []) hmix s kH
  (oc (zI (f:=fQN p) 3 kH (hz:=z5 _))<|oc zB<|oc (zJ zE zM3 (fun u0 u1 W hb (h0:QNp p u0 W) (h1:u1= .int .i64 (sh:Int))=>zE6 h0 h1 hp hs oO))<|zD) fun a w2 s=> ?_
 refine z4 (CU.len 2) (cs:= [.bool false, .slice none 0 0]) kH rfl s kH (fun W=>rfl) rfl fun b7 a w s=> ?_
 refine zN (CU.agg (fNV ((fl (p*jP sh))+1))) ((fNV ((fl (p*jP sh))+1)).tS) rfl s kH rfl rfl rfl iiz iiz y2 fun a w s=> ?_
 refine zA rfl ?_
 refine sX ?_
 replace s:=s.drop [6]
 refine zC 18 ((11, .Z (fNV ((fl (p*jP sh))+1)))::(12, .X (fQN q) 2)::(13, .Z (yQ ((q).den)))::(14, .Z (fNV ((q).den:Int)))::(15, .s (zFU (m+M+1) [((fl (p*jP sh))+1),((q).den:Int)]))::(16, .Z (fNV (((fl (p*jP sh))+1)*((q).den:Int))))::(17, .X (fQN q) 0)::(18, .X (fQN q) 0)::(19, .Z (uB (decide ((q).num<0))))::(20, .X (fQN q) 0)::(21, .X (fQN q) 1)::(22, .Z (yQ ((q).num.natAbs)))::(23, .Z (fI (sh:Int)))::(24, .Z (yQ ((q).num.natAbs*2^sh)))::(25, .Z (fUV (m+M) (q.num*((2^sh:Nat):Int))))::(26, .Z (uI (((((fl (p*jP sh))+1)*((q).den:Int)) - (q.num*((2^sh:Nat):Int))).sign)))::(27, .Z (uB (zFy p q sh)))::(6, .u (uB (zFy p q sh))):: []) hmix s kH
  (oc (zI (f:=fNV ((fl (p*jP sh))+1)) 2 kH (hz:=qQ _))<|oc (zK (C:=cg (fQN q)) 2 kH)<|oc (yL (C:=cg (fQN q)) (k:=2) kH (h:=zAw))<|oc (zH zE zKS (fun u0 W hb (h0:y7 W u0 ((q).den))=>zFO h0))<|oc (yK (fun u v W (hu:NV W u ((fl (p*jP sh))+1)) (hv:NV W v ((q).den:Int))=>jV (NV.uv' hu (zKO hp hs)) (NV.uv' hv ((jR hq.2).mono oO))))<|oc (zH zE zFm (fun u0 W hb (h0:ISV W (m+M+1) u0 [((fl (p*jP sh))+1),((q).den:Int)])=>zBA h0 (by show (m+M+1)*2+(m+M+1)+1<=40000;omega) (by simp) (by simp)))<|oc (zK (C:=cg (fQN q)) 0 kH)<|oc (yE (C:=cg (fQN q)) 0 0 kH)<|oc (yL (C:=cg (fQN q)) (k:=0) kH (h:=zJv))<|oc (zK (C:=cg (fQN q)) 0 kH)<|oc (yE (C:=cg (fQN q)) 0 1 kH)<|oc (yL (C:=cg (fQN q)) (k:=1) kH (h:=zJw))<|oc zB<|oc (zJ zE zMY (fun u0 u1 W hb (h0:y7 W u0 ((q).num.natAbs)) (h1:u1= .int .i64 (sh:Int))=>zLq (y7.lv (m:=m) h0 hq.1) h1 oO oO))<|oc (yS (fun u v W (hu:u= .bool (decide ((q).num<0))) (hv:y7 W v ((q).num.natAbs*2^sh))=>by have:=zFD hu hv (zF5 hq.1 hs);rw [zJb q sh] at this;exact this))<|oc (zJ zE zTl (fun u0 u1 W hb (h0:NV W u0 (((fl (p*jP sh))+1)*((q).den:Int))) (h1:UV W (m+M) u1 (q.num*((2^sh:Nat):Int)))=>zEO (zQ4 (NV.uv' h0 (Bd.mul (zKO hp hs) ((jR hq.2).mono oO))) (UV.mono h1 (m':=((m+M+1)+(m+M+1))) (by first|omega|decide)) oO)))<|oc (zO .i64 (((((fl (p*jP sh))+1)*((q).den:Int)) - (q.num*((2^sh:Nat):Int))).sign) 0 (zFy p q sh) iiz iiz (by exact zG2 p q sh) rfl)<|oc zF<|zD) fun a w3 s=> ?_
 refine zA rfl ?_
 refine sY ?_
 exact wJ s (t:=6) rfl iiz
abbrev QX.q (x:QX):Rat:=mkRat x.k x.d
theorem zIp {n n':Nat} {k:Int} {d:Nat} {v:Wh} {W:Wg} (h:(fQX n n' k d).p v W): ∃s A c A' c',v= .agg #[.bool s, .slice A n c, .slice A' n' c']:=by
 obtain ⟨b,s,t,rfl,⟨sg,A,c,l,e1,_⟩,A',c',l',rfl,_⟩:=h
 have:=tQ Array.toList (zAz e1)
 simp at this
 rw [this.1,this.2]
 exact ⟨_,_,_,_,_,rfl⟩
theorem zSo {n n':Nat} {k:Int} {d:Nat} {v:Wh} {W:Wg} (h:(fQX n n' k d).p v W):(CU.agg (fQX n n' k d)).p v.cells.toList W/\v.cells.toList.all yR=true:=by
 obtain ⟨sg,A,c,A',c',rfl⟩:=zIp h
 exact ⟨h,rfl⟩
theorem zVb {n n' m:Nat} {k:Int} {d:Nat} {v:Wh} {W:Wg} (h:QXp n n' k d v W) (h1:n<=m) (h2:n'<=m):RVp m (mkRat k d) v W:=⟨k,d,zT5 h h1 h2,rfl⟩
theorem zRc {F:Fence} {m:Nat} {P:Wl} {w0:Wg} {ops:Array Oper} {G:Nat->SF} {d:Tmp} {ty:Wi} {pos:String} {aft:Array Edge} {t:Wi} {x y:Wk} {t':Wi} (k:IntKind) (u v r:Int) (hx: ∀q W,(fct G x).p q W->q= .int k u) (hy: ∀q W,(fct G y).p q W->q= .int k v) (hr:k.wrap (u*v)=r) (hd: ∀W,(G d).p (.int k r) W:=by exact fun _=>rfl):qX F m P w0 ops G ⟨some d, .binOp .mul t x y t',ty,pos,aft,none⟩:=
 zAC (.int k u) (.int k v) (.int k r) hx hy (fun W=>by simp [eqGuard]) (fun W=>by simp [binOp,Op.intArith,hr]) hd
theorem zQC (s0:Bool) (A0 D0:Wj Addr) (n0 c0 i0 j0:Nat):yA prog 28 1 [(0, .agg #[.bool s0, .slice A0 n0 c0, .slice D0 i0 j0])]=some (27,#[.bool s0, .slice A0 n0 c0, .slice D0 i0 j0]):=by kernel_rfl
end Go.Proofs.Wd

namespace Go.Proofs.Wd
open Tryz
set_option maxRecDepth 100000
set_option maxHeartbeats 1000000
open Go.RowKit Lb
theorem zEn {W:Wg} {u v:Wh} {x y:Int} (hu:u= .int .i64 x) (hv:v= .int .i64 y) (hx: -9223372036854775808<=x/\x<=9223372036854775807) (hy: -9223372036854775808<=y/\y<=9223372036854775807):Calls prog 10 #[u,v] W (Ret W (fPN (((x:Int):Rat),((y:Int):Rat))).tS):=by
 refine z9 [(uI x).tS,(uI y).tS] func10 rfl kH ⟨hu,hv,trivial⟩ fun a s=> ?_
 refine sX ?_
 refine zC 0 [] hmix s kH
  zD fun a w1 s=> ?_
 refine z4 (CU.len 6) (cs:=zP6) kH rfl s kH (fun W=>rfl) rfl fun b4 a w s=> ?_
 refine zA rfl ?_
 refine sX ?_
 refine zC 5 ((5, .Z (uI x))::(6, .Z (fQN ((x:Int):Rat)))::(7, .Z (uI y))::(8, .Z (fQN ((y:Int):Rat)))::(9, .u (fPN (((x:Int):Rat),((y:Int):Rat)))):: []) hmix s kH
  (oc zB<|oc (zH zE zDT (fun u0 W hb (h0:u0= .int .i64 x)=>zBI x h0 hx))<|oc zB<|oc (zH zE zDT (fun u0 W hb (h0:u0= .int .i64 y)=>zBI y h0 hy))<|oc (yS (fun u v W (hu:QNp ((x:Int):Rat) u W) (hv:QNp ((y:Int):Rat) v W)=>zPh (jZ _) (jZ _) hu hv))<|zD) fun a w2 s=> ?_
 refine zN (CU.agg (fPN (((x:Int):Rat),((y:Int):Rat)))) ((fPN (((x:Int):Rat),((y:Int):Rat))).tS) rfl s kH rfl rfl rfl iiz iiz zBo fun a w s=> ?_
 refine zA rfl ?_
 refine sY ?_
 exact wI s (CU.agg (fPN (((x:Int):Rat),((y:Int):Rat)))) rfl kH rfl rfl (jF _ _) (fun cs W h=>h)
theorem zQS {m:Nat} {W:Wg} {u v:Wh} {p q:V2} (h1:(fPV m p).p u W) (h2:(fPV m q).p v W) (hp:QB p.1 m/\QB p.2 m) (hq:QB q.1 m/\QB q.2 m) (hm:m<=990):Calls prog 40 #[u,v] W (Ret W (fPN (p.1+q.1,p.2+q.2)).tS):=by
 refine z9 [(fPV m p).tS,(fPV m q).tS] func40 rfl kH ⟨h1,h2,trivial⟩ fun a s=> ?_
 refine sX ?_
 refine zC 0 [] hmix s kH
  zD fun a w1 s=> ?_
 refine yD (CU.agg (fPV m p)) rfl s kH (fun v W h=>zAB h) fun b2 a w s=> ?_
 refine yD (CU.agg (fPV m q)) rfl s kH (fun v W h=>zAB h) fun b3 a w s=> ?_
 refine z4 (CU.len 6) (cs:=zP6) kH rfl s kH (fun W=>rfl) rfl fun b4 a w s=> ?_
 refine zA rfl ?_
 refine sX ?_
 refine yC [] 13 ((5, .X (fPV m p) 0)::(6, .Z (fRV m ((p).1)))::(7, .X (fPV m q) 0)::(8, .Z (fRV m ((q).1)))::(9, .s (SF.row 3 (rvs m [(p).1,(q).1])))::(10, .Z (fQN ((p).1+(q).1)))::(11, .X (fPV m p) 3)::(12, .Z (fRV m ((p).2)))::(13, .X (fPV m q) 3)::(14, .Z (fRV m ((q).2)))::(15, .s (SF.row 3 (rvs m [(p).2,(q).2])))::(16, .Z (fQN ((p).2+(q).2)))::(17, .u (fPN (p.1+q.1,p.2+q.2))):: []) hmix s kH
  (oc (zK (C:=cg (fPV m p)) 0 kH)<|oc (yB (C:=cg (fPV m p)) (k:=0) 3 kH (h:=zFM))<|oc (zK (C:=cg (fPV m q)) 0 kH)<|oc (yB (C:=cg (fPV m q)) (k:=0) 3 kH (h:=zFM))<|oc (yK (fun u v W (hu:RVp m ((p).1) u W) (hv:RVp m ((q).1) v W)=>zC3 hu hv))<|oc (zH zE zMZ (fun u0 W hb (h0:(SF.row 3 (rvs m [(p).1,(q).1])).p u0 W)=>zDy h0 hp.1 hq.1 hm))<|oc (zK (C:=cg (fPV m p)) 3 kH)<|oc (yB (C:=cg (fPV m p)) (k:=3) 3 kH (h:=zH6))<|oc (zK (C:=cg (fPV m q)) 3 kH)<|oc (yB (C:=cg (fPV m q)) (k:=3) 3 kH (h:=zH6))<|oc (yK (fun u v W (hu:RVp m ((p).2) u W) (hv:RVp m ((q).2) v W)=>zC3 hu hv))<|oc (zH zE zMZ (fun u0 W hb (h0:(SF.row 3 (rvs m [(p).2,(q).2])).p u0 W)=>zDy h0 hp.2 hq.2 hm))<|oc (yS (fun u v W (hu:QNp ((p).1+(q).1) u W) (hv:QNp ((p).2+(q).2) v W)=>zPh (jZ _) (jZ _) hu hv))<|zD) fun Q' hQ a w2 s=> ?_
 refine zN (CU.agg (fPN (p.1+q.1,p.2+q.2))) ((fPN (p.1+q.1,p.2+q.2)).tS) rfl s kH rfl rfl rfl iiz iiz zBo fun a w s=> ?_
 refine zA rfl (hQ _ _ ?_)
 refine sY ?_
 exact wI s (CU.agg (fPN (p.1+q.1,p.2+q.2))) rfl kH rfl rfl (jF _ _) (fun cs W h=>h)
theorem zQQ {m:Nat} {W:Wg} {u v:Wh} {p q:V2} (h1:(fPV m p).p u W) (h2:(fPV m q).p v W) (hm:m<=990) (hm0:0<m):Calls prog 39 #[u,v] W (Ret W (fPN (p.1 - q.1,p.2 - q.2)).tS):=by
 refine z9 [(fPV m p).tS,(fPV m q).tS] func39 rfl kH ⟨h1,h2,trivial⟩ fun a s=> ?_
 refine sX ?_
 refine zC 0 [] hmix s kH
  zD fun a w1 s=> ?_
 refine yD (CU.agg (fPV m p)) rfl s kH (fun v W h=>zAB h) fun b2 a w s=> ?_
 refine yD (CU.agg (fPV m q)) rfl s kH (fun v W h=>zAB h) fun b3 a w s=> ?_
 refine z4 (CU.len 6) (cs:=zP6) kH rfl s kH (fun W=>rfl) rfl fun b4 a w s=> ?_
 refine zA rfl ?_
 refine sX ?_
 refine yC [] 11 ((5, .X (fPV m p) 0)::(6, .Z (fRV m ((p).1)))::(7, .X (fPV m q) 0)::(8, .Z (fRV m ((q).1)))::(9, .Z (fQN ((p).1 - (q).1)))::(10, .X (fPV m p) 3)::(11, .Z (fRV m ((p).2)))::(12, .X (fPV m q) 3)::(13, .Z (fRV m ((q).2)))::(14, .Z (fQN ((p).2 - (q).2)))::(15, .u (fPN (p.1 - q.1,p.2 - q.2))):: []) hmix s kH
  (oc (zK (C:=cg (fPV m p)) 0 kH)<|oc (yB (C:=cg (fPV m p)) (k:=0) 3 kH (h:=zFM))<|oc (zK (C:=cg (fPV m q)) 0 kH)<|oc (yB (C:=cg (fPV m q)) (k:=0) 3 kH (h:=zFM))<|oc (zJ zE zM0 (fun u0 u1 W hb (h0:RVp m ((p).1) u0 W) (h1:RVp m ((q).1) u1 W)=>zE5 h0 h1 hm hm0))<|oc (zK (C:=cg (fPV m p)) 3 kH)<|oc (yB (C:=cg (fPV m p)) (k:=3) 3 kH (h:=zH6))<|oc (zK (C:=cg (fPV m q)) 3 kH)<|oc (yB (C:=cg (fPV m q)) (k:=3) 3 kH (h:=zH6))<|oc (zJ zE zM0 (fun u0 u1 W hb (h0:RVp m ((p).2) u0 W) (h1:RVp m ((q).2) u1 W)=>zE5 h0 h1 hm hm0))<|oc (yS (fun u v W (hu:QNp ((p).1 - (q).1) u W) (hv:QNp ((p).2 - (q).2) v W)=>zPh (jZ _) (jZ _) hu hv))<|zD) fun Q' hQ a w2 s=> ?_
 refine zN (CU.agg (fPN (p.1 - q.1,p.2 - q.2))) ((fPN (p.1 - q.1,p.2 - q.2)).tS) rfl s kH rfl rfl rfl iiz iiz zBo fun a w s=> ?_
 refine zA rfl (hQ _ _ ?_)
 refine sY ?_
 exact wI s (CU.agg (fPN (p.1 - q.1,p.2 - q.2))) rfl kH rfl rfl (jF _ _) (fun cs W h=>h)
end Go.Proofs.Wd

namespace Go.Proofs.Wd
open Tryz
set_option maxRecDepth 100000
set_option maxHeartbeats 1000000
open Go.RowKit Lb
theorem zVv (s:Bool) (A A':Wj Addr) (n n' c c':Nat) (s2:Bool) (B B':Wj Addr) (k k' d d':Nat):yA prog 85 1 [(0, .agg #[.bool s, .slice A n c, .slice A' n' c', .bool s2, .slice B k d, .slice B' k' d'])]=some (36,#[.bool s, .slice A n c, .slice A' n' c', .bool s2, .slice B k d, .slice B' k' d']):=by kernel_rfl
theorem zG0 {f g:UF} {u:Wh} {W:Wg} (h:(fPT f g).p u W): ∃e cs,yA prog 85 1 [(0,u)]=some (e,cs)/\(SF.row 6 [CU.agg (fPT f g)]).p (.slice (some ⟨W.heap.size,0,none⟩) 1 1) (W.alloc (.cells cs e)):=by
 obtain ⟨s,A,n,c,A',n',c',s2,B,k,d,B',k',d',rfl,h1,h2⟩:=h
 refine ⟨_,_,zVv s A A' n n' c c' s2 B B' k k' d d',some ⟨W.heap.size,0,none⟩,1,rfl,tG _,by decide,fun e=>(by cases e),fun i C hi=> ?_⟩
 have hb:=zCd W (.cells #[.bool s, .slice A n c, .slice A' n' c', .bool s2, .slice B k d, .slice B' k' d'] 36)
 have hm:=zB6 W #[.bool s, .slice A n c, .slice A' n' c', .bool s2, .slice B k d, .slice B' k' d'] 36
 obtain rfl:i=0:=by have:=(tL.1 hi).1;simp at this;omega
 obtain rfl:CU.agg (fPT f g)=C:=by simpa using hi
 refine ⟨W.heap.size,0, [.bool s, .slice A n c, .slice A' n' c', .bool s2, .slice B k d, .slice B' k' d'],rfl, ?_,(CU.agg (fPT f g)).us _ _ _ ⟨s,A,n,c,A',n',c',s2,B,k,d,B',k',d',rfl,h1,h2⟩ (yN hb)⟩
 rw [show 0+0*6=0 from rfl]
 exact hm
theorem zSE (f g:UF): ∀C,C∈ [CU.agg (fPT f g)]->CU.ok 6 C:=fun C hC=>by
 obtain rfl:C=CU.agg (fPT f g):=by simpa using hC
 exact zHu f g
theorem zOB {ps:List V2} {k:Nat} (h:k<ps.length):pns (ps.take (k+1))=pns (ps.take k)++ [CU.agg (fPN (at_ ps k))]:=by
 unfold pns at_
 rw [zVM,List.map_append,zVR,tD h]
 rfl
theorem zEE {m:Nat} {W:Wg} {l:Wh} {ps:List V2} (hl:(SF.row 6 (pvs m ps)).p l W) (hm:m<=2000) (hps:ps.length<=1000000):Calls prog 67 #[l] W (Ret W (wM W 36 6 (pns ps))):=by
 refine z9 [(UF.eq l).tS] func67 rfl kH ⟨rfl,trivial⟩ fun a s=> ?_
 replace s:=s.renew [(0, .u (UF.eq l))] (fmz ⟨.inr ⟨_,rfl, .head _⟩,fnz⟩)
 refine sX ?_
 refine zC 1 ((2, .u (UF.eq (.slice none 0 0))):: []) hmix s kH
  (oc zF<|zD) fun a w1 s=> ?_
 refine zA rfl ?_
 refine sX ?_
 refine zC 1 ((3, .u (UF.eq (.slice none 0 0))):: []) hmix s kH
  (oc zF<|zD) fun a w2 s=> ?_
 refine zA rfl ?_
 refine sX ?_
 refine sX ?_
 refine zC 1 ((4, .u (uI 0)):: []) hmix s kH
  (oc zF<|zD) fun a w3 s=> ?_
 refine zA rfl ?_
 refine tC ?_
 refine zBO (fun (p:Nat×Wh) w=>p.1<=ps.length/\W.heap.size<=w.heap.size/\zAW w W.heap.size 36 6 p.2 (pns (ps.take p.1))) (fun p=> [(0, .u (UF.eq l)),(3, .u (UF.eq (p.2))),(4, .u (uI (p.1:Int)))]) (fun p=>ps.length - p.1) (0, .slice none 0 0) (⟨tH _,s.gr.size,zAW.nil _ _ _ _⟩) (s.keepK _ (fmz ⟨mz3,fmz ⟨mz1,fmz ⟨.head _,fnz⟩⟩⟩)) fun p a w hI s=> ?_
 have s0:=s
 replace s:=s.reb rfl [(0, .o (SF.row 6 (pvs m ps))),(0, .u (UF.eq l)),(3, .u (UF.eq (p.2))),(4, .u (uI (p.1:Int)))] (fmz ⟨.inr ⟨_,rfl,(SF.row 6 (pvs m ps)).st _ _ _ (by rw [show a.tmps.getD (0,KF.o (SF.row 6 (pvs m ps))).1 undef=l from s.val (.head _)];exact hl) s.below⟩,fmz ⟨.inl (.head _),fmz ⟨.inl mz1,fmz ⟨.inl mz2,fnz⟩⟩⟩⟩)
 refine sX ?_
 refine sX ?_
 refine zC 4 ((5, .Z (uI (p.1:Int)))::(6, .s (SF.row 6 (pvs m ps)))::(7, .Z (uI ((pvs m ps).length:Int)))::(8, .u (uB (decide ((p.1:Int)<((pvs m ps).length:Int))))):: []) hmix s kH
  (oc zB<|oc zB<|oc (zDc (z:=6) (Cs:=pvs m ps) kH iiz (fun _=>rfl))<|oc (zO .i64 (p.1:Int) ((pvs m ps).length:Int) (decide ((p.1:Int)<((pvs m ps).length:Int))) iiz iiz rfl rfl)<|zD) fun a w4 s=> ?_
 refine zA rfl ?_
 refine StS.cond s (decide ((p.1:Int)<((pvs m ps).length:Int))) iiz (fun e=> ?_) (fun e=> ?_)
 ·have hk:p.1<ps.length:=by have:=tJ e;simp at this;omega
  refine tA ?_
  refine sX ?_
  refine tC ?_
  refine qH (K:= [(8, .u (uB (decide ((p.1:Int)<((pvs m ps).length:Int))))),(0, .o (SF.row 6 (pvs m ps))),(0, .u (UF.eq l)),(4, .u (uI (p.1:Int)))]) [(3, .u (UF.eq (p.2)))] [0,1,2,7,8] 15 ((11, .u (UF.eq (p.2)))::(12, .s (SF.row 6 (pvs m ps)))::(13, .Z (uI (p.1:Int)))::(14, .Y (fPV m (at_ ps p.1)))::(15, .X (fPV m (at_ ps p.1)) 0)::(16, .Z (fRV m ((at_ ps p.1).1)))::(17, .Z (fQN ((at_ ps p.1).1)))::(18, .s (SF.row 6 (pvs m ps)))::(19, .Z (uI (p.1:Int)))::(20, .Y (fPV m (at_ ps p.1)))::(21, .X (fPV m (at_ ps p.1)) 3)::(22, .Z (fRV m ((at_ ps p.1).2)))::(23, .Z (fQN ((at_ ps p.1).2)))::(24, .Z (fPN ((at_ ps p.1).1,(at_ ps p.1).2)))::(25, .s (SF.row 6 [CU.agg (fPN ((at_ ps p.1).1,(at_ ps p.1).2))])):: []) hmix (s.keepK _ (fmz ⟨mz3,fmz ⟨.head _,fmz ⟨mz1,fmz ⟨mz2,fmz ⟨mz4,fnz⟩⟩⟩⟩⟩)) kH
   (oc zB<|oc zB<|oc zB<|oc (zA0 (z:=6) (Cs:=pvs m ps) (i:=p.1) (C:=CU.agg (fPV m (at_ ps p.1))) kH (zDa hk) iiz iiz)<|oc (zK (C:=cg (fPV m (at_ ps p.1))) 0 kH)<|oc (yB (C:=cg (fPV m (at_ ps p.1))) (k:=0) 3 kH (h:=zFM))<|oc (zH zE zCa (fun u0 W hb (h0:RVp m ((at_ ps p.1).1) u0 W)=>jA h0 hm))<|oc zB<|oc zB<|oc (zA0 (z:=6) (Cs:=pvs m ps) (i:=p.1) (C:=CU.agg (fPV m (at_ ps p.1))) kH (zDa hk) iiz iiz)<|oc (zK (C:=cg (fPV m (at_ ps p.1))) 3 kH)<|oc (yB (C:=cg (fPV m (at_ ps p.1))) (k:=3) 3 kH (h:=zH6))<|oc (zH zE zCa (fun u0 W hb (h0:RVp m ((at_ ps p.1).2) u0 W)=>jA h0 hm))<|oc (yS (fun u v W (hu:QNp ((at_ ps p.1).1) u W) (hv:QNp ((at_ ps p.1).2) v W)=>zPh (jZ _) (jZ _) hu hv))<|oc (qB (fun u W (hu:(fPN ((at_ ps p.1).1,(at_ ps p.1).2)).p u W)=>zG0 hu))<|zD) fun Q' hQ a w5 s hr=> ?_
  refine zFw ([CU.agg (fPN ((at_ ps p.1).1,(at_ ps p.1).2))]) s0 (s.keepK [(11, .u (UF.eq (p.2))),(8, .u (uB (decide ((p.1:Int)<((pvs m ps).length:Int))))),(0, .u (UF.eq l)),(4, .u (uI (p.1:Int)))] (fmz ⟨.head _,fmz ⟨mz1,fmz ⟨mz3,fmz ⟨mz4,fnz⟩⟩⟩⟩)) lr hI.2 rfl kH kH kH (s.fct (.tmp 11)) (hr (_,_) zRW) (zSE _ _) (by simp;omega) (fun q hq=>by cases hq) fun v' a w hI' s=> ?_
  have s1:=s
  replace s:=s.reb rfl [(26, .u (UF.eq v')),(11, .u (UF.eq (p.2))),(8, .u (uB (decide ((p.1:Int)<((pvs m ps).length:Int))))),(0, .u (UF.eq l)),(4, .u (uI (p.1:Int)))] (fmz ⟨.inl (.head _),fmz ⟨.inl mz1,fmz ⟨.inl mz2,fmz ⟨.inl mz3,fmz ⟨.inl mz4,fnz⟩⟩⟩⟩⟩)
  refine zS (UF.eq v') rfl s kH iiz fun a w s=> ?_
  refine zA rfl (hQ _ _ ?_)
  refine zR 2 ((9, .Z (uI (p.1:Int)))::(10, .u (uI ((p.1+1:Nat):Int))):: []) s kH
   (oc zB<|oc (yM .i64 (p.1:Int) 1 ((p.1+1:Nat):Int) iiz iiz (wrap64 _ _ oO oO))<|zD) fun a w6 s=> ?_
  replace s:=s.drop [4]
  refine zS (uI ((p.1+1:Nat):Int)) rfl s kH iiz fun a w s=> ?_
  refine zA rfl ?_
  have hbw:=s.below
  replace s:=s1.back (s.keepK [(4, .u (uI ((p.1+1:Nat):Int))),(10, .u (uI ((p.1+1:Nat):Int))),(3, .u (UF.eq v')),(26, .u (UF.eq v')),(11, .u (UF.eq (p.2))),(8, .u (uB (decide ((p.1:Int)<((pvs m ps).length:Int))))),(0, .u (UF.eq l))] (fmz ⟨.head _,fmz ⟨mz1,fmz ⟨mz2,fmz ⟨mz3,fmz ⟨mz4,fmz ⟨mz5,fmz ⟨mz6,fnz⟩⟩⟩⟩⟩⟩⟩)) rfl
  exact ⟨(p.1+1,v'),(by show ps.length - (p.1+1)<ps.length - p.1;omega),⟨hk,tF hI'.1 hbw.size,by rw [zOB hk];exact hI'.2.below hbw⟩,s.keepK _ (fmz ⟨mz6,fmz ⟨mz2,fmz ⟨.head _,fnz⟩⟩⟩)⟩
 ·have hk:p.1=ps.length:=by have:=tI e;simp at this;omega
  refine tV ?_
  refine sX ?_
  refine zC 2 ((27, .Z (UF.eq (p.2)))::(2, .u (UF.eq (p.2))):: []) hmix s kH
   (oc zB<|oc zF<|zD) fun a w7 s=> ?_
  refine zA rfl ?_
  refine sY ?_
  exact StS.resN s s0.below rfl (by rw [s.val (.head _)];have:=hI.2.2.below s.below;rw [hk,List.take_length] at this;exact this)
theorem zHt {m:Nat} (hm0:0<m) {p:V2} {v:Wh} {W:Wg} (h:(fPV m p).p v W):QB p.1 m/\QB p.2 m:=by
 obtain ⟨_,_,_,_,_,_,_,_,_,_,_,_,_,_,_,h1,h2⟩:=h
 exact ⟨h1.qb hm0,h2.qb hm0⟩
section
variable {F:Fence} {m:Nat} {P:Wl} {w0:Wg} {ops:Array Oper} {G:Nat->SF} {d:Tmp} {ty:Wi} {pos:String} {aft:Array Edge}
end
abbrev V6:=V2×V2×V2
abbrev tl (t:V6):List V2:= [t.1,t.2.1,t.2.2]
section
variable {F:Fence} {m:Nat} {P:Wl} {w0:Wg} {ops:Array Oper} {G:Nat->SF} {d:Tmp} {ty:Wi} {pos:String} {aft:Array Edge}
end
theorem zSw {m:Nat} (hm0:0<m) {ps:List V2} {v:Wh} {W:Wg} (h:(SF.row 6 (pvs m ps)).p v W): ∀x,x∈ps->QB x.1 m/\QB x.2 m:=fun x hx=>by
 obtain ⟨i,hi,rfl⟩:=zSM hx
 obtain ⟨_,_,_,_,_,_,h5⟩:=h
 obtain ⟨b,o,cs,_,_,h6⟩:=h5 i _ (zDa hi)
 exact zHt hm0 (v:= .agg cs.toArray) h6
section
variable {F:Fence} {m:Nat} {P:Wl} {w0:Wg} {ops:Array Oper} {G:Nat->SF} {d:Tmp} {ty:Wi} {pos:String} {aft:Array Edge}
end
end Go.Proofs.Wd

namespace Go.Proofs.Wd
open Tryz
set_option maxRecDepth 100000
set_option maxHeartbeats 1000000
open Go.RowKit Lb
def zKY (p q:V2):Int:=if qsg p.1 q.1=0 then qsg p.2 q.2 else qsg p.1 q.1
theorem zTv {p q:V2} (h:(qsg p.1 q.1 !=0)=true):zKY p q=qsg p.1 q.1:=by unfold zKY;rw [if_neg (by simpa using h)]
theorem zTu {p q:V2} (h:(qsg p.1 q.1 !=0)=false):zKY p q=qsg p.2 q.2:=by unfold zKY;rw [if_pos (by simpa using h)]
theorem zQR {m:Nat} {W:Wg} {u v:Wh} {p q:V2} (h1:(fPV m p).p u W) (h2:(fPV m q).p v W) (hm:m<=990) (hm0:0<m):Calls prog 28 #[u,v] W (Ret W (fI (zKY p q)).tS):=by
 refine z9 [(fPV m p).tS,(fPV m q).tS] func28 rfl kH ⟨h1,h2,trivial⟩ fun a s=> ?_
 refine sX ?_
 refine zC 0 [] hmix s kH
  zD fun a w1 s=> ?_
 refine yD (CU.agg (fPV m p)) rfl s kH (fun v W h=>zAB h) fun b2 a w s=> ?_
 refine yD (CU.agg (fPV m q)) rfl s kH (fun v W h=>zAB h) fun b3 a w s=> ?_
 refine zS (uI 0) rfl s kH iiz fun a w s=> ?_
 refine zA rfl ?_
 refine sX ?_
 refine zC 6 ((6, .X (fPV m p) 0)::(7, .Z (fRV m ((p).1)))::(8, .X (fPV m q) 0)::(9, .Z (fRV m ((q).1)))::(10, .Z (uI (qsg (p).1 (q).1)))::(5, .u (uI (qsg (p).1 (q).1))):: []) hmix s kH
  (oc (zK (C:=cg (fPV m p)) 0 kH)<|oc (yB (C:=cg (fPV m p)) (k:=0) 3 kH (h:=zFM))<|oc (zK (C:=cg (fPV m q)) 0 kH)<|oc (yB (C:=cg (fPV m q)) (k:=0) 3 kH (h:=zFM))<|oc (zJ zE zJX (fun u0 u1 W hb (h0:RVp m ((p).1) u0 W) (h1:RVp m ((q).1) u1 W)=>zAZ h0 h1 hm hm0))<|oc zF<|zD) fun a w2 s=> ?_
 refine zA rfl ?_
 refine sX ?_
 refine sX ?_
 refine zC 2 ((11, .Z (uI (qsg (p).1 (q).1)))::(12, .u (uB (qsg (p).1 (q).1 !=0))):: []) hmix s kH
  (oc zB<|oc (zO .i64 (qsg (p).1 (q).1) 0 (qsg (p).1 (q).1 !=0) iiz iiz rfl rfl)<|zD) fun a w3 s=> ?_
 refine zA rfl ?_
 refine StS.cond s (qsg (p).1 (q).1 !=0) iiz (fun e=> ?_) (fun e=> ?_)
 ·refine sX ?_
  replace s:=s.drop [4]
  refine zC 2 ((13, .Z (uI (qsg (p).1 (q).1)))::(4, .u (uI (qsg (p).1 (q).1))):: []) hmix s kH
   (oc zB<|oc zF<|zD) fun a w4 s=> ?_
  refine zA rfl ?_
  refine sY ?_
  exact wJ s (t:=4) rfl (fun v W h=>by rw [zTv e];exact h)
 ·refine tA ?_
  refine sX ?_
  replace s:=s.drop [4]
  refine zC 6 ((14, .X (fPV m p) 3)::(15, .Z (fRV m ((p).2)))::(16, .X (fPV m q) 3)::(17, .Z (fRV m ((q).2)))::(18, .Z (uI (qsg (p).2 (q).2)))::(4, .u (uI (qsg (p).2 (q).2))):: []) hmix s kH
   (oc (zK (C:=cg (fPV m p)) 3 kH)<|oc (yB (C:=cg (fPV m p)) (k:=3) 3 kH (h:=zH6))<|oc (zK (C:=cg (fPV m q)) 3 kH)<|oc (yB (C:=cg (fPV m q)) (k:=3) 3 kH (h:=zH6))<|oc (zJ zE zJX (fun u0 u1 W hb (h0:RVp m ((p).2) u0 W) (h1:RVp m ((q).2) u1 W)=>zAZ h0 h1 hm hm0))<|oc zF<|zD) fun a w5 s=> ?_
  refine zA rfl ?_
  refine sY ?_
  exact wJ s (t:=4) rfl (fun v W h=>by rw [zTu e];exact h)
section
variable {F:Fence} {m:Nat} {P:Wl} {w0:Wg} {ops:Array Oper} {G:Nat->SF} {d:Tmp} {ty:Wi} {pos:String} {aft:Array Edge}
end
section
variable {f g f' g' f'' g'':UF}
theorem zGb {W:Wg} {e:Wi} {z:Nat} {Cs:List CU} {cs:List Wh} (hlen:Cs.length<=9223372036854775807) (h: ∀(i:Nat) (C:CU),Cs[i]?=some C-> ∃p:List Wh,(∀j u,p[j]?=some u->cs[i*z+j]?=some u)/\C.p p W):(SF.row z Cs).p (.slice (some ⟨W.heap.size,0,none⟩) Cs.length Cs.length) (W.alloc (.cells cs.toArray e)):=by
 refine ⟨some ⟨W.heap.size,0,none⟩,Cs.length,rfl,tG _,hlen,fun e=>(by cases e),fun i C hi=> ?_⟩
 obtain ⟨p,h1,h2⟩:=h i C hi
 refine ⟨W.heap.size,0,p,rfl,fun j u hj=> ?_,C.us _ _ _ h2 (yN (zCd W _))⟩
 have:=zB6 W cs.toArray e (i*z+j) u (by simpa using h1 j u hj)
 rwa [<-Nat.add_assoc] at this
end
end Go.Proofs.Wd

namespace Go.Proofs.Wd
open Tryz
set_option maxRecDepth 100000
open Go.RowKit Lb
theorem zQz (q:Rat) (b:Bool) (h:b=decide (0<=q)):decide (q.num.sign≥0)=b:=by
 rw [h,zVQ, <-Rat.num_nonneg]
 exact Int.sign_nonneg_iff
theorem zQy (q:Rat) (b:Bool) (h:b=decide (q<=0)):decide (q.num.sign<=0)=b:=by
 rw [h,zVQ]
 have h1:q<=0↔0<=-q:=by constructor<;>intro h<;>grind
 rw [h1, <-Rat.num_nonneg,Rat.neg_num]
 have h2:=@Int.sign_nonneg_iff (-q.num)
 rw [Int.sign_neg] at h2
 omega
theorem zNG (k:Int) (d:Nat):mkRat (-k) d= -mkRat k d:=Rat.neg_mkRat k d|>.symm
theorem zHf {W:Wg} {m:Nat} {u v:Wh} {p q:Rat} (h:RVp m p u W) (h':RVp m q v W) (hm:m<=450) (hm0:0<m) (hc:q<=p):Calls prog 109 #[u,v] W (Ret W (yU (fQN ((0:Int):Rat)) (fB false)).tS):=by
 have hp:QB p m:=h.qb hm0
 have hq:QB q m:=h'.qb hm0
 have hcmp:decide (qsg p q≥0)=true:=by refine tO ?_;rcases zIr p q with e|e|e;have:=zHo.1 e;grind;omega;omega
 refine z9 [(fRV m p).tS,(fRV m q).tS] func109 rfl kH ⟨h,h',trivial⟩ fun a s=> ?_
 refine sX ?_
 refine zC 0 [] hmix s kH
  zD fun a w1 s=> ?_
 refine yD (CU.agg (fRV m p)) rfl s kH (fun v W h=>y6 h) fun b2 a w s=> ?_
 refine yD (CU.agg (fRV m q)) rfl s kH (fun v W h=>y6 h) fun b3 a w s=> ?_
 refine z4 (CU.len 3) (cs:=zR3) kH rfl s kH (fun W=>rfl) rfl fun b4 a w s=> ?_
 refine zS (uB false) rfl s kH iiz fun a w s=> ?_
 refine zA rfl ?_
 refine sX ?_
 refine yC [] 4 ((12, .Z (fRV m p))::(13, .u (fQN p))::(14, .Z (fRV m q))::(15, .u (fQN q)):: []) hmix s kH
  (oc (zI (f:=fRV m p) 3 kH (hz:=zT _ _))<|oc (zH zE zCa (fun u0 W hb (h0:RVp m p u0 W)=>jA h0 oO))<|oc (zI (f:=fRV m q) 3 kH (hz:=zT _ _))<|oc (zH zE zCa (fun u0 W hb (h0:RVp m q u0 W)=>jA h0 oO))<|zD) fun Q' hQ a w2 s=> ?_
 refine zN (CU.agg (fQN p)) ((fQN p).tS) rfl s kH rfl rfl rfl (zT _ _) iiz zU fun a w s=> ?_
 refine zN (CU.agg (fQN q)) ((fQN q).tS) rfl s kH rfl rfl rfl (zT _ _) iiz zU fun a w s=> ?_
 refine zA rfl (hQ _ _ ?_)
 refine sX ?_
 refine sX ?_
 refine zC 4 ((16, .Z (fQN p))::(17, .Z (fQN q))::(18, .Z (uI (qsg p q)))::(19, .u (uB true)):: []) hmix s kH
  (oc (zI (f:=fQN p) 3 kH (hz:=z5 _))<|oc (zI (f:=fQN q) 3 kH (hz:=z5 _))<|oc (zJ zE zJX (fun u0 u1 W hb (h0:QNp p u0 W) (h1:QNp q u1 W)=>zAZ (wD h0 hp) (wD h1 hq) oO hm0))<|oc (zO .i64 (qsg p q) 0 true iiz iiz (by exact hcmp) rfl)<|zD) fun a w3 s=> ?_
 refine zA rfl ?_
 refine StS.cond s true iiz (fun e=> ?_) (fun e=>by cases e)
 refine sX ?_
 replace s:=s.drop [5]
 refine zC 1 ((20, .u (fQN ((0:Int):Rat))):: []) hmix s kH
  (oc (zH zE zDT (fun u0 W hb (h0:u0= .int .i64 0)=>zBI 0 h0 dA))<|zD) fun a w4 s=> ?_
 refine zN (CU.agg (fQN ((0:Int):Rat))) ((fQN ((0:Int):Rat)).tS) rfl s kH rfl rfl rfl iiz iiz zU fun a w s=> ?_
 refine zS (uB false) rfl s kH iiz fun a w s=> ?_
 refine zA rfl ?_
 refine sY ?_
 exact wK s (CU.agg (fQN ((0:Int):Rat))) rfl kH rfl rfl (z5 _) (fun cs v W h1 h2=>⟨_,_,rfl,h1,h2⟩)
theorem zHe {W:Wg} {m:Nat} {u v:Wh} {p q:Rat} (h:RVp m p u W) (h':RVp m q v W) (hm:m<=450) (hm0:0<m) (S:Nat) (hS:zCe p q S) (hSb:S<=3000):Calls prog 109 #[u,v] W (Ret W (yU (fQN (btw p q S)) (fB true)).tS):=by
 have hp:QB p m:=h.qb hm0
 have hq:QB q m:=h'.qb hm0
 have hpq:p<q:=by have h1:=zP3 hS;grind
 have hcmp:decide (qsg p q≥0)=false:=by refine tP ?_;rw [zHo.2 hpq];decide
 have hb0:Bd (0:Int) (m+200+1):=Nat.pow_pos y4
 have hup: ∀W u0 u1,y7 W u0 1->u1= .int .i64 (S:Int)->Calls prog 89 #[u0,u1] W (Ret W (yQ (2^S)).tS):=fun W u0 u1 h0 h1=>by
  have:=zLq (y7.lv (m:=1) h0 (by unfold BB;decide)) h1 oO oO
  rw [Nat.one_mul] at this
  exact this
 refine z9 [(fRV m p).tS,(fRV m q).tS] func109 rfl kH ⟨h,h',trivial⟩ fun a s=> ?_
 refine sX ?_
 refine zC 0 [] hmix s kH
  zD fun a w1 s=> ?_
 refine yD (CU.agg (fRV m p)) rfl s kH (fun v W h=>y6 h) fun b2 a w s=> ?_
 refine yD (CU.agg (fRV m q)) rfl s kH (fun v W h=>y6 h) fun b3 a w s=> ?_
 refine z4 (CU.len 3) (cs:=zR3) kH rfl s kH (fun W=>rfl) rfl fun b4 a w s=> ?_
 refine zS (uB false) rfl s kH iiz fun a w s=> ?_
 refine zA rfl ?_
 refine sX ?_
 refine yC [] 4 ((12, .Z (fRV m p))::(13, .u (fQN p))::(14, .Z (fRV m q))::(15, .u (fQN q)):: []) hmix s kH
  (oc (zI (f:=fRV m p) 3 kH (hz:=zT _ _))<|oc (zH zE zCa (fun u0 W hb (h0:RVp m p u0 W)=>jA h0 oO))<|oc (zI (f:=fRV m q) 3 kH (hz:=zT _ _))<|oc (zH zE zCa (fun u0 W hb (h0:RVp m q u0 W)=>jA h0 oO))<|zD) fun Q' hQ a w2 s=> ?_
 refine zN (CU.agg (fQN p)) ((fQN p).tS) rfl s kH rfl rfl rfl (zT _ _) iiz zU fun a w s=> ?_
 refine zN (CU.agg (fQN q)) ((fQN q).tS) rfl s kH rfl rfl rfl (zT _ _) iiz zU fun a w s=> ?_
 refine zA rfl (hQ _ _ ?_)
 refine sX ?_
 refine sX ?_
 refine zC 4 ((16, .Z (fQN p))::(17, .Z (fQN q))::(18, .Z (uI (qsg p q)))::(19, .u (uB false)):: []) hmix s kH
  (oc (zI (f:=fQN p) 3 kH (hz:=z5 _))<|oc (zI (f:=fQN q) 3 kH (hz:=z5 _))<|oc (zJ zE zJX (fun u0 u1 W hb (h0:QNp p u0 W) (h1:QNp q u1 W)=>zAZ (wD h0 hp) (wD h1 hq) oO hm0))<|oc (zO .i64 (qsg p q) 0 false iiz iiz (by exact hcmp) rfl)<|zD) fun a w3 s=> ?_
 refine zA rfl ?_
 refine StS.cond s false iiz (fun e=>by cases e) (fun e=> ?_)
 refine tA ?_
 refine sX ?_
 refine zC 1 ((6, .u (uI 1)):: []) hmix s kH
  (oc zF<|zD) fun a w4 s=> ?_
 refine zA rfl ?_
 refine sX ?_
 refine tC ?_
 refine q8 (fun p1=>1<=p1/\p1<=2*S+1) (fun p1=> [(6, .u (fI ((p1:Nat):Int)))]) (fun p1=>2*S+2 - p1) (1:Nat) (⟨tG _,by omega⟩) (s.keepK _ (fmz ⟨.head _,fnz⟩)) fun p1 a w hx s=> ?_
 obtain ⟨hx1,hx2⟩:=hx
 refine sX ?_
 refine sX ?_
 refine zC 5 ((21, .Z (fQN p))::(22, .Z (fQN q))::(23, .Z (fI (p1:Int)))::(24, .Z (uB (decide (S<=p1))))::(25, .u (uB (!(decide (S<=p1))))):: []) hmix s kH
  (oc (zI (f:=fQN p) 3 kH (hz:=z5 _))<|oc (zI (f:=fQN q) 3 kH (hz:=z5 _))<|oc zB<|oc (zBK zE zPT (fun u0 u1 u2 W hb (h0:QNp p u0 W) (h1:QNp q u1 W) (h2:u2= .int .i64 (p1:Int))=>zJo (zJr (M:=200) h0 h1 h2 hp hq oO oO) (by rw [zE2 hS];rfl)))<|oc (zCA (decide (S<=p1)) iiz (fun _=>rfl))<|zD) fun a w5 s=> ?_
 refine zA rfl ?_
 refine StS.cond s (!(decide (S<=p1))) iiz (fun e=> ?_) (fun e=> ?_)
 ·have e1: ¬S<=p1:=by simpa using e
  refine tA ?_
  refine tC ?_
  refine zR 2 ((26, .Z (fI (p1:Int)))::(27, .u (fI ((2*p1:Nat):Int))):: []) s kH
   (oc zB<|oc (zRc .i64 2 (p1:Int) ((2*p1:Nat):Int) iiz iiz (wrap64 _ _ oO oO))<|zD) fun a w6 s=> ?_
  replace s:=s.drop [6]
  refine zS (fI ((2*p1:Nat):Int)) rfl s kH iiz fun a w s=> ?_
  refine zA rfl ?_
  exact ⟨2*p1,⟨by omega,by omega⟩,(by show 2*S+2 - 2*p1<2*S+2 - p1;omega),s.keepK _ (fmz ⟨.head _,fnz⟩)⟩
 ·have e1:S<=p1:=by simpa using e
  obtain ⟨pm,hpm⟩: ∃pm,p1=pm:=⟨_,rfl⟩
  rw [hpm] at s e1 hx2
  have hpm1:S<=pm:=e1
  have hpm2:pm<=2*S+1:=hx2
  refine tV ?_
  refine sX ?_
  refine zC 1 ((7, .u (uI 0)):: []) hmix s kH
   (oc zF<|zD) fun a w7 s=> ?_
  refine zA rfl ?_
  refine sX ?_
  refine tC ?_
  refine q8 (fun p1=>p1.1<=S/\S<=p1.2/\p1.2<=2*S+1) (fun p1=> [(7, .u (fI (p1.1:Int))),(6, .u (fI (p1.2:Int)))]) (fun p1=>p1.2 - p1.1) ((0,pm):Nat×Nat) (⟨tH _,hpm1,hpm2⟩) (s.keepK _ (fmz ⟨.head _,fmz ⟨mz2,fnz⟩⟩)) fun p1 a w hx s=> ?_
  obtain ⟨hx1,hx2,hx3⟩:=hx
  refine sX ?_
  refine sX ?_
  refine zC 3 ((28, .Z (fI (p1.1:Int)))::(29, .Z (fI (p1.2:Int)))::(30, .u (uB (decide ((p1.1:Int)<(p1.2:Int))))):: []) hmix s kH
   (oc zB<|oc zB<|oc (zO .i64 (p1.1:Int) (p1.2:Int) (decide ((p1.1:Int)<(p1.2:Int))) iiz iiz rfl rfl)<|zD) fun a w8 s=> ?_
  refine zA rfl ?_
  refine StS.cond s (decide ((p1.1:Int)<(p1.2:Int))) iiz (fun e=> ?_) (fun e=> ?_)
  ·have e2:p1.1<p1.2:=by have:=tJ e;omega
   refine tA ?_
   refine tC ?_
   refine sX ?_
   refine zC 5 ((31, .Z (fI (p1.1:Int)))::(32, .Z (fI (p1.2:Int)))::(33, .Z (fI ((p1.1+p1.2:Nat):Int)))::(34, .Z (fI (((p1.1+p1.2) / 2:Nat):Int)))::(8, .u (fI (((p1.1+p1.2) / 2:Nat):Int))):: []) hmix s kH
    (oc zB<|oc zB<|oc (yM .i64 (p1.1:Int) (p1.2:Int) ((p1.1+p1.2:Nat):Int) iiz iiz (wrap64 _ _ oO oO))<|oc (zIy .i64 ((p1.1+p1.2:Nat):Int) 2 (((p1.1+p1.2) / 2:Nat):Int) iiz iiz dA (wrap64 _ _ (by rw [zVP oO];omega) oO))<|oc zF<|zD) fun a w9 s=> ?_
   refine zA rfl ?_
   refine sX ?_
   refine zC 4 ((35, .Z (fQN p))::(36, .Z (fQN q))::(37, .Z (fI (((p1.1+p1.2) / 2:Nat):Int)))::(38, .u (uB (decide (S<=(p1.1+p1.2) / 2)))):: []) hmix s kH
    (oc (zI (f:=fQN p) 3 kH (hz:=z5 _))<|oc (zI (f:=fQN q) 3 kH (hz:=z5 _))<|oc zB<|oc (zBK zE zPT (fun u0 u1 u2 W hb (h0:QNp p u0 W) (h1:QNp q u1 W) (h2:u2= .int .i64 (((p1.1+p1.2) / 2:Nat):Int))=>zJo (zJr (M:=200) h0 h1 h2 hp hq oO oO) (by rw [zE2 hS];rfl)))<|zD) fun a w10 s=> ?_
   refine zA rfl ?_
   refine StS.cond s (decide (S<=(p1.1+p1.2) / 2)) iiz (fun e=> ?_) (fun e=> ?_)
   ·have e3:S<=(p1.1+p1.2) / 2:=tJ e
    replace s:=s.drop [6]
    refine zC 2 ((39, .Z (fI (((p1.1+p1.2) / 2:Nat):Int)))::(6, .u (fI (((p1.1+p1.2) / 2:Nat):Int))):: []) hmix s kH
     (oc zB<|oc zF<|zD) fun a w11 s=> ?_
    refine zA rfl ?_
    exact ⟨(p1.1,(p1.1+p1.2) / 2),⟨by omega,by omega,by show (p1.1+p1.2) / 2<=_;omega⟩,(by show (p1.1+p1.2) / 2 - p1.1<p1.2 - p1.1;omega),s.keepK _ (fmz ⟨mz4,fmz ⟨.head _,fnz⟩⟩)⟩
   ·have e3: ¬S<=(p1.1+p1.2) / 2:=tI e
    replace s:=s.drop [7]
    refine zC 3 ((40, .Z (fI (((p1.1+p1.2) / 2:Nat):Int)))::(41, .Z (fI (((p1.1+p1.2) / 2+1:Nat):Int)))::(7, .u (fI (((p1.1+p1.2) / 2+1:Nat):Int))):: []) hmix s kH
     (oc zB<|oc (yM .i64 (((p1.1+p1.2) / 2:Nat):Int) 1 (((p1.1+p1.2) / 2+1:Nat):Int) iiz iiz (wrap64 _ _ oO oO))<|oc zF<|zD) fun a w12 s=> ?_
    refine zA rfl ?_
    exact ⟨((p1.1+p1.2) / 2+1,p1.2),⟨by show (p1.1+p1.2) / 2+1<=S;omega,by omega,by omega⟩,(by show p1.2 - ((p1.1+p1.2) / 2+1)<p1.2 - p1.1;omega),s.keepK _ (fmz ⟨.head _,fmz ⟨mz4,fnz⟩⟩)⟩
  ·have e2: ¬p1.1<p1.2:=by have:=tI e;omega
   have hsS:p1.1=S:=by omega
   refine tV ?_
   refine sX ?_
   refine zC 1 ((42, .u (fNV (0:Int))):: []) hmix s kH
    (oc (zH zE zPb (fun u0 W hb (h0:u0= .int .i64 0)=>zLR 0 h0 dA))<|zD) fun a w13 s=> ?_
   refine z4 (CU.len 2) (cs:= [.bool false, .slice none 0 0]) kH rfl s kH (fun W=>rfl) rfl fun b9 a w s=> ?_
   refine zN (CU.agg (fNV (0:Int))) ((fNV (0:Int)).tS) rfl s kH rfl rfl rfl iiz iiz y2 fun a w s=> ?_
   refine zA rfl ?_
   refine sX ?_
   refine tC ?_
   refine sX ?_
   refine zC 4 ((44, .Z (fQN p))::(45, .Z (uI (p.num.sign)))::(46, .Z (uB (decide (0<=p))))::(43, .u (uB (decide (0<=p)))):: []) hmix s kH
    (oc (zI (f:=fQN p) 3 kH (hz:=z5 _))<|oc (zH zE zPV (fun u0 W hb (h0:QNp p u0 W)=>zJq (wD h0 hp) oO))<|oc (zO .i64 (p.num.sign) 0 (decide (0<=p)) iiz iiz (by exact zQz p _ rfl) rfl)<|oc zF<|zD) fun a w14 s=> ?_
   refine zA rfl ?_
   refine StS.cond s (decide (0<=p)) iiz (fun e=> ?_) (fun e=> ?_)
   ·have e4:0<=p:=tJ e
    have hv:mkRat ((fl (p*jP S))+1) (2^S)=btw p q S:=by unfold btw;rw [if_neg (by grind),if_neg (by grind)];rfl
    have hnew: ∀W u0 u1,UV W (m+200+1) u0 ((fl (p*jP S))+1)->y7 W u1 (2^S)->Calls prog 29 #[u0,u1] W (Ret W (yU (fQN (btw p q S)) UF.any).tS):=fun W u0 u1 h0 h1=>by
     have:=zD6 h0 (y7.lv (m:=m+200+1) h1 (sZ (zBR (M:=200) (show S<=32*200 by omega)) (zVS (by unfold BB;decide) oO))) oO
     rw [hv] at this
     exact this.mono fun e w' ⟨v,e1,⟨x,y,e2,h2,_⟩,hb⟩=>⟨v,e1,⟨x,y,e2,h2,trivial⟩,hb⟩
    refine zC 3 ((47, .Z (fQN p))::(48, .Z (fI (p1.1:Int)))::(49, .u (fNV ((fl (p*jP S))+1))):: []) hmix s kH
     (oc (zI (f:=fQN p) 3 kH (hz:=z5 _))<|oc zB<|oc (zJ zE zM3 (fun u0 u1 W hb (h0:QNp p u0 W) (h1:u1= .int .i64 (p1.1:Int))=>zE6 (M:=200) h0 (by rw [hsS] at h1;exact h1) hp oO oO))<|zD) fun a w15 s=> ?_
    refine zN (CU.agg (fNV ((fl (p*jP S))+1))) ((fNV ((fl (p*jP S))+1)).tS) rfl s kH rfl rfl rfl (qQ _) iiz y2 fun a w s=> ?_
    refine zA rfl ?_
    refine sX ?_
    have so:=s.old;have sg:=s.gr
    refine qL [7] [⟨8,10,27, [.bool false, .slice none 0 0, .slice none 0 0],wH w 27 (CU.len 3)⟩] 9 ((60, .Z (fNV ((fl (p*jP S))+1)))::(61, .Z (yQ 1))::(62, .Z (fI (p1.1:Int)))::(63, .Z (yQ (2^S)))::(64, .Z (yU (fQN (btw p q S)) (UF.any)))::(59, .Z (yU (fQN (btw p q S)) (UF.any)))::(65, .u (fQN (btw p q S)))::(10, .s (wH w 27 (CU.len 3))):: []) hmix s (fmz ⟨⟨by show 8<9;decide,mz7,⟨_,_,_,rfl⟩,by kernel_rfl,jI (fun _=>rfl) rfl⟩,fnz⟩) kH
     (oc (zI (f:=fNV ((fl (p*jP S))+1)) 2 kH (hz:=qQ _))<|oc (qB (fun u W (hu:u= .int .u32 1)=>zG1 hu))<|oc zB<|oc (zJ zE zMY (fun u0 u1 W hb (h0:y7 W u0 1) (h1:u1= .int .i64 (p1.1:Int))=>hup W u0 u1 h0 (by rw [hsS] at h1;exact h1)))<|oc (zJ zE zIM (fun u0 u1 W hb (h0:NV W u0 ((fl (p*jP S))+1)) (h1:y7 W u1 (2^S))=>hnew W u0 u1 (NV.uv' h0 (zKO hp (show S<=32*200 by omega))) h1))<|oc zB<|oc (yY (A:=(fQN (btw p q S)).tS) (B:=(UF.any).tS) iiz)<|oc (yX (A:=(fQN (btw p q S)).tS) (B:=(UF.any).tS) iiz)<|oc (zAL (cs:=zR3) kH (jI (fun _=>rfl) rfl))<|zD) fun Q' hQ a w16 s hr hd=> ?_
    obtain ⟨b10,_,e10,s⟩:=s.adoptA false 10 (hr (_,_) mz7) sg (fun y hy=> .inl (so y hy))
    refine zN (CU.agg (fQN (btw p q S))) ((fQN (btw p q S)).tS) rfl s kH rfl rfl rfl iiz iiz zU fun a w s=> ?_
    refine zS UF.any rfl s kH (fun _ _ _=>trivial) fun a w s=> ?_
    refine zA rfl (hQ _ _ ?_)
    refine sX ?_
    refine zC 1 ((67, .u (fQN (btw p q S))):: []) hmix s kH
     (oc (zI (f:=fQN (btw p q S)) 3 kH (hz:=z5 _))<|zD) fun a w17 s=> ?_
    refine zN (CU.agg (fQN (btw p q S))) ((fQN (btw p q S)).tS) rfl s kH rfl rfl rfl iiz iiz zU fun a w s=> ?_
    refine zS (uB true) rfl s kH iiz fun a w s=> ?_
    refine zA rfl ?_
    refine sY ?_
    exact wK s (CU.agg (fQN (btw p q S))) rfl kH rfl rfl (z5 _) (fun cs v W h1 h2=>⟨_,_,rfl,h1,h2⟩)
   ·have e4: ¬0<=p:=tI e
    refine sX ?_
    refine zC 4 ((51, .Z (fQN q))::(52, .Z (uI (q.num.sign)))::(53, .Z (uB (decide (q<=0))))::(50, .u (uB (decide (q<=0)))):: []) hmix s kH
     (oc (zI (f:=fQN q) 3 kH (hz:=z5 _))<|oc (zH zE zPV (fun u0 W hb (h0:QNp q u0 W)=>zJq (wD h0 hq) oO))<|oc (zO .i64 (q.num.sign) 0 (decide (q<=0)) iiz iiz (by exact zQy q _ rfl) rfl)<|oc zF<|zD) fun a w18 s=> ?_
    refine zA rfl ?_
    refine StS.cond s (decide (q<=0)) iiz (fun e=> ?_) (fun e=> ?_)
    ·have e5:q<=0:=tJ e
     have hv:mkRat (-((fl ((-q)*jP S))+1)) (2^S)=btw p q S:=by unfold btw;rw [if_pos e5,zNG];rfl
     have hnew: ∀W u0 u1,UV W (m+200+1) u0 (-((fl ((-q)*jP S))+1))->y7 W u1 (2^S)->Calls prog 29 #[u0,u1] W (Ret W (yU (fQN (btw p q S)) UF.any).tS):=fun W u0 u1 h0 h1=>by
      have:=zD6 h0 (y7.lv (m:=m+200+1) h1 (sZ (zBR (M:=200) (show S<=32*200 by omega)) (zVS (by unfold BB;decide) oO))) oO
      rw [hv] at this
      exact this.mono fun e w' ⟨v,e1,⟨x,y,e2,h2,_⟩,hb⟩=>⟨v,e1,⟨x,y,e2,h2,trivial⟩,hb⟩
     refine zC 5 ((54, .Z (fQN q))::(55, .Z (fQN (-q)))::(56, .Z (fI (p1.1:Int)))::(57, .Z (fNV ((fl ((-q)*jP S))+1)))::(58, .u (fNV (-((fl ((-q)*jP S))+1)))):: []) hmix s kH
      (oc (zI (f:=fQN q) 3 kH (hz:=z5 _))<|oc (zH zE zP0 (fun u0 W hb (h0:QNp q u0 W)=>zLP (wD h0 hq) oO hm0))<|oc zB<|oc (zJ zE zM3 (fun u0 u1 W hb (h0:QNp (-q) u0 W) (h1:u1= .int .i64 (p1.1:Int))=>zE6 (M:=200) h0 (by rw [hsS] at h1;exact h1) hq.neg oO oO))<|oc (zH zE zTd (fun u0 W hb (h0:NV W u0 ((fl ((-q)*jP S))+1))=>zLS (NV.uv' h0 (zKO hq.neg (show S<=32*200 by omega))) oO))<|zD) fun a w19 s=> ?_
     refine zN (CU.agg (fNV (-((fl ((-q)*jP S))+1)))) ((fNV (-((fl ((-q)*jP S))+1))).tS) rfl s kH rfl rfl rfl (qQ _) iiz y2 fun a w s=> ?_
     refine zA rfl ?_
     refine sX ?_
     have so:=s.old;have sg:=s.gr
     refine qL [7] [⟨8,10,27, [.bool false, .slice none 0 0, .slice none 0 0],wH w 27 (CU.len 3)⟩] 9 ((60, .Z (fNV (-((fl ((-q)*jP S))+1))))::(61, .Z (yQ 1))::(62, .Z (fI (p1.1:Int)))::(63, .Z (yQ (2^S)))::(64, .Z (yU (fQN (btw p q S)) (UF.any)))::(59, .Z (yU (fQN (btw p q S)) (UF.any)))::(65, .u (fQN (btw p q S)))::(10, .s (wH w 27 (CU.len 3))):: []) hmix s (fmz ⟨⟨by show 8<9;decide,mz7,⟨_,_,_,rfl⟩,by kernel_rfl,jI (fun _=>rfl) rfl⟩,fnz⟩) kH
      (oc (zI (f:=fNV (-((fl ((-q)*jP S))+1))) 2 kH (hz:=qQ _))<|oc (qB (fun u W (hu:u= .int .u32 1)=>zG1 hu))<|oc zB<|oc (zJ zE zMY (fun u0 u1 W hb (h0:y7 W u0 1) (h1:u1= .int .i64 (p1.1:Int))=>hup W u0 u1 h0 (by rw [hsS] at h1;exact h1)))<|oc (zJ zE zIM (fun u0 u1 W hb (h0:NV W u0 (-((fl ((-q)*jP S))+1))) (h1:y7 W u1 (2^S))=>hnew W u0 u1 (NV.uv' h0 (zKO hq.neg (show S<=32*200 by omega)).neg) h1))<|oc zB<|oc (yY (A:=(fQN (btw p q S)).tS) (B:=(UF.any).tS) iiz)<|oc (yX (A:=(fQN (btw p q S)).tS) (B:=(UF.any).tS) iiz)<|oc (zAL (cs:=zR3) kH (jI (fun _=>rfl) rfl))<|zD) fun Q' hQ a w20 s hr hd=> ?_
     obtain ⟨b10,_,e10,s⟩:=s.adoptA false 10 (hr (_,_) mz7) sg (fun y hy=> .inl (so y hy))
     refine zN (CU.agg (fQN (btw p q S))) ((fQN (btw p q S)).tS) rfl s kH rfl rfl rfl iiz iiz zU fun a w s=> ?_
     refine zS UF.any rfl s kH (fun _ _ _=>trivial) fun a w s=> ?_
     refine zA rfl (hQ _ _ ?_)
     refine sX ?_
     refine zC 1 ((67, .u (fQN (btw p q S))):: []) hmix s kH
      (oc (zI (f:=fQN (btw p q S)) 3 kH (hz:=z5 _))<|zD) fun a w21 s=> ?_
     refine zN (CU.agg (fQN (btw p q S))) ((fQN (btw p q S)).tS) rfl s kH rfl rfl rfl iiz iiz zU fun a w s=> ?_
     refine zS (uB true) rfl s kH iiz fun a w s=> ?_
     refine zA rfl ?_
     refine sY ?_
     exact wK s (CU.agg (fQN (btw p q S))) rfl kH rfl rfl (z5 _) (fun cs v W h1 h2=>⟨_,_,rfl,h1,h2⟩)
    ·have e5: ¬q<=0:=tI e
     have hv:mkRat (0:Int) (2^S)=btw p q S:=by unfold btw;rw [if_neg e5,if_pos (by grind),Rat.zero_mkRat]
     have hnew: ∀W u0 u1,UV W (m+200+1) u0 (0:Int)->y7 W u1 (2^S)->Calls prog 29 #[u0,u1] W (Ret W (yU (fQN (btw p q S)) UF.any).tS):=fun W u0 u1 h0 h1=>by
      have:=zD6 h0 (y7.lv (m:=m+200+1) h1 (sZ (zBR (M:=200) (show S<=32*200 by omega)) (zVS (by unfold BB;decide) oO))) oO
      rw [hv] at this
      exact this.mono fun e w' ⟨v,e1,⟨x,y,e2,h2,_⟩,hb⟩=>⟨v,e1,⟨x,y,e2,h2,trivial⟩,hb⟩
     refine tA ?_
     refine sX ?_
     have so:=s.old;have sg:=s.gr
     refine qL [7] [⟨8,10,27, [.bool false, .slice none 0 0, .slice none 0 0],wH w18 27 (CU.len 3)⟩] 9 ((60, .Z (fNV (0:Int)))::(61, .Z (yQ 1))::(62, .Z (fI (p1.1:Int)))::(63, .Z (yQ (2^S)))::(64, .Z (yU (fQN (btw p q S)) (UF.any)))::(59, .Z (yU (fQN (btw p q S)) (UF.any)))::(65, .u (fQN (btw p q S)))::(10, .s (wH w18 27 (CU.len 3))):: []) hmix s (fmz ⟨⟨by show 8<9;decide,mz7,⟨_,_,_,rfl⟩,by kernel_rfl,jI (fun _=>rfl) rfl⟩,fnz⟩) kH
      (oc (zI (f:=fNV (0:Int)) 2 kH (hz:=qQ _))<|oc (qB (fun u W (hu:u= .int .u32 1)=>zG1 hu))<|oc zB<|oc (zJ zE zMY (fun u0 u1 W hb (h0:y7 W u0 1) (h1:u1= .int .i64 (p1.1:Int))=>hup W u0 u1 h0 (by rw [hsS] at h1;exact h1)))<|oc (zJ zE zIM (fun u0 u1 W hb (h0:NV W u0 (0:Int)) (h1:y7 W u1 (2^S))=>hnew W u0 u1 (NV.uv' h0 hb0) h1))<|oc zB<|oc (yY (A:=(fQN (btw p q S)).tS) (B:=(UF.any).tS) iiz)<|oc (yX (A:=(fQN (btw p q S)).tS) (B:=(UF.any).tS) iiz)<|oc (zAL (cs:=zR3) kH (jI (fun _=>rfl) rfl))<|zD) fun Q' hQ a w22 s hr hd=> ?_
     obtain ⟨b10,_,e10,s⟩:=s.adoptA false 10 (hr (_,_) mz7) sg (fun y hy=> .inl (so y hy))
     refine zN (CU.agg (fQN (btw p q S))) ((fQN (btw p q S)).tS) rfl s kH rfl rfl rfl iiz iiz zU fun a w s=> ?_
     refine zS UF.any rfl s kH (fun _ _ _=>trivial) fun a w s=> ?_
     refine zA rfl (hQ _ _ ?_)
     refine sX ?_
     refine zC 1 ((67, .u (fQN (btw p q S))):: []) hmix s kH
      (oc (zI (f:=fQN (btw p q S)) 3 kH (hz:=z5 _))<|zD) fun a w23 s=> ?_
     refine zN (CU.agg (fQN (btw p q S))) ((fQN (btw p q S)).tS) rfl s kH rfl rfl rfl iiz iiz zU fun a w s=> ?_
     refine zS (uB true) rfl s kH iiz fun a w s=> ?_
     refine zA rfl ?_
     refine sY ?_
     exact wK s (CU.agg (fQN (btw p q S))) rfl kH rfl rfl (z5 _) (fun cs v W h1 h2=>⟨_,_,rfl,h1,h2⟩)
theorem zLb {q:Rat} {m S:Nat} (h:QB q m) (hS:S<=3000):QB (upto q S) (m+95):=by
 unfold upto
 have h1:=zKO h (show S<=32*94 by omega)
 exact vD (h1.mono oO) (tB (zVS dA (show S<32*(m+95) by omega)) (zBR lr)) oO
theorem zN1 {z:Nat} {Cs Ds:List CU} (hl:Cs.length=Ds.length) (h: ∀(i:Nat) (C D:CU),Cs[i]?=some C->Ds[i]?=some D-> ∀cs W,C.p cs W->D.p cs W) (v:Wh) (W:Wg) (hv:(SF.row z Cs).p v W):(SF.row z Ds).p v W:=by
 obtain ⟨A,c,h1,h2,h3,h4,h5⟩:=hv
 refine ⟨A,c,by rw [<-hl];exact h1,by omega,h3,h4,fun i D hi=> ?_⟩
 have hlt:=(tL.1 hi).1
 obtain ⟨b,o,cs,g1,g2,g3⟩:=h5 i _ (tD oO)
 exact ⟨b,o,cs,g1,g2,h i _ D (tD oO) hi cs W g3⟩
abbrev zV (L:List QX):List Rat:=L.map QX.q
theorem zQE {L:List QX} {m:Nat} (hL: ∀x,x∈L->x.n<=m/\x.n'<=m) (v:Wh) (W:Wg) (hv:(SF.row 3 (L.map QX.cu)).p v W):(SF.row 3 (rvs m (zV L))).p v W:=by
 refine zN1 (by simp) (fun i C D hC hD cs W h=> ?_) v W hv
 rw [tM] at hC
 cases hx:L[i]? with
 |none=>rw [hx] at hC;cases hC
 |some x=>
  rw [hx] at hC
  cases hC
  rw [tM,tM,hx] at hD
  cases hD
  have hm:=hL x (List.mem_of_getElem? hx)
  exact zVb h hm.1 hm.2
theorem zLw {m:Nat} {qs:List Rat} (v:Wh) (W:Wg) (hv:(SF.row 3 (rvs m qs)).p v W):(fQS m qs).p v W:=by
 obtain ⟨A,c,h1,h2,h3,h4,h5⟩:=hv
 rw [tR] at h1 h2
 refine ⟨A,c,h1,h2,h3,rfl,fun i hi=> ?_⟩
 obtain ⟨b,o,cs,g1,g2,g3⟩:=h5 i (CU.agg (fRV m qs[i])) (by rw [tM,tD hi];rfl)
 have hl:=zT m _ cs W g3
 match cs,hl with
 | [c0,c1,c2],_=>
  exact ⟨b,o,c0,c1,c2,qs[i],g1,g2 0 _ rfl,g2 1 _ rfl,g2 2 _ rfl,tD hi,g3⟩
theorem zTE {p q:Rat} {m S:Nat} (hp:QB p m) (hq:QB q m) (hS:S<=3000):QB (btw p q S) (m+95):=by
 unfold btw
 split
 ·exact (zLb hq.neg hS).neg
 ·split
  ·exact QB.zero (by have:=hp.pos;omega)
  ·exact zLb hp hS
theorem zOW {p q:Rat} {S:Nat} (hS:zCe p q S) (hpq:p<q) (hp:QB p 40) (hq:QB q 40):S<=2560:=by
 refine hS.le (zJm hpq ?_)
 have h1:p.den*q.den<BB^40*BB^40:=Nat.mul_lt_mul_of_lt_of_lt hp.2 hq.2
 rw [<-zVN,zEp,show 32*(40+40)=2560 from rfl] at h1
 exact h1
theorem zNe {p q:Rat} (hp:QB p 40) (hq:QB q 40):q<=p∨ ∃S,zCe p q S/\S<=2560:=by
 by_cases hc:p<q
 ·obtain ⟨S,hS⟩:=zHP hc
  exact .inr ⟨S,hS,zOW hS hc hp hq⟩
 ·exact .inl (Rat.not_lt.1 hc)
theorem zLA {a b c:Rat} (h:a<b) (h':b<=c):a<c:=Rat.not_le.1 fun hca=>absurd h (Rat.not_lt.2 (Rat.le_trans h' hca))
def zEW (f:Nat->Bool) (N:Nat):Nat:=match (List.range N).find? (fun k=> !(f k)) with|some k=>k|none=>N
theorem zCn {f:Nat->Bool} {N:Nat} (h: ∀j,j<N->f j=true):zEW f N=N:=by
 unfold zEW
 rw [List.find?_eq_none.2 (fun x hx=>by rw [h x (zV7.1 hx)];simp)]
theorem zDs {f:Nat->Bool} {N k:Nat} (hk:k<N) (h: ∀j,j<k->f j=true) (e:f k=false):zEW f N=k:=by
 unfold zEW
 have:(List.range N).find? (fun k=> !(f k))=some k:=by
  rw [List.find?_range_eq_some]
  exact ⟨by rw [e];rfl,zV7.2 hk,fun j hj=>by rw [h j hj];rfl⟩
 rw [this]
theorem zF4 (f:Nat->Bool) (N:Nat):zEW f N<=N:=by
 unfold zEW
 split
 ·rename_i k h
  exact tY (zV7.1 (List.mem_of_find?_eq_some h))
 ·exact tG _
def zA4 (L:List Rat) (y:Rat):Nat->Nat
 |0=>0
 |k+1=>zA4 L y k+if decide (qsg (qAt L k) y<0)=true then 1 else 0
def zDo (L:List Rat) (y:Rat):Nat->Bool
 |0=>false
 |k+1=>zDo L y k||(qsg (qAt L k) y==0)
theorem zJ1 {L:List Rat} {y:Rat} {k:Nat} (h:decide (qsg (qAt L k) y<0)=true):zA4 L y (k+1)=zA4 L y k+1:=by show _+(if _ then 1 else 0)=_;rw [if_pos h]
theorem zJ3 {L:List Rat} {y:Rat} {k:Nat} (h:decide (qsg (qAt L k) y<0)=false):zA4 L y (k+1)=zA4 L y k:=by show _+(if _ then 1 else 0)=_;rw [if_neg (by rw [h];decide)];rfl
theorem zGG (L:List Rat) (y:Rat): ∀k,zA4 L y k<=k
 |0=>tG _
 |k+1=>by
  have:=zGG L y k
  show _+(if _ then 1 else 0)<=_
  split<;>omega
def zAK (L:List Rat) (y:Rat):Int×Bool:=
 if zEW (fun k=> !(qsg (qAt L k) y==0)) L.length<L.length then (((zEW (fun k=> !(qsg (qAt L k) y==0)) L.length:Nat):Int),true) else (((zA4 L y L.length:Nat):Int) - 1,false)
theorem zDx {L:List Rat} {y:Rat} {k:Nat} (hk:k<L.length) (h: ∀j,j<k->(qsg (qAt L j) y==0)=false) (e:(qsg (qAt L k) y==0)=true):zAK L y=((k:Int),true):=by
 unfold zAK
 rw [zDs hk (fun j hj=>by rw [h j hj];rfl) (by rw [e];rfl),if_pos hk]
theorem zCr {L:List Rat} {y:Rat} (h: ∀j,j<L.length->(qsg (qAt L j) y==0)=false):zAK L y=(((zA4 L y L.length:Nat):Int) - 1,false):=by
 unfold zAK
 rw [zCn (fun j hj=>by rw [h j hj];rfl),if_neg (Nat.lt_irrefl _)]
def zEv (L:List Rat) (k:Nat):Prop:= ∀i,i+1<k->qAt L i<qAt L (i+1)
theorem zEv.lt {L:List Rat} {n:Nat} (h:zEv L n) {i:Nat}: ∀{j:Nat},i<j->j<n->qAt L i<qAt L j
 |0,hij,_=>absurd hij (zV8 _)
 |j+1,hij,hj=>by
  rcases tZ (zVT hij) with e|e
  ·exact zLA (zEv.lt h e oO) (Rat.le_of_lt (h j hj))
  ·subst e;exact h i hj
theorem zFX {L:List Rat} {y:Rat}: ∀{n:Nat},(∀j,j<n->(qsg (qAt L j) y==0)=false)->zDo L y n=false
 |0,_=>rfl
 |n+1,h=>by
  show (zDo L y n||_)=false
  rw [zFX (n:=n) (fun j hj=>h j oO),h n oO]
  rfl
theorem zH0 {L:List Rat} {y:Rat} {k:Nat} (e:(qsg (qAt L k) y==0)=true): ∀{n:Nat},k<n->zDo L y n=true
 |0,h=>absurd h (zV8 _)
 |n+1,h=>by
  show (zDo L y n||_)=true
  rcases tZ (zVT h) with h|h
  ·rw [zH0 e h];rfl
  ·subst h;rw [e,Bool.or_true]
theorem zJ2 {L:List Rat} {y:Rat} {k n:Nat} (hr:zEv L n) (hk:k<n) (e:qAt L k=y): ∀j,j<=k->zA4 L y j=j
 |0,_=>rfl
 |j+1,hj=>by
  have h1:qAt L j<y:=by rw [<-e];exact hr.lt oO hk
  rw [zJ1 (by rw [zHo.2 h1];rfl),zJ2 hr hk e j oO]
theorem zHU {L:List Rat} {y:Rat} {k n:Nat} (hr:zEv L n) (hk:k<n) (e:qAt L k=y): ∀j,k<=j->j<=n->zA4 L y j=k
 |0,h,_=>by rw [Nat.le_zero.1 h];rfl
 | j+1,h,hj=>by
  rcases tZ h with h|h
  ·have h1: ¬qAt L j<y:=by
    rcases tZ (zVT h) with h|h
    ·have:=hr.lt h oO
     rw [e] at this
     exact fun h'=>zV9 (zLA this (Rat.le_of_lt h'))
    ·rw [<-h,e];exact zV9
   rw [zJ3 (by
    rcases zIr (qAt L j) y with e|e|e
    ·exact absurd (zHo.1 e) h1
    ·rw [e];rfl
    ·rw [e];rfl),zHU hr hk e j oO oO]
  ·rw [<-h];exact zJ2 hr hk e k lr
theorem zN2 {L:List Rat} {y:Rat} (hr:zEv L L.length):zAK L y=((if zDo L y L.length=true then ((zA4 L y L.length:Nat):Int) else ((zA4 L y L.length:Nat):Int) - 1),zDo L y L.length):=by
 by_cases h: ∀j,j<L.length->(qsg (qAt L j) y==0)=false
 ·rw [zCr h,zFX h,if_neg dA]
 ·obtain ⟨k,hk,he,hl⟩: ∃k,k<L.length/\(qsg (qAt L k) y==0)=true/\ ∀j,j<k->(qsg (qAt L j) y==0)=false:=by
   have hs:=zF4 (fun k=> !(qsg (qAt L k) y==0)) L.length
   have: ∀N,(¬ ∀j,j<N->(qsg (qAt L j) y==0)=false)-> ∃k,k<N/\(qsg (qAt L k) y==0)=true/\ ∀j,j<k->(qsg (qAt L j) y==0)=false:=by
    intro N
    induction N with
    |zero=>intro h;exact absurd (fun j hj=>absurd hj (zV8 _)) h
    | succ N ih=>
     intro h
     by_cases h': ∀j,j<N->(qsg (qAt L j) y==0)=false
     ·refine ⟨N,by omega, ?_,h'⟩
      cases e:(qsg (qAt L N) y==0) with
      |true=>rfl
      |false=>
       refine absurd (fun j hj=> ?_) h
       rcases tZ (zVT hj) with hj|hj
       ·exact h' j hj
       ·rw [hj];exact e
     ·obtain ⟨k,h1,h2⟩:=ih h'
      exact ⟨k,by omega,h2⟩
   exact this _ h
  rw [zDx hk hl he,zH0 he hk,if_pos rfl,zHU hr hk (zSr.1 (by simpa using he)) L.length oO lr]
def zL8 (L:List Rat) (x:Rat):Nat:=zEW (fun k=>decide (qsg (qAt L k) x<0)) L.length
def zBZ (L:List Rat) (x:Rat):List Rat:=if (decide (zL8 L x<L.length)&&(qsg (qAt L (zL8 L x)) x==0))=true then L else L.take (zL8 L x)++ [x]++L.drop (zL8 L x)
theorem zRb (L:List Rat) (x:Rat):zL8 L x<=L.length:=zF4 _ _
theorem zDE (L:List Rat) (x:Rat):(zBZ L x).length<=L.length+1:=by
 unfold zBZ
 split
 ·omega
 ·have:=zRb L x
  simp
  omega
theorem zGg {L:List Rat} {p x:Rat} (h:x∈zBZ L p):x=p∨x∈L:=by
 unfold zBZ at h
 split at h
 ·exact .inr h
 ·rw [zWa,zWa,List.mem_singleton] at h
  rcases h with (h|h)|h
  ·exact .inr (List.mem_of_mem_take h)
  ·exact .inl h
  ·exact .inr (List.mem_of_mem_drop h)
def zPP (f:Nat->Bool) (N:Nat):Nat:=zEW (fun k=> !(f k)) N
theorem zJV {f:Nat->Bool} {N:Nat} (h: ∀j,j<N->f j=false):zPP f N=N:=zCn fun j hj=>by rw [h j hj];rfl
theorem zMT {f:Nat->Bool} {N k:Nat} (hk:k<N) (h: ∀j,j<k->f j=false) (e:f k=true):zPP f N=k:=zDs hk (fun j hj=>by rw [h j hj];rfl) (by rw [e];rfl)
def zDn (lo hi x:Rat) (l:V2):Rat:=l.1+(x - lo) / (hi - lo)*(l.2 - l.1)
def jN (lo hi x:Rat) (L:List V2):List Rat:=if qsg lo hi≥0 then [] else L.map (zDn lo hi x)
def zBf (a b:V2):Bool:=decide (qsg (a.1+a.2) (b.1+b.2)<0)||((qsg (a.1+a.2) (b.1+b.2)==0)&&decide (qsg a.1 b.1<0))
def zOz (L:List V2) (x:V2):Nat:=zEW (fun k=>zBf (at_ L k) x) L.length
def zH5 (L:List V2) (x:V2):List V2:=if (decide (zOz L x<L.length)&& !(zBf x (at_ L (zOz L x))))=true then L else L.take (zOz L x)++ [x]++L.drop (zOz L x)
theorem zRa (L:List V2) (x:V2):zOz L x<=L.length:=zF4 _ _
theorem zOu (L:List V2) (x:V2):(zH5 L x).length<=L.length+1:=by
 unfold zH5
 split
 ·omega
 ·have:=zRa L x
  simp
  omega
def zH7 (L:List Rat) (x:Rat):Nat->Int
 |0=> -1
 |k+1=>if (((decide (zH7 L x k≥0)||decide (((k+1:Nat):Int)≥(L.length:Int)))||decide (qsg (qAt L k) x>0))||decide (qsg x (qAt L (k+1))≥0))=true then zH7 L x k else k
def qA (L:List Rat) (x:Rat):Int×Bool×Bool:=
 if zPP (fun k=>qsg (qAt L k) x==0) L.length<L.length then (((zPP (fun k=>qsg (qAt L k) x==0) L.length:Nat):Int),true,true)
 else if zH7 L x L.length<0 then (0,false,false) else (zH7 L x L.length,false,true)
theorem zGF {L:List Rat} {y:Rat} {k:Nat} (hk:k<L.length) (h: ∀j,j<k->(qsg (qAt L j) y==0)=false) (e:(qsg (qAt L k) y==0)=true):qA L y=((k:Int),true,true):=by
 unfold qA
 rw [zMT hk h e,if_pos hk]
theorem zNa {L:List Rat} {y:Rat} (h: ∀j,j<L.length->(qsg (qAt L j) y==0)=false):qA L y=if zH7 L y L.length<0 then (0,false,false) else (zH7 L y L.length,false,true):=by
 unfold qA
 rw [zJV h,if_neg (Nat.lt_irrefl _)]
abbrev zAb:=Int×Int×Int×V2
def zFj (k a r:Int) (c:zAb):Bool:=((c.1==k)&&(c.2.1==a))&&(c.2.2.1==r)
def cel (L:List zAb) (k:Nat):zAb:=L.getD k (0,0,0,0,0)
def zEJ (L:List zAb) (k a r:Int):Int:=if zPP (fun i=>zFj k a r (cel L i)) L.length<L.length then ((zPP (fun i=>zFj k a r (cel L i)) L.length:Nat):Int) else -1
def zIN (one two:Int) (at':Int) (x:Rat) (y:List Rat) (mid:Rat->Rat->Rat):Nat->List zAb
 |0=> []
 |k+1=>zIN one two at' x y mid k++(one,at',(k:Int),x,qAt y k)::(if k+1<y.length then [(two,at',(k:Int),x,mid (qAt y k) (qAt y (k+1)))] else [])
open Classical in
noncomputable def qG (p q:Rat):Rat:=if h: ∃S,zCe p q S/\S<=3000 then btw p q h.choose else 0
theorem zRm {p q:Rat} {S:Nat} (h:zCe p q S) (hS:S<=3000):qG p q=btw p q S:=by
 have h': ∃S,zCe p q S/\S<=3000:=⟨S,h,hS⟩
 unfold qG
 rw [dif_pos h',h'.choose_spec.1.unique h]
theorem zRl {p q:Rat} (h:q<=p):qG p q=0:=by
 unfold qG
 rw [dif_neg]
 rintro ⟨S,h1,_⟩
 have:=zP3 h1
 exact absurd (zLA this.1 (Rat.le_trans (Rat.le_of_lt this.2) h)) zV9
theorem zIC {p q:Rat} {m:Nat} (hp:QB p m) (hq:QB q m):QB (qG p q) (m+95):=by
 unfold qG
 split
 ·rename_i h
  exact zTE hp hq h.choose_spec.2
 ·exact QB.zero oO
section
variable {F:Fence} {m:Nat} {P:Wl} {w0:Wg} {ops:Array Oper} {G:Nat->SF} {d:Tmp} {ty:Wi} {pos:String} {aft:Array Edge}
end
section
variable {F:Fence} {m:Nat} {P:Wl} {w0:Wg} {ops:Array Oper} {G:Nat->SF} {d:Tmp} {ty:Wi} {pos:String} {aft:Array Edge}
end
theorem QB.inv {q:Rat} {m:Nat} (h:QB q m):QB q⁻¹ m:=by
 by_cases e:q=0
 ·subst e
  rw [Rat.inv_zero];exact h
 ·have hn:q.num≠0:=fun h0=>e (zMv.1 h0)
  refine vR h.pos (X:=(q.den:Int)) (D:=q.num) ?_ hn (jR h.2) h.1
  have h1:(q.num:Rat)=q*((q.den:Nat):Rat):=zPH q
  rw [h1, <-Rat.mul_assoc,Rat.inv_mul_cancel q e,zGy]
  rfl
theorem QB.div {p q:Rat} {m n:Nat} (h:QB p m) (h':QB q n):QB (p / q) (m+n):=by
 rw [Rat.div_def]
 exact h.mul h'.inv
end Go.Proofs.Wd

namespace Go.Proofs.Wd
open Tryz
set_option maxRecDepth 100000
set_option maxHeartbeats 1000000
open Go.RowKit Lb
def fRW (W0:Wg) (z:Nat) (Cs:List CU):UF:=⟨⟨fun v _=>(SF.row z Cs).p v W0,fun _ _ _ h _=>h⟩,fun _ _ _ h _=>h⟩
section
variable {F:Fence} {m:Nat} {P:Wl} {w0:Wg} {ops:Array Oper} {G:Nat->SF} {d:Tmp} {ty:Wi} {pos:String} {aft:Array Edge}
theorem zC8 {t e':Wi} {ie:TypeInfo} {z:Nat} (hu:P.underlying t=some (.slice e')) (hie:P.info? e'=some ie) (hsz:ie.size=z) (A:Wj Addr) (n c k:Nat) (hk:k<=n) (w:Wg):(Instr.sliceAt t (.slice A n c) (some (.int .i64 (k:Int))) none none).run P w= .ok (.slice (if c=k then A else A.map (·.add (k*z))) (n - k) (c - k)) w:=by
 simp [Instr.sliceAt,Instr.slice,Instr.sliceBounds,run_underlying hu,sizeOf,typeInfo,hie,hsz,go_sem,hk]
theorem zLr {t e':Wi} {ie:TypeInfo} (hu:P.underlying t=some (.slice e')) (hie:P.info? e'=some ie) (A:Wj Addr) (n c k:Nat) (hk:k<=c) (w:Wg):(Instr.sliceAt t (.slice A n c) none (some (.int .i64 (k:Int))) none).run P w= .ok (.slice A k c) w:=by
 simp [Instr.sliceAt,Instr.slice,Instr.sliceBounds,run_underlying hu,sizeOf,typeInfo,hie,go_sem,hk]
theorem zRU {x lo:Wk} {t:Wi} {z k:Nat} {Cs:List CU} (hz:zAM P t=some z) (hk:k<=Cs.length) (hx: ∀v W,Below w0.heap.size w0 W->(fct G x).p v W->(SF.row z Cs).p v W) (hh: ∀v W,(fct G lo).p v W->v= .int .i64 (k:Int)) (hd: ∀v W,(SF.row z (Cs.drop k)).p v W->(G d).p v W:=by exact fun _ _ h=>h):qX F m P w0 ops G ⟨some d, .slice t x (some lo) none none,ty,pos,aft,none⟩:=
 jG (fun _ e=>by cases e) (fun _ e=>by cases e) fun b W hb hp=>by
  obtain ⟨A,c,e,h2,h3,h4,h5⟩:=hx _ _ hb (hp x (by simp [Op.operands]))
  have e2:=hh _ _ (hp lo (by simp [Op.operands]))
  unfold zAM at hz
  split at hz<;>try cases hz
  rename_i e' hu
  obtain ⟨ie,hie,hsz⟩:=zVU.1 hz
  refine ⟨.slice (if c=k then A else A.map (·.add (k*z))) (Cs.length - k) (c - k),by simp [execOp,e,e2,zC8 hu hie hsz A Cs.length c k hk],hd _ _ ⟨_,c - k,by rw [zVV],by rw [zVV];omega,by omega,fun hA=> ?_,fun i C hi=> ?_⟩⟩
  ·split at hA
   ·omega
   ·cases A with
    |none=>have:=h4 rfl;omega
    |some q=>cases hA
  ·rw [List.getElem?_drop] at hi
   have hlt:=(tL.1 hi).1
   obtain ⟨b',o,cs,rfl,h6,h7⟩:=h5 _ C hi
   rw [if_neg oO]
   refine ⟨b',o+k*z,cs,by simp [Addr.add_lit], ?_,h7⟩
   rwa [show o+(k+i)*z=o+k*z+i*z by rw [Nat.add_mul];omega] at h6
theorem zGi {x hi:Wk} {t:Wi} {z k:Nat} {Cs:List CU} (hz:zAM P t=some z) (hk:k<=Cs.length) (hx: ∀v W,Below w0.heap.size w0 W->(fct G x).p v W->(SF.row z Cs).p v W) (hh: ∀v W,(fct G hi).p v W->v= .int .i64 (k:Int)) (hd: ∀v W,(SF.row z (Cs.take k)).p v W->(G d).p v W:=by exact fun _ _ h=>h):qX F m P w0 ops G ⟨some d, .slice t x none (some hi) none,ty,pos,aft,none⟩:=
 jG (fun _ e=>by cases e) (fun _ e=>by cases e) fun b W hb hp=>by
  obtain ⟨A,c,e,h2,h3,h4,h5⟩:=hx _ _ hb (hp x (by simp [Op.operands]))
  have e2:=hh _ _ (hp hi (by simp [Op.operands]))
  unfold zAM at hz
  split at hz<;>try cases hz
  rename_i e' hu
  obtain ⟨ie,hie,hsz⟩:=zVU.1 hz
  have hkc:k<=c:=tF hk h2
  refine ⟨.slice A k c,by simp [execOp,e,e2,zLr hu hie A Cs.length c k hkc],hd _ _ ⟨A,c,by rw [List.length_take,Nat.min_eq_left hk],by rw [List.length_take];omega,h3,h4,fun i C hi=> ?_⟩⟩
  rw [List.getElem?_take] at hi
  split at hi
  ·exact h5 i C hi
  ·cases hi
theorem zDb {W0:Wg} {l0:Wh} {x lo:Wk} {t:Wi} {z k:Nat} {Cs:List CU} (hz:zAM P t=some z) (hk:k<=Cs.length) (hl:(SF.row z Cs).p l0 W0) (hx: ∀v W,(fct G x).p v W->v=l0) (hh: ∀v W,(fct G lo).p v W->v= .int .i64 (k:Int)) (hd: ∀v W,(SF.row z (Cs.drop k)).p v W0->(G d).p v W):qX F m P w0 ops G ⟨some d, .slice t x (some lo) none none,ty,pos,aft,none⟩:=
 jG (fun _ e=>by cases e) (fun _ e=>by cases e) fun b W hb hp=>by
  have e0:=hx _ _ (hp x (by simp [Op.operands]))
  obtain ⟨A,c,e,h2,h3,h4,h5⟩:=hl
  have e2:=hh _ _ (hp lo (by simp [Op.operands]))
  rw [e] at e0
  unfold zAM at hz
  split at hz<;>try cases hz
  rename_i e' hu
  obtain ⟨ie,hie,hsz⟩:=zVU.1 hz
  refine ⟨.slice (if c=k then A else A.map (·.add (k*z))) (Cs.length - k) (c - k),by simp [execOp,e0,e2,zC8 hu hie hsz A Cs.length c k hk],hd _ _ ⟨_,c - k,by rw [zVV],by rw [zVV];omega,by omega,fun hA=> ?_,fun i C hi=> ?_⟩⟩
  ·split at hA
   ·omega
   ·cases A with
    |none=>have:=h4 rfl;omega
    |some q=>cases hA
  ·rw [List.getElem?_drop] at hi
   have hlt:=(tL.1 hi).1
   obtain ⟨b',o,cs,rfl,h6,h7⟩:=h5 _ C hi
   rw [if_neg oO]
   refine ⟨b',o+k*z,cs,by simp [Addr.add_lit], ?_,h7⟩
   rwa [show o+(k+i)*z=o+k*z+i*z by rw [Nat.add_mul];omega] at h6
end
theorem zDj {P:Wl} {w0:Wg} {ops:Array Oper} {G:Nat->SF} {d:Tmp} {ty:Wi} {pos:String} {aft:Array Edge} {W0:Wg} {l0:Wh} {x lo:Wk} {t:Wi} {z k:Nat} {Cs:List CU} (hz:zAM P t=some z) (hk:k<=Cs.length) (hl:(SF.row z Cs).p l0 W0) (hx: ∀v W,(fct G x).p v W->v=l0) (hh: ∀v W,(fct G lo).p v W->v= .int .i64 (k:Int)):zKl P w0 ops G ⟨some d, .slice t x (some lo) none none,ty,pos,aft,none⟩:=
 zMU (fun _ e=>by cases e) fun b W _ hp=>by
  have e0:=hx _ _ (hp x (by simp [Op.operands]))
  obtain ⟨A,c,e,h2,h3,h4,h5⟩:=hl
  have e2:=hh _ _ (hp lo (by simp [Op.operands]))
  rw [e] at e0
  unfold zAM at hz
  split at hz<;>try cases hz
  rename_i e' hu
  obtain ⟨ie,hie,hsz⟩:=zVU.1 hz
  exact ⟨.slice (if c=k then A else A.map (·.add (k*z))) (Cs.length - k) (c - k),fun W' _=>by simp [execOp,e0,e2,zC8 hu hie hsz A Cs.length c k hk]⟩
section
variable {S:Nat->Prop} {F:Fence} {m:Nat} {P:Wl} {Q:Exit->Act->Wg->Prop} {w0:Wg} {K:List (Nat×KF)} {B:List Bx} {n:Nat} {ds:List Deferred} {a:Act} {w:Wg}
theorem zPs {ops:Array Oper} {k d:Nat} {x:Wk} {ty:Wi} {pos:String} {aft:Array Edge} (f:UF) (ho:ops[k]?=some ⟨some d, .assign x,ty,pos,aft,none⟩) (h:StS S w0 K B n ds a w) (hf:zAD K B n d=true) (hx: ∀v W,(Wd.fct (zAc K B) x).p v W->f.p v W)
  (fin: ∀a,StS S w0 ((d, .u f)::K) B n ds a w->zBx F m P ops Q (k+1) a w):zBx F m P ops Q k a w:=
 zBe ho rfl (zB3 (fun _ e=>by cases e) (fun _ e=>by cases e) (W':=w) (v:=a.eval x) rfl (fin _ (h.set hf (tN _ _) (hx _ _ (h.fct x)))))
end
theorem zOA (ps:List V2) (k:Nat):(pns ps).take k=pns (ps.take k):=by unfold pns;rw [List.map_take]
theorem zOC (ps:List V2) (k:Nat):(pns ps).drop k=pns (ps.drop k):=by unfold pns;rw [List.map_drop]
theorem zL9 (a b:List V2) (p:V2):pns a++pns [p]++pns b=pns (a++ [p]++b):=by simp [pns]
theorem zUb {cs:List Wh} (h:cs.length=6): ∃u0 u1 u2 u3 u4 u5,cs= [u0,u1,u2,u3,u4,u5]:=by
 match cs,h with
 | [u0,u1,u2,u3,u4,u5],_=>exact ⟨u0,u1,u2,u3,u4,u5,rfl⟩
theorem zPE {f g:UF} {v:Wh} {W:Wg} (h:(fPT f g).p v W): ∃u0 u1 u2 u3 u4 u5,v= .agg #[u0,u1,u2,u3,u4,u5]/\(CU.agg (fPT f g)).p [u0,u1,u2,u3,u4,u5] W:=by
 obtain ⟨vs,rfl,hl,_,_,hc⟩:=zBo v W h
 obtain ⟨u0,u1,u2,u3,u4,u5,rfl⟩:=zUb hl
 exact ⟨u0,u1,u2,u3,u4,u5,rfl,hc⟩
theorem zOd {m:Nat} {W:Wg} {u v:Wh} {p q:V2} (h1:(fPV m p).p u W) (h2:(fPV m q).p v W) (hm:m<=990) (hm0:0<m):Calls prog 13 #[u,v] W (Ret W (fB (zKY p q==0)).tS):=by
 refine z9 [(fPV m p).tS,(fPV m q).tS] func13 rfl kH ⟨h1,h2,trivial⟩ fun a s=> ?_
 refine sX ?_
 refine zC 0 [] hmix s kH
  zD fun a w1 s=> ?_
 refine yD (CU.agg (fPV m p)) rfl s kH (fun v W h=>zAB h) fun b2 a w s=> ?_
 refine yD (CU.agg (fPV m q)) rfl s kH (fun v W h=>zAB h) fun b3 a w s=> ?_
 refine zS (uB false) rfl s kH iiz fun a w s=> ?_
 refine zA rfl ?_
 refine sX ?_
 replace s:=s.drop [4]
 refine zC 5 ((5, .Z (fPV m p))::(6, .Z (fPV m q))::(7, .Z (uI (zKY p q)))::(8, .Z (uB (zKY p q==0)))::(4, .u (uB (zKY p q==0))):: []) hmix s kH
  (oc (zI (f:=fPV m p) 6 kH (hz:=jF _ _))<|oc (zI (f:=fPV m q) 6 kH (hz:=jF _ _))<|oc (zJ zE zUI (fun u0 u1 W hb (h0:(fPV m p).p u0 W) (h1:(fPV m q).p u1 W)=>zQR h0 h1 hm hm0))<|oc (zO .i64 (zKY p q) 0 (zKY p q==0) iiz iiz rfl rfl)<|oc zF<|zD) fun a w2 s=> ?_
 refine zA rfl ?_
 refine sY ?_
 exact wJ s (t:=4) rfl iiz
section
variable {F:Fence} {m:Nat} {P:Wl} {w0:Wg} {ops:Array Oper} {G:Nat->SF} {d:Tmp} {ty:Wi} {pos:String} {aft:Array Edge}
theorem zAi {f:FuncId} {x y z r:Wk} {ats:Array Wi} (hF:zIU F m P) (he:Enters P f) (h: ∀u v q s W,Below w0.heap.size w0 W->(fct G x).p u W->(fct G y).p v W->(fct G z).p q W->(fct G r).p s W->Calls P f #[u,v,q,s] W (Ret W (G d))):qX F m P w0 ops G ⟨some d, .call ⟨.value (.func f),#[x,y,z,r],ats⟩,ty,pos,aft,none⟩:=
 zCT hF he fun b W hb hh=>by simpa using h _ _ _ _ W hb (hh x (by simp)) (hh y (by simp)) (hh z (by simp)) (hh r (by simp))
theorem zMn {f:FuncId} {x y z r t:Wk} {ats:Array Wi} (hF:zIU F m P) (he:Enters P f) (h: ∀u v q s k W,Below w0.heap.size w0 W->(fct G x).p u W->(fct G y).p v W->(fct G z).p q W->(fct G r).p s W->(fct G t).p k W->Calls P f #[u,v,q,s,k] W (Ret W (G d))):qX F m P w0 ops G ⟨some d, .call ⟨.value (.func f),#[x,y,z,r,t],ats⟩,ty,pos,aft,none⟩:=
 zCT hF he fun b W hb hh=>by simpa using h _ _ _ _ _ W hb (hh x (by simp)) (hh y (by simp)) (hh z (by simp)) (hh r (by simp)) (hh t (by simp))
end
/-! ### Answers of two or three parts -/
theorem wN {w0:Wg} {K:List (Nat×KF)} {B:List Bx} {n:Nat} {a:Act} {w:Wg} {P:Wl} (h:St w0 K B n [] a w) {fn:Func} (f g:UF) {t r:Nat} (hr:fn.results=#[.tmp t, .tmp r]) (h1: ∀v W,(zAc K B t).p v W->f.p v W) (h2: ∀v W,(zAc K B r).p v W->g.p v W):bodyPost P fn (Ret w0 (yU f g).tS) .ret a w:=by
 refine ⟨h.nd, .tuple #[a.tmps.getD t undef,a.tmps.getD r undef], ?_,⟨_,rfl,⟨_,_,rfl,h1 _ _ (h.at.sl t),h2 _ _ (h.at.sl r)⟩,h.gr.below⟩⟩
 simp [results,hr]
theorem vF {w0:Wg} {K:List (Nat×KF)} {B:List Bx} {n:Nat} {a:Act} {w:Wg} {P:Wl} (h:St w0 K B n [] a w) {fn:Func} (f g k:UF) {t r q:Nat} (hr:fn.results=#[.tmp t, .tmp r, .tmp q]) (h1: ∀v W,(zAc K B t).p v W->f.p v W) (h2: ∀v W,(zAc K B r).p v W->g.p v W) (h3: ∀v W,(zAc K B q).p v W->k.p v W):bodyPost P fn (Ret w0 (zBu f g k).tS) .ret a w:=by
 refine ⟨h.nd, .tuple #[a.tmps.getD t undef,a.tmps.getD r undef,a.tmps.getD q undef], ?_,⟨_,rfl,⟨_,_,_,rfl,h1 _ _ (h.at.sl t),h2 _ _ (h.at.sl r),h3 _ _ (h.at.sl q)⟩,h.gr.below⟩⟩
 simp [results,hr]
/-! ### Rows of rows -/
def lls {α:Type} (L:List (Wh×α)):List CU:=L.map fun x=>wE [x.1]
def zNu {α:Type} (z:Nat) (C:α->List CU) (L:List (Wh×α)) (W:Wg):Prop:= ∀x,x∈L->(SF.row z (C x.2)).p x.1 W
theorem zNu.below {α:Type} {z:Nat} {C:α->List CU} {L:List (Wh×α)} {W W':Wg} (h:zNu z C L W) (hb:Below W.heap.size W W'):zNu z C L W':=fun x hx=>(SF.row z _).st _ _ _ (h x hx) hb
theorem zNu.nil {α:Type} (z:Nat) (C:α->List CU) (W:Wg):zNu z C [] W:=fun x hx=>by cases hx
def llg {α:Type} (d:α) (L:List (Wh×α)) (k:Nat):Wh×α:=L.getD k (.slice none 0 0,d)
theorem qN {α:Type} {d:α} {L:List (Wh×α)} {k:Nat} (h:k<L.length):llg d L k∈L:=by
 unfold llg;rw [zVR,tD h];exact List.getElem_mem h
theorem zB7 {α:Type} {d:α} {L:List (Wh×α)} {k:Nat} (h:k<L.length):(lls L)[k]?=some (wE [(llg d L k).1]):=by
 unfold llg lls
 rw [tM,tD h,zVR,tD h];rfl
theorem zBC {α:Type} (L:List (Wh×α)):(lls L).length=L.length:=by simp [lls]
theorem zJO {α:Type} (L:List (Wh×α)) (x:Wh×α):lls L++ [wE [x.1]]=lls (L++ [x]):=by simp [lls]
theorem zBH {z:Nat} {Cs:List CU} {u:Wh} {W:Wg} (h:(SF.row z Cs).p u W): ∃A n c,u= .slice A n c:=by
 obtain ⟨A,c,e,_⟩:=h
 exact ⟨A,_,c,e⟩
theorem zSW {u:Wh} (h: ∃A n c,u= .slice A n c):CU.ok 1 (wE [u]):=fun cs W hc=>by
 obtain ⟨A,n,c,rfl⟩:=h
 obtain rfl:cs= [.slice A n c]:=hc
 refine ⟨rfl,rfl,fun x hx=> ?_⟩
 rw [List.mem_singleton.1 hx];rfl
theorem sRr (A:Wj Addr) (n c:Nat):yA prog 40 1 [(0, .slice A n c)]=some (28,#[.slice A n c]):=by kernel_rfl
theorem sRl (A:Wj Addr) (n c:Nat):yA prog 39 1 [(0, .slice A n c)]=some (93,#[.slice A n c]):=by kernel_rfl
theorem zVu (s:Bool) (A A':Wj Addr) (n n' c c':Nat):yA prog 28 1 [(0, .agg #[.bool s, .slice A n c, .slice A' n' c'])]=some (27,#[.bool s, .slice A n c, .slice A' n' c']):=by kernel_rfl
theorem zI9 {f:UF} (hf:zP9 f) {u:Wh} {W:Wg} (h:f.p u W): ∃e cs,yA prog 28 1 [(0,u)]=some (e,cs)/\(SF.row 3 [CU.agg f]).p (.slice (some ⟨W.heap.size,0,none⟩) 1 1) (W.alloc (.cells cs e)):=by
 obtain ⟨s,A,n,c,A',n',c',rfl⟩:=hf _ _ h
 refine ⟨_,_,zVu _ _ _ _ _ _ _,zGb (Cs:= [CU.agg f]) (cs:= [.bool s, .slice A n c, .slice A' n' c']) (by simp) fun i C hi=> ?_⟩
 have hlt:=(tL.1 hi).1
 simp at hlt
 subst hlt
 obtain rfl:CU.agg f=C:=by simpa using hi
 exact ⟨_,fun j u hj=>by simpa using hj,h⟩
theorem zVw (s:Bool) (A A':Wj Addr) (n n' c c':Nat) (s2:Bool) (B B':Wj Addr) (k k' d d':Nat):yA prog 93 1 [(0, .agg #[.bool s, .slice A n c, .slice A' n' c', .bool s2, .slice B k d, .slice B' k' d'])]=some (132,#[.bool s, .slice A n c, .slice A' n' c', .bool s2, .slice B k d, .slice B' k' d']):=by kernel_rfl
theorem zSa {f g:UF} {u:Wh} {W:Wg} (h:(fPT f g).p u W): ∃e cs,yA prog 93 1 [(0,u)]=some (e,cs)/\(SF.row 6 [CU.agg (fPT f g)]).p (.slice (some ⟨W.heap.size,0,none⟩) 1 1) (W.alloc (.cells cs e)):=by
 obtain ⟨s,A,n,c,A',n',c',s2,B,k,d,B',k',d',rfl,h1,h2⟩:=id h
 refine ⟨_,_,zVw _ _ _ _ _ _ _ _ _ _ _ _ _ _,zGb (Cs:= [CU.agg (fPT f g)]) (cs:= [.bool s, .slice A n c, .slice A' n' c', .bool s2, .slice B k d, .slice B' k' d']) (by simp) fun i C hi=> ?_⟩
 have hlt:=(tL.1 hi).1
 simp at hlt
 subst hlt
 obtain rfl:CU.agg (fPT f g)=C:=by simpa using hi
 exact ⟨_,fun j u hj=>by simpa using hj,h⟩
theorem bLv (s:Bool) (A A':Wj Addr) (n n' c c':Nat) (s2:Bool) (B B':Wj Addr) (k k' d d':Nat):prog.built 132 [(0, .agg #[.bool s, .slice A n c, .slice A' n' c']),(1, .agg #[.bool s2, .slice B k d, .slice B' k' d'])]=some #[.bool s, .slice A n c, .slice A' n' c', .bool s2, .slice B k d, .slice B' k' d']:=by kernel_rfl
theorem zVf {f g:UF} {u v:Wh} {W:Wg} (hf:zP9 f) (hg:zP9 g) (hu:f.p u W) (hv:g.p v W): ∃cells,prog.built 132 [(0,u),(1,v)]=some cells/\(fPT f g).p (.agg cells) W:=by
 obtain ⟨s,A,n,c,A',n',c',rfl⟩:=hf _ _ hu
 obtain ⟨s2,B,k,d,B',k',d',rfl⟩:=hg _ _ hv
 exact ⟨_,bLv _ _ _ _ _ _ _ _ _ _ _ _ _ _,s,A,n,c,A',n',c',s2,B,k,d,B',k',d',rfl,hu,hv⟩
abbrev qls (l:List Rat):List CU:=l.map fun q=>CU.agg (fQN q)
theorem zPy {f:UF} (hf:zP9 f):CU.ok 3 (CU.agg f):=fun cs W h=>by
 obtain ⟨s,A,n,c,A',n',c',e⟩:=hf _ _ h
 have e2:cs= [.bool s, .slice A n c, .slice A' n' c']:=by
  have:=tQ Array.toList (zAz e)
  simpa using this
 subst e2
 refine ⟨rfl,rfl,fun u hu=> ?_⟩
 simp only [tW,List.not_mem_nil,or_false] at hu
 rcases hu with rfl|rfl|rfl<;>rfl
theorem zBY (qs:List Rat): ∀C,C∈qls qs->CU.ok 3 C:=fun C hC=>by
 obtain ⟨q,_,rfl⟩:=List.mem_map.1 hC
 exact zPy (jZ q)
theorem zAS {qs:List Rat} {i:Nat} (h:i<qs.length):(qls qs)[i]?=some (CU.agg (fQN (qAt qs i))):=by
 unfold qls qAt;rw [tM,tD h];rfl
theorem zEl {m:Nat} {qs:List Rat} {i:Nat} (h:i<qs.length):(rvs m qs)[i]?=some (CU.agg (fRV m (qAt qs i))):=by
 unfold rvs qAt;rw [tM,tD h];rfl
theorem zJx (qs:List Rat) (k:Nat):(qls qs).take k=qls (qs.take k):=by unfold qls;rw [List.map_take]
theorem zJy (qs:List Rat) (k:Nat):(qls qs).drop k=qls (qs.drop k):=by unfold qls;rw [List.map_drop]
theorem zHq (a b:List Rat) (p:Rat):qls a++qls [p]++qls b=qls (a++ [p]++b):=by simp [qls]
theorem zIt {qs:List Rat} {m:Nat} (hp: ∀q,q∈qs->QB q m) (v:Wh) (W:Wg) (hv:(SF.row 3 (qls qs)).p v W):(SF.row 3 (rvs m qs)).p v W:=
 zLv (by simp) (fun i C D hC hD cs W h=>by
  have hi:i<qs.length:=by have:=(tL.1 hC).1;simpa using this
  rw [zAS hi] at hC
  rw [zEl hi] at hD
  cases hC;cases hD
  exact wD h (hp _ (qU hi))) v W hv
/-! ### Cells -/
def CEp (k a r:Int) (f:UF) (v:Wh) (w:Wg):Prop:= ∃p:List Wh,v= .agg (.int .i8 k:: .int .i64 a:: .int .i64 r::p).toArray/\(CU.agg f).p p w
def fCE (k a r:Int) (f:UF):UF:= .mk' (CEp k a r f) fun _ _ _ ⟨p,e,h⟩ u=>⟨p,e,(CU.agg f).us _ _ _ h u⟩
abbrev fCN (c:zAb):UF:=fCE c.1 c.2.1 c.2.2.1 (fPN c.2.2.2)
section
variable {k a r:Int} {f g:UF}
theorem zEN {cs:List Wh} {W:Wg} (h:(CU.agg (fCE k a r (fPT f g))).p cs W): ∃p:List Wh,cs= .int .i8 k:: .int .i64 a:: .int .i64 r::p/\p.length=6/\(CU.agg (fPT f g)).p p W:=by
 obtain ⟨p,e,h1⟩:=h
 have:=tQ Array.toList (zAz e)
 have this:cs= .int .i8 k:: .int .i64 a:: .int .i64 r::p:=this
 exact ⟨p,this,(zHu _ _ p W h1).1,h1⟩
theorem zRM:CU.ok 9 (CU.agg (fCE k a r (fPT f g))):=fun cs W h=>by
 obtain ⟨p,rfl,l,h1⟩:=zEN h
 have o:=zHu _ _ p W h1
 refine ⟨by simp [l],by simpa [List.all_cons,yR] using o.2.1,fun u hu=> ?_⟩
 simp only [tW] at hu
 rcases hu with rfl|rfl|rfl|hu
 ·rfl
 ·rfl
 ·rfl
 ·exact o.2.2 u hu
theorem zTB: ∀cs:List Wh, ∀W,(fCE k a r (fPT f g)).p (.agg cs.toArray) W->cs.length=9:=fun cs W h=>(zRM cs W h).1
theorem zIQ (cs:List Wh) (W:Wg) (h:(CU.agg (fCE k a r (fPT f g))).p cs W): ∃u,cs[0]?=some u/\u= .int .i8 k:=by
 obtain ⟨p,rfl,_⟩:=zEN h;exact ⟨_,rfl,rfl⟩
theorem zUV (cs:List Wh) (W:Wg) (h:(CU.agg (fCE k a r (fPT f g))).p cs W): ∃u,cs[1]?=some u/\u= .int .i64 a:=by
 obtain ⟨p,rfl,_⟩:=zEN h;exact ⟨_,rfl,rfl⟩
theorem zTA (cs:List Wh) (W:Wg) (h:(CU.agg (fCE k a r (fPT f g))).p cs W): ∃u,cs[2]?=some u/\u= .int .i64 r:=by
 obtain ⟨p,rfl,_⟩:=zEN h;exact ⟨_,rfl,rfl⟩
end
theorem zVx (k a r:Int) (s:Bool) (A A':Wj Addr) (n n' c c':Nat) (s2:Bool) (B B':Wj Addr) (i i' d d':Nat):yA prog 41 1 [(0, .agg #[.int .i8 k, .int .i64 a, .int .i64 r, .bool s, .slice A n c, .slice A' n' c', .bool s2, .slice B i d, .slice B' i' d'])]=some (54,#[.int .i8 k, .int .i64 a, .int .i64 r, .bool s, .slice A n c, .slice A' n' c', .bool s2, .slice B i d, .slice B' i' d']):=by kernel_rfl
theorem zJa {k a r:Int} {f g:UF} {u:Wh} {W:Wg} (h:(fCE k a r (fPT f g)).p u W): ∃e cs,yA prog 41 1 [(0,u)]=some (e,cs)/\(SF.row 9 [CU.agg (fCE k a r (fPT f g))]).p (.slice (some ⟨W.heap.size,0,none⟩) 1 1) (W.alloc (.cells cs e)):=by
 obtain ⟨p,rfl,hp⟩:=id h
 obtain ⟨s,A,n,c,A',n',c',s2,B,i,d,B',i',d',e,h1,h2⟩:=id hp
 have e:=zHV e
 subst e
 refine ⟨_,_,zVx _ _ _ _ _ _ _ _ _ _ _ _ _ _ _ _ _,zGb (Cs:= [CU.agg (fCE k a r (fPT f g))]) (cs:= [.int .i8 k, .int .i64 a, .int .i64 r, .bool s, .slice A n c, .slice A' n' c', .bool s2, .slice B i d, .slice B' i' d']) (by simp) fun j C hj=> ?_⟩
 have hlt:=(tL.1 hj).1
 simp at hlt
 subst hlt
 obtain rfl:CU.agg (fCE k a r (fPT f g))=C:=by simpa using hj
 exact ⟨_,fun j u hj=>by simpa using hj,h⟩
theorem bCe (k a r:Int) (s:Bool) (A A':Wj Addr) (n n' c c':Nat) (s2:Bool) (B B':Wj Addr) (i i' d d':Nat):prog.built 54 [(0, .int .i8 k),(1, .int .i64 a),(2, .int .i64 r),(3, .agg #[.bool s, .slice A n c, .slice A' n' c', .bool s2, .slice B i d, .slice B' i' d'])]=some #[.int .i8 k, .int .i64 a, .int .i64 r, .bool s, .slice A n c, .slice A' n' c', .bool s2, .slice B i d, .slice B' i' d']:=by kernel_rfl
theorem zTS {k a r:Int} {f g:UF} {u v x y:Wh} {W:Wg} (hu:u= .int .i8 k) (hv:v= .int .i64 a) (hx:x= .int .i64 r) (hy:(fPT f g).p y W): ∃cells,prog.built 54 [(0,u),(1,v),(2,x),(3,y)]=some cells/\(fCE k a r (fPT f g)).p (.agg cells) W:=by
 subst hu hv hx
 obtain ⟨s,A,n,c,A',n',c',s2,B,i,d,B',i',d',rfl,h1,h2⟩:=id hy
 exact ⟨_,bCe _ _ _ _ _ _ _ _ _ _ _ _ _ _ _ _ _, [.bool s, .slice A n c, .slice A' n' c', .bool s2, .slice B i d, .slice B' i' d'],rfl,hy⟩
abbrev ces (L:List zAb):List CU:=L.map fun c=>CU.agg (fCN c)
theorem zIO {L:List zAb} {i:Nat} (h:i<L.length):(ces L)[i]?=some (CU.agg (fCN (cel L i))):=by
 unfold ces cel;rw [tM,zVR,tD h];rfl
theorem zFq (L:List zAb): ∀C,C∈ces L->CU.ok 9 C:=fun C hC=>by
 obtain ⟨c,_,rfl⟩:=List.mem_map.1 hC
 exact zRM
theorem zDl (a b:List zAb):ces a++ces b=ces (a++b):=by simp [ces]
def PRp (u v:UF) (x:Wh) (w:Wg):Prop:= ∃a b:List Wh,x= .agg (a++b).toArray/\(CU.agg u).p a w/\(CU.agg v).p b w
def fPR (u v:UF):UF:= .mk' (PRp u v) fun _ _ _ ⟨a,b,e,h1,h2⟩ k=>⟨a,b,e,(CU.agg u).us _ _ _ h1 k,(CU.agg v).us _ _ _ h2 k⟩
section
variable {f g f' g':UF}
theorem zB0 {cs:List Wh} {W:Wg} (h:(CU.agg (fPR (fPT f g) (fPT f' g'))).p cs W): ∃a b:List Wh,cs=a++b/\a.length=6/\b.length=6/\(CU.agg (fPT f g)).p a W/\(CU.agg (fPT f' g')).p b W:=by
 obtain ⟨a,b,e,h1,h2⟩:=h
 have:=tQ Array.toList (zAz e)
 have this:cs=a++b:=this
 exact ⟨a,b,this,(zHu _ _ a W h1).1,(zHu _ _ b W h2).1,h1,h2⟩
theorem zKy:CU.ok 12 (CU.agg (fPR (fPT f g) (fPT f' g'))):=fun cs W h=>by
 obtain ⟨a,b,rfl,l1,l2,h1,h2⟩:=zB0 h
 have o1:=zHu _ _ a W h1;have o2:=zHu _ _ b W h2
 refine ⟨by simp [l1,l2],by rw [List.all_append,o1.2.1,o2.2.1];rfl,fun u hu=> ?_⟩
 rcases zWa.1 hu with hu|hu
 ·exact o1.2.2 u hu
 ·exact o2.2.2 u hu
theorem zJB: ∀cs:List Wh, ∀W,(fPR (fPT f g) (fPT f' g')).p (.agg cs.toArray) W->cs.length=12:=fun cs W h=>(zKy cs W h).1
theorem zFN {v:Wh} {W:Wg} (h:(fPR (fPT f g) (fPT f' g')).p v W):(CU.agg (fPR (fPT f g) (fPT f' g'))).p v.cells.toList W/\v.cells.toList.all yR=true:=by
 obtain ⟨a,b,rfl,h1⟩:=id h
 exact ⟨h,(zKy _ W h).2.1⟩
theorem zEG (v:Wh) (W:Wg) (h:(fPR (fPT f g) (fPT f' g')).p v W): ∃vs:List Wh,v= .agg vs.toArray/\vs.length=12/\(∀u,u∈vs->u.oneCell'=true)/\vs.all yR=true/\(CU.agg (fPR (fPT f g) (fPT f' g'))).p vs W:=by
 obtain ⟨a,b,rfl,h1⟩:=id h
 have:=zKy _ W h
 exact ⟨_,rfl,this.1,this.2.2,this.2.1,h⟩
theorem zSD (cs:List Wh) (W:Wg) (h:(CU.agg (fPR (fPT f g) (fPT f' g'))).p cs W):0+6<=cs.length/\(fPT f g).p (.agg ((cs.drop 0).take 6).toArray) W:=by
 obtain ⟨a,b,rfl,l1,l2,h1,_⟩:=zB0 h
 refine ⟨by simp [l1,l2], ?_⟩
 rw [List.drop_zero,zWd oO,List.take_of_length_le oO]
 exact h1
theorem zSC (cs:List Wh) (W:Wg) (h:(CU.agg (fPR (fPT f g) (fPT f' g'))).p cs W):6+6<=cs.length/\(fPT f' g').p (.agg ((cs.drop 6).take 6).toArray) W:=by
 obtain ⟨a,b,rfl,l1,l2,_,h2⟩:=zB0 h
 refine ⟨by simp [l1,l2], ?_⟩
 rw [zWe oO,List.drop_of_length_le oO,tX,List.take_of_length_le oO]
 exact h2
theorem zOy (cs:List Wh) (W:Wg) (h:(CU.agg (fPR (fPT f g) (fPT f' g'))).p cs W):3+3<=cs.length/\g.p (.agg ((cs.drop 3).take 3).toArray) W:=by
 obtain ⟨a,b,rfl,l1,l2,h1,_⟩:=zB0 h
 refine ⟨by simp [l1,l2], ?_⟩
 have:=(zH6 a W h1).2
 rwa [zWe oO,zWd (by simp;omega)]
theorem zOx (cs:List Wh) (W:Wg) (h:(CU.agg (fPR (fPT f g) (fPT f' g'))).p cs W):9+3<=cs.length/\g'.p (.agg ((cs.drop 9).take 3).toArray) W:=by
 obtain ⟨a,b,rfl,l1,l2,_,h2⟩:=zB0 h
 refine ⟨by simp [l1,l2], ?_⟩
 have:=(zH6 b W h2).2
 rwa [show 9=a.length+3 by omega,List.drop_append,List.drop_of_length_le oO,tX,Nat.add_sub_cancel_left]
end
section
variable {F:Fence} {m:Nat} {P:Wl} {u w0:Wg} {ops:Array Oper} {G:Nat->SF} {d:Tmp} {ty:Wi} {pos:String} {aft:Array Edge}
variable {l:Wh} {x y:Wk} {t:Wi} {z:Nat} {Cs:List CU} {i:Nat} {C:CU}
end
section
variable {S:Nat->Prop} {w0:Wg} {K:List (Nat×KF)} {B:List Bx} {n:Nat} {ds:List Deferred} {a:Act} {w:Wg}
end
end Go.Proofs.Wd
