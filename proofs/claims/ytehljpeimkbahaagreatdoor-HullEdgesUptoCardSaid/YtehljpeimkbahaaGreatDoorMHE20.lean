/- Natural numbers as values; the walks of gcd's Reduce, Lcm, Coprime; Th and what it needs. -/
import Derived.Test.YtehljpeimkbahaaGreatDoorMHE18
import Derived.Test.YtehljpeimkbahaaGreatDoorMHE13
import Derived.Test.YtehljpeimkbahaaGreatDoorMHE7
import Derived.Test.YtehljpeimkbahaaGreatDoorMHE19
import Derived.Test.YtehljpeimkbahaaGreatDoorMHE17
import Derived.Test.YtehljpeimkbahaaGreatDoorMHE6
import Derived.Test.YtehljpeimkbahaaGreatDoorMHE1
import Derived.Test.YtehljpeimkbahaaGreatDoorMHE9
import Derived.Test.YtehljpeimkbahaaGreatDoorMHE16
theorem kH {P:Prop} (h:P:=by kernel_rfl):P:=h
theorem oO {P:Prop} (h:P:=by omega):P:=h
theorem dA {P:Prop} (h:P:=by decide):P:=h
abbrev tX:=@Go.wpIn_seq
abbrev tY:=@Go.wpIn_ret
abbrev tZ:=@Nat.lt_of_le_of_lt
abbrev zDQ:=@List.getElem?_eq_some_iff
abbrev zGf:=@of_decide_eq_true
abbrev zV3:=@Nat.le_refl
abbrev zV4:=@Nat.zero_le
abbrev zV5:=@Go.RowKit.Below.refl
abbrev zV6:=@Go.wpIn_skip
abbrev zV7:=@Nat.le_trans
abbrev zV8:=@Nat.lt_of_lt_of_le
abbrev zV9:=@Nat.div_le_self
abbrev zWa:=@Go.wpIn_block
abbrev zWb:=@Nat.pow_le_pow_right
abbrev zWc:=@decide_eq_true
abbrev zWd:=@List.nil_append
abbrev zWe:=@congrArg
abbrev zWf:=@Nat.eq_zero_or_pos
abbrev zWg:=@decide_eq_false
abbrev zWh:=@Option.some.inj
abbrev zWi:=@Go.KeepsOthers.setCell
abbrev zWj:=@of_decide_eq_false
abbrev zWk:=@Go.wpIn_exit
abbrev zWl:=@List.mem_append
abbrev zWm:=@List.take_of_length_le
abbrev zWn:=@Rat.mkRat_zero
abbrev zWo:=@Nat.le_of_lt
abbrev zWp:=@Rat.one_mul
abbrev zWq:=@Nat.mul_assoc
abbrev zWr:=@Bool.and_eq_true
abbrev zWs:=@List.getElem?_eq_getElem
abbrev zWt:=@List.length_map
abbrev zWu:=@List.take_append_of_le_length
abbrev zWv:=@List.drop_append_of_le_length
abbrev zWw:=@List.drop_of_length_le
abbrev zWx:=@Option.map_eq_some_iff
abbrev zWy:=@List.length_drop
abbrev zWz:=@List.mem_cons
abbrev zWA:=@Go.World.block_lt_of_cell?
abbrev zWB:=@List.size_toArray
abbrev zWC:=@List.length_cons
abbrev zWD:=@List.length_nil
abbrev zWE:=@Array.replicate_succ
abbrev zWF:=@Array.replicate_zero
abbrev zWG:=@List.push_toArray
abbrev zWH:=@List.append_toArray
abbrev zWI:=@List.cons_append
abbrev zWJ:=@Classical.byContradiction
abbrev zWK:=@Int.tdiv_eq_ediv_of_nonneg
abbrev zWL:=@Rat.num_eq_zero
abbrev zWM:=@List.getD_eq_getElem?_getD
abbrev zWN:=@Nat.lt_or_eq_of_le
abbrev zWO:=@List.drop_zero
abbrev zWP:=@List.mem_range
abbrev zWQ:=@Nat.gcd_pos_of_pos_right
abbrev zWR:=@Int.sign_eq_neg_one_of_neg
abbrev Wi:=Go.World
abbrev Wj:=Go.Value
abbrev Wk:=Go.TypeId
abbrev Wl:=Option
abbrev Wm:=Go.Operand
abbrev Wn:=Go.Program
namespace Go.Proofs.Wd
open Tryz
set_option maxHeartbeats 1000000
open Go.RowKit Lb
theorem zUc {W:Wi} {m:Nat} {v v':Wj} {a b:Nat} (h:LV W m v a) (h':LV W m v' b) (hm:m<=2000) (hT:Tab W):Calls prog 148 #[v,v'] W (zMJ W (Nat.gcd a b)):=by
 obtain ⟨A,n,c,l,rfl,h1,h2,h3,rfl⟩:=h
 obtain ⟨A',n',c',l',rfl,h1',h2',h3',rfl⟩:=h'
 exact (zRp A n c l A' n' c' l' W h1 h1' h2 h2' oO oO hT).mono fun _ _=>jL.v
theorem zPv {a b m:Nat} (ha:a<BB^m) (hb:b<BB^m):Nat.gcd a b<BB^m:=by
 rcases zWf a with rfl|h
 ·rwa [Nat.gcd_zero_left]
 ·exact tZ (Nat.gcd_le_left b h) ha
theorem zMx {m:Nat} {v vg:Wj} {a g B:Nat} {W:Wi} (h:LV W m v a) (hg:LV W m vg g) (hm:m<=2000) (hg0:0<g) (hc:W.cell? ⟨B,0,none⟩=some vg):
  Calls prog 156 #[v, .pointer (some ⟨B,0,none⟩)] W (zMJ W (a / g)):=by
 obtain ⟨A,n,c,l,rfl,h1,h2,h3,h4⟩:=h
 obtain ⟨A',n',c',l',rfl,h1',h2',h3',h4'⟩:=hg
 have hd:=zIM a g hg0 A n c l A' n' c' l' W h1 h2 h1' h2' h4 h4' oO oO
 have H4:=hid h4;have H4':=hid h4'
 clear h4 h4'
 go_enter func156,ntmps156
 go_wp2_with fail
 refine hd.mono ?_
 rintro e w4 ⟨A4,n4,c4,l4,A5,n5,c5,l5,rfl,hi4,hr4,hi5,hr5,hb5⟩
 go_wp2_with fail
 go_ret
 exact ⟨_,rfl,⟨A4,n4,c4,l4,rfl,hi4,hr4⟩,hb5⟩
theorem zTv (A:Wl Addr) (n c:Nat) (w:Wi):
  Calls prog 149 #[.slice A n c] w fun e w'=>e= .returned (.func (.func 156) #[] #[.pointer (some ⟨w.heap.size,0,none⟩)])/\w'=w.alloc (.cells #[.slice A n c] 24):=by
 go_enter func149,ntmps149
 go_wp2
 go_ret
 exact ⟨rfl,rfl⟩
theorem zNp {W:Wi} {m:Nat} {v v':Wj} {a b:Nat} (h:LV W m v a) (h':LV W m v' b) (hm:m<=2000) (hT:Tab W):Calls prog 137 #[v,v'] W (zU6 W (a / Nat.gcd a b) (b / Nat.gcd a b)):=by
 have hgc:=zUc h h' hm hT
 have hgl:=zPv h.bound h'.bound
 have hen: ∀args w,(callFunc 156 args).run prog w= .ok (.enter 156 args) w:=enters_of func156 kH rfl
 obtain ⟨g,hg⟩: ∃g,Nat.gcd a b=g:=⟨_,rfl⟩
 rw [hg] at hgc hgl ⊢
 rcases zWf g with h0|h0
 ·have HZ:=hid h0
  go_enter func137,ntmps137
  go_wp2_with fail
  refine hgc.mono ?_
  rintro e w4 ⟨v4,rfl,⟨A4,n4,c4,l4,rfl,hi4,hr4⟩,hb4⟩
  obtain rfl:n4=0:=by rw [<-hr4.len];exact hi4.zero_iff.1 HZ.out
  go_wp2_with fail
  go_ret2
  exact ⟨_,_,rfl,⟨none,0,0, [],rfl,by rw [HZ.out,Nat.div_zero];exact Is.nil,wK _⟩,⟨none,0,0, [],rfl,by rw [HZ.out,Nat.div_zero];exact Is.nil,wK _⟩,hb4⟩
 ·clear hg
  go_enter func137,ntmps137
  go_wp2_with fail
  refine hgc.mono ?_
  rintro e w4 ⟨v4,rfl,⟨A4,n4,c4,l4,rfl,hi4,hr4⟩,hb4⟩
  have hn4:0<n4:=by rw [<-hr4.len];exact hi4.pos_iff.1 h0
  have hb5:=hb4.trans ((zV5 _ w4).alloc (zV3 _) (.cells #[.slice A4 n4 c4] 24)|>.mono hb4.size)
  have x5:=Boxed.new w4 24 (.slice A4 n4 c4)
  obtain ⟨W5,hW5⟩: ∃W5,w4.alloc (.cells #[.slice A4 n4 c4] 24)=W5:=⟨_,rfl⟩
  rw [hW5] at hb5 x5
  have hg5:LV W5 m (.slice A4 n4 c4) g:=by rw [<-hW5];exact (qU.lv ⟨A4,n4,c4,l4,rfl,hi4,hr4⟩ hgl).below ((zV5 _ w4).alloc (zV3 _) _)
  have hby:=zTv A4 n4 c4 w4
  rw [hW5] at hby
  clear hW5
  go_wp2_with fail
  refine hby.mono ?_
  rintro e w6 ⟨rfl,rfl⟩
  go_wp2_with fail
  refine (zMx (h.below hb5) hg5 hm h0 x5.cell).mono ?_
  rintro e w7 ⟨v7,rfl,hv7,hb7⟩
  go_wp2_with fail
  refine (zMx ((h'.below hb5).below hb7) (hg5.below hb7) hm h0 ((hb7.cell (p:=⟨w4.heap.size,0,none⟩) (zZ x5.cell)).trans x5.cell)).mono ?_
  rintro e w8 ⟨v8,rfl,hv8,hb8⟩
  go_wp2_with fail
  go_ret2
  have t1:=hb5.trans (hb7.mono hb5.size)
  exact ⟨_,_,rfl,hv7.below hb8,hv8,t1.trans (hb8.mono t1.size)⟩
end Go.Proofs.Wd

namespace Go.Proofs.Wd
open Tryz
set_option maxRecDepth 100000
open Go.RowKit Lb
theorem zOW {W:Wi} {m:Nat} {v:Wj} {x:Nat} (h:LV W m v x) (hm:m<=100000):Calls prog 135 #[v] W (zMJ W x):=by
 obtain ⟨A,n,c,l,rfl,h1,h2,h3,rfl⟩:=h
 exact (q6 A n c l W h1 h2 oO).mono fun _ _=>jL.v
theorem Tab.bls {W w:Wi} {b:Nat} {cs:List Wj} {te:Wk} (hT:Tab W) (hb:W.heap[b]?=some (.cells cs.toArray te (0,0))) (h0: ∃s,cs[0]?=some (.bool s)) (hg:BlS (fun k=>k=b) W w):Tab w:=fun j hj=>by
 have h1:=hT j hj
 have hne:(0:Nat)≠b:=fun e=>by
  have h2:=hT 0 dA
  obtain ⟨s,hs⟩:=h0
  unfold World.cell? at h2
  rw [show ((⟨0,0,none⟩:Addr).block)=b from e,hb] at h2
  simp [hs] at h2
 exact (World.cell?_of_block (a:=⟨0,j,none⟩) (hg.block _ (zZ h1) hne)).trans h1
theorem zHU {m:Nat} {k:Int} {d:Nat} {cs:List Wj} {W:Wi} (h:QVp m k d (.agg cs.toArray) W): ∃s,cs[0]?=some (.bool s):=by
 obtain ⟨u,h1,s,rfl⟩:=zSn cs W h
 exact ⟨s,h1⟩
theorem zBU {m:Nat} {k:Int} {d:Nat} {cs:List Wj} {W:Wi} (h:QVp m k d (.agg cs.toArray) W):cs.all yA=true:=by
 have:=(zEH (v:= .agg cs.toArray) h).2
 simpa [Value.cells] using this
theorem zFA {W:Wi} {v:Wj} {x:Nat} (h:qU W v x):Calls prog 100 #[v] W (Ret W (fNV (x:Int)).tS):=by
 refine yB [(jA x).tS] func100 rfl kH ⟨h,trivial⟩ fun a s=> ?_
 refine tX ?_
 refine zB 0 [] hmix s kH
  zD fun a w1 s=> ?_
 refine z7 (CU.len 2) (cs:= [.bool false, .slice none 0 0]) kH rfl s kH (fun W=>rfl) rfl fun b2 a w s=> ?_
 refine zA rfl ?_
 refine tX ?_
 refine zB 2 ((3, .s ((jA x).tS))::(4, .u (fNV (x:Int))):: []) hmix s kH
  (oc zC<|oc (zEQ (fun u W (hu:qU W u x)=>zMz hu))<|zD) fun a w2 s=> ?_
 refine zR (CU.agg (fNV (x:Int))) ((fNV (x:Int)).tS) rfl s kH rfl rfl rfl iiz iiz zF5 fun a w s=> ?_
 refine zA rfl ?_
 refine tY ?_
 exact wE s (CU.agg (fNV (x:Int))) rfl kH rfl rfl (zPm _) (fun cs W h=>h)
theorem zNo {W:Wi} (z:Int) (hz: -9223372036854775808<=z/\z<=9223372036854775807):Calls prog 77 #[.int .i64 z] W (Ret W (fQN (z:Rat)).tS):=by
 refine yB [(fI z).tS] func77 rfl kH ⟨rfl,trivial⟩ fun a s=> ?_
 refine tX ?_
 refine zB 0 [] hmix s kH
  zD fun a w1 s=> ?_
 refine z7 (CU.len 3) (cs:=zR3) kH rfl s kH (fun W=>rfl) rfl fun b2 a w s=> ?_
 refine zA rfl ?_
 refine tX ?_
 refine zB 4 ((3, .s ((uI z).tS))::(4, .s ((fNV z).tS))::(5, .s ((jA 1).tS))::(6, .u (fQN (z:Rat))):: []) hmix s kH
  (oc zC<|oc (zH zE zUj (fun u0 W hb (h0:u0= .int .i64 z)=>by subst h0;exact zVC z hz))<|oc (zAW (fun u W (hu:u= .int .u32 1)=>zO1 hu))<|oc (qA (fun u v W (hu:NV W u z) (hv:qU W v 1)=>zHu (q:=(z:Rat)) hu hv))<|zD) fun a w2 s=> ?_
 refine zR (CU.agg (fQN (z:Rat))) ((fQN (z:Rat)).tS) rfl s kH rfl rfl rfl iiz iiz yP fun a w s=> ?_
 refine zA rfl ?_
 refine tY ?_
 exact wE s (CU.agg (fQN (z:Rat))) rfl kH rfl rfl (jE _) (fun cs W h=>h)
theorem zQt {W:Wi} {b m:Nat} {k:Int} {d:Nat} {cs:List Wj} (hh:W.heap[b]?=some (.cells cs.toArray 127 (0,0))) (hc:QVp m k d (.agg cs.toArray) W) (hm:m<=2000) (hd:d=0):Calls prog 118 #[.pointer (some ⟨b,0,none⟩)] W (zKa W b 127 (CU.agg (fQN ((0:Int):Rat))) (uB false).tS):=by
 have hz:true=decide (d=0):=(zWc hd).symm
 refine zEB b [(0,UF.eq (.pointer (some ⟨b,0,none⟩)))] [⟨0,127,CU.agg (fQV m k d),b,false⟩] func118 rfl kH (fun q hq=>by simp at hq;subst hq;exact ⟨by simp,rfl⟩) ⟨⟨cs,rfl, .inr (.inr rfl),hh,hc,zBU hc,fun y hy=>by cases hy⟩,trivial⟩ (fun x hx=>by simp at hx;subst hx;simp) fun a s=> ?_
 refine tX ?_
 refine zB 1 ((2, .u (uB false)):: []) hmix s kH
  (oc zG<|zD) fun a w1 s=> ?_
 refine zA rfl ?_
 refine tX ?_
 refine tX ?_
 refine zB 8 ((3, .s (wF b (CU.agg (fQV m k d)).cf))::(4, .s (wB (CU.agg (fQV m k d)).cf))::(5, .s (wB ((CU.agg (fQV m k d)).cf.at 0)))::(6, .s (wB ((CU.agg (fQV m k d)).cf.at 2)))::(7, .s ((fLV m d).tS))::(8, .s ((jA d).tS))::(9, .s (zPG d))::(10, .u (uB true)):: []) hmix s kH
  (oc zC<|oc (qG (C:=(CU.agg (fQV m k d)).cf))<|oc (zJ (C:=(CU.agg (fQV m k d)).cf) 0 kH)<|oc (yW (C:=(CU.agg (fQV m k d)).cf) 0 2 kH)<|oc (jF (C:=(CU.agg (fQV m k d)).cf) (k:=2) kH (h:=zGX))<|oc (zH zE zPI (fun u0 W hb (h0:LV W m u0 d)=>zOW h0 oO))<|oc (zDO kH iiz)<|oc (zDP hz)<|zD) fun a w2 s=> ?_
 refine zA rfl ?_
 refine StS.cond s true iiz (fun e=> ?_) (fun e=>by cases e)
 refine tX ?_
 refine zB 4 ((11, .s ((UF.eq (.pointer (some ⟨b,0,none⟩))).tS))::(12, .u (fQN ((0:Int):Rat)))::(13, .s ((UF.eq (.pointer (some ⟨b,0,none⟩))).tS))::(14, .u (UF.eq (.pointer (some ⟨b,0,none⟩)))):: []) hmix s kH
  (oc (zC (fun _ _ _ h=>h.1))<|oc (zH zE zRv (fun u0 W hb (h0:u0= .int .i64 0)=>by subst h0;exact zNo 0 dA))<|oc (jW (a:=⟨b,0,none⟩) iiz)<|oc (qD (b:=b) (o:=0) 0 kH iiz)<|zD) fun a w3 s=> ?_
 refine q7 (c:=0) (o:=0) (kk:=3) (CU.agg (fQN ((0:Int):Rat))) ((fQN ((0:Int):Rat)).tS) rfl s kH rfl rfl iiz iiz zNb fun a w s=> ?_
 refine zA rfl ?_
 refine tX ?_
 replace s:=s.drop [2]
 refine zB 1 ((2, .u (uB false)):: []) hmix s kH
  (oc zG<|zD) fun a w4 s=> ?_
 refine zA rfl ?_
 refine tY ?_
 exact vG s (c:=0) (C:=CU.agg (fQN ((0:Int):Rat))) rfl rfl rfl rfl iiz
theorem zQu {W:Wi} {b m:Nat} {k:Int} {d:Nat} {cs:List Wj} (hh:W.heap[b]?=some (.cells cs.toArray 127 (0,0))) (hc:QVp m k d (.agg cs.toArray) W) (hm:m<=2000) (hd0:0<d) (hT:Tab W):Calls prog 118 #[.pointer (some ⟨b,0,none⟩)] W (zKa W b 127 (CU.agg (fQN (mkRat k d))) (uB true).tS):=by
 have hz:false=decide (d=0):=(zWg oO).symm
 have bk:k.natAbs<BB^m:=by obtain ⟨_,_,_,_,h1,_⟩:=hc;exact h1.bound
 have hred: ∀W u0 u1,Tab W->LV W m u0 k.natAbs->LV W m u1 d->Calls prog 137 #[u0,u1] W (Ret W (wW (jA (k.natAbs / Nat.gcd k.natAbs d)).tS (jA (d / Nat.gcd k.natAbs d)).tS)):=fun W u0 u1 hT h0 h1=>(zNp h0 h1 hm hT).mono fun e w' ⟨v,v',e1,h1,h2,hb⟩=>⟨_,e1,⟨v,v',rfl,h1,h2⟩,hb⟩
 refine zEB b [(0,UF.eq (.pointer (some ⟨b,0,none⟩)))] [⟨0,127,CU.agg (fQV m k d),b,false⟩] func118 rfl kH (fun q hq=>by simp at hq;subst hq;exact ⟨by simp,rfl⟩) ⟨⟨cs,rfl, .inr (.inr rfl),hh,hc,zBU hc,fun y hy=>by cases hy⟩,trivial⟩ (fun x hx=>by simp at hx;subst hx;simp) fun a s=> ?_
 refine tX ?_
 refine zB 1 ((2, .u (uB false)):: []) hmix s kH
  (oc zG<|zD) fun a w1 s=> ?_
 refine zA rfl ?_
 refine tX ?_
 refine tX ?_
 refine zB 8 ((3, .s (wF b (CU.agg (fQV m k d)).cf))::(4, .s (wB (CU.agg (fQV m k d)).cf))::(5, .s (wB ((CU.agg (fQV m k d)).cf.at 0)))::(6, .s (wB ((CU.agg (fQV m k d)).cf.at 2)))::(7, .s ((fLV m d).tS))::(8, .s ((jA d).tS))::(9, .s (zPG d))::(10, .u (uB false)):: []) hmix s kH
  (oc zC<|oc (qG (C:=(CU.agg (fQV m k d)).cf))<|oc (zJ (C:=(CU.agg (fQV m k d)).cf) 0 kH)<|oc (yW (C:=(CU.agg (fQV m k d)).cf) 0 2 kH)<|oc (jF (C:=(CU.agg (fQV m k d)).cf) (k:=2) kH (h:=zGX))<|oc (zH zE zPI (fun u0 W hb (h0:LV W m u0 d)=>zOW h0 oO))<|oc (zDO kH iiz)<|oc (zDP hz)<|zD) fun a w2 s=> ?_
 refine zA rfl ?_
 refine StS.cond s false iiz (fun e=>by cases e) (fun e=> ?_)
 refine zV6 ?_
 refine tX ?_
 refine zB 10 ((15, .s ((UF.eq (.pointer (some ⟨b,0,none⟩))).tS))::(16, .s (wF b (CU.agg (fQV m k d)).cf))::(17, .s (wB (CU.agg (fQV m k d)).cf))::(18, .s (wB ((CU.agg (fQV m k d)).cf.at 0)))::(19, .s (wB ((CU.agg (fQV m k d)).cf.at 0)))::(20, .s ((fUV m k).tS))::(21, .u (fNV k))::(22, .s ((UF.eq (.pointer (some ⟨b,0,none⟩))).tS))::(23, .s ((UF.eq (.pointer (some ⟨b,0,none⟩))).tS))::(24, .u (UF.eq (.pointer (some ⟨b,0,none⟩)))):: []) hmix s kH
  (oc (zC (fun _ _ _ h=>h.1))<|oc zC<|oc (qG (C:=(CU.agg (fQV m k d)).cf))<|oc (zJ (C:=(CU.agg (fQV m k d)).cf) 0 kH)<|oc (yW (C:=(CU.agg (fQV m k d)).cf) 0 0 kH)<|oc (zP (C:=(CU.agg (fQV m k d)).cf) (k:=0) 2 kH (h:=zK9))<|oc (zH zE zTi (fun u0 W hb (h0:UV W m u0 k)=>zSH h0 oO))<|oc (jW (a:=⟨b,0,none⟩) iiz)<|oc (qD (b:=b) (o:=0) 0 kH iiz)<|oc (qD (b:=b) (o:=0) 0 kH iiz)<|zD) fun a w3 s=> ?_
 refine q7 (c:=0) (o:=0) (kk:=2) (CU.agg (fQM m k d)) ((fNV k).tS) rfl s kH rfl rfl iiz iiz zQk fun a w s=> ?_
 refine zA rfl ?_
 refine tX ?_
 refine z9 [0,1,2,8] 15 ((26, .u (UF.eq (.pointer (some ⟨b,0,none⟩))))::(27, .u (UF.eq (.pointer (some ⟨b,0,none⟩))))::(28, .s (wF b (CU.agg (fQM m k d)).cf))::(29, .s (wB (CU.agg (fQM m k d)).cf))::(30, .s (wB ((CU.agg (fQM m k d)).cf.at 0)))::(31, .s (wB ((CU.agg (fQM m k d)).cf.at 0)))::(32, .s (wB ((CU.agg (fQM m k d)).cf.at 1)))::(33, .s ((jA (k.natAbs)).tS))::(34, .s (wF b (CU.agg (fQM m k d)).cf))::(35, .s (wB (CU.agg (fQM m k d)).cf))::(36, .s (wB ((CU.agg (fQM m k d)).cf.at 0)))::(37, .s (wB ((CU.agg (fQM m k d)).cf.at 2)))::(38, .s ((fLV m d).tS))::(39, .s ((zAj (jA (k.natAbs / Nat.gcd k.natAbs d)) (jA (d / Nat.gcd k.natAbs d))).tS))::(25, .u (zAj (jA (k.natAbs / Nat.gcd k.natAbs d)) (jA (d / Nat.gcd k.natAbs d)))):: []) hmix s kH
  (oc (zC (fun _ _ _ h=>h.1))<|oc (zC (fun _ _ _ h=>h.1))<|oc zC<|oc (qG (C:=(CU.agg (fQM m k d)).cf))<|oc (zJ (C:=(CU.agg (fQM m k d)).cf) 0 kH)<|oc (yW (C:=(CU.agg (fQM m k d)).cf) 0 0 kH)<|oc (yW (C:=(CU.agg (fQM m k d)).cf) 0 1 kH)<|oc (jF (C:=(CU.agg (fQM m k d)).cf) (k:=1) kH (h:=zSr))<|oc zC<|oc (qG (C:=(CU.agg (fQM m k d)).cf))<|oc (zJ (C:=(CU.agg (fQM m k d)).cf) 0 kH)<|oc (yW (C:=(CU.agg (fQM m k d)).cf) 0 2 kH)<|oc (jF (C:=(CU.agg (fQM m k d)).cf) (k:=2) kH (h:=zSq))<|oc (zI zE zTh (fun u0 u1 W hb (h0:qU W u0 (k.natAbs)) (h1:LV W m u1 d)=>hred W u0 u1 (hT.bls hh (zHU hc) (s.gr.trans hb)) (qU.lv h0 bk) h1))<|oc zC<|zD) fun Q' hQ a w4 s=> ?_
 refine zAQ (jA (k.natAbs / Nat.gcd k.natAbs d)) rfl s kH (zAp (A:=(jA (k.natAbs / Nat.gcd k.natAbs d)).tS) (B:=(jA (d / Nat.gcd k.natAbs d)).tS) iiz) kH fun a w s=> ?_
 refine zAQ (jA (d / Nat.gcd k.natAbs d)) rfl s kH (zAo (A:=(jA (k.natAbs / Nat.gcd k.natAbs d)).tS) (B:=(jA (d / Nat.gcd k.natAbs d)).tS) iiz) kH fun a w s=> ?_
 refine zAQ (UF.eq (.pointer (some ⟨b,0,none⟩))) rfl s kH (jW (a:=⟨b,0,none⟩) iiz) kH fun a w s=> ?_
 refine zAQ (UF.eq (.pointer (some ⟨b,0,none⟩))) rfl s kH (qD (b:=b) (o:=0) 0 kH iiz) kH fun a w s=> ?_
 refine zAQ (UF.eq (.pointer (some ⟨b,0,none⟩))) rfl s kH (qD (b:=b) (o:=0) 0 kH iiz) kH fun a w s=> ?_
 refine zAQ (UF.eq (.pointer (some ⟨b,1,none⟩))) rfl s kH (qD (b:=b) (o:=0) 1 kH iiz) kH fun a w s=> ?_
 refine q7 (c:=0) (o:=1) (kk:=1) (CU.agg (fQA m (decide (k<0)) (k.natAbs / Nat.gcd k.natAbs d) d)) ((jA (k.natAbs / Nat.gcd k.natAbs d)).tS) rfl s kH rfl rfl iiz iiz zR5 fun a w s=> ?_
 refine zAQ (UF.eq (.pointer (some ⟨b,0,none⟩))) rfl s kH (jW (a:=⟨b,0,none⟩) iiz) kH fun a w s=> ?_
 refine zAQ (UF.eq (.pointer (some ⟨b,0,none⟩))) rfl s kH (qD (b:=b) (o:=0) 0 kH iiz) kH fun a w s=> ?_
 refine zAQ (UF.eq (.pointer (some ⟨b,2,none⟩))) rfl s kH (qD (b:=b) (o:=0) 2 kH iiz) kH fun a w s=> ?_
 refine q7 (c:=0) (o:=2) (kk:=1) (CU.agg (fQN (mkRat k d))) ((jA (d / Nat.gcd k.natAbs d)).tS) rfl s kH rfl rfl iiz iiz (zR1 (zB3 k d hd0).symm (zDq k d hd0).symm (zCp k d hd0).symm) fun a w s=> ?_
 refine zA rfl (hQ _ _ ?_)
 refine tX ?_
 replace s:=s.drop [2]
 refine zB 1 ((2, .u (uB true)):: []) hmix s kH
  (oc zG<|zD) fun a w5 s=> ?_
 refine zA rfl ?_
 refine tY ?_
 exact vG s (c:=0) (C:=CU.agg (fQN (mkRat k d))) rfl rfl rfl rfl iiz
theorem zEE {W:Wi} {b m:Nat} {k:Int} {d:Nat} {cs:List Wj} (hh:W.heap[b]?=some (.cells cs.toArray 127 (0,0))) (hc:QVp m k d (.agg cs.toArray) W) (hm:m<=2000) (hT:Tab W):Calls prog 118 #[.pointer (some ⟨b,0,none⟩)] W (zKa W b 127 (CU.agg (fQN (mkRat k d))) (uB (decide (0<d))).tS):=by
 rcases zWf d with h|h
 ·have:=zQt hh hc hm h
  rw [h,zWn,zWg oO]
  exact this
 ·rw [zWc h]
  exact zQu hh hc hm h hT
end Go.Proofs.Wd

namespace Go.Proofs.Wd
open Tryz
set_option maxRecDepth 100000
open Go.RowKit Lb
theorem zT2 {W:Wi} {m:Nat} {v:Wj} {k:Int} {d:Nat} (h:QVp m k d v W) (hm:m<=2000) (hT:Tab W):Calls prog 96 #[v] W (Ret W (wH W 127 (CU.agg (fQN (mkRat k d))))):=by
 refine yB [(fQV m k d).tS] func96 rfl kH ⟨h,trivial⟩ fun a s=> ?_
 refine tX ?_
 refine zB 0 [] hmix s kH
  zD fun a w1 s=> ?_
 refine yO (CU.agg (fQV m k d)) rfl s kH (fun v W h=>zEH h) fun b1 a w s=> ?_
 refine yU (UF.eq (.pointer none)) rfl s kH iiz fun a w s=> ?_
 refine zA rfl ?_
 refine tX ?_
 refine zB 2 ((4, .s ((fQV m k d).tS))::(5, .u (fQV m k d)):: []) hmix s kH
  (oc (zK (f:=fQV m k d) 3 kH (hz:=zPb _ _ _))<|oc (zEQ (fun u W (hu:QVp m k d u W)=>zTx hu))<|zD) fun a w2 s=> ?_
 refine yO (CU.agg (fQV m k d)) rfl s kH (fun v W h=>zEH h) fun b6 a w s=> ?_
 refine zTT rfl s kH fun a w s=> ?_
 refine zA rfl ?_
 refine tX ?_
 refine zB 1 ((7, .u (UF.eq (.pointer (some ⟨b6,0,none⟩)))):: []) hmix s kH
  (oc (zC (fun _ _ _ h=>h.1))<|zD) fun a w3 s=> ?_
 refine zFE (c:=3) (CU.agg (fQN (mkRat k d))) (UF.any) rfl zE zMm s kH rfl rfl iiz (fun cs h1 h2=> ?_) fun a w s=> ?_
 ·exact (zEE h1 h2 hm (hT.below s.gr.below)).mono fun e w' ⟨v,g1,_,g2⟩=>⟨v,g1,trivial,g2⟩
 refine zA rfl ?_
 refine tX ?_
 replace s:=s.drop [2]
 refine zB 2 ((9, .s (wF b6 (CU.agg (fQN (mkRat k d))).cf))::(2, .u (UF.eq (.pointer (some ⟨b6,0,none⟩)))):: []) hmix s kH
  (oc zC<|oc (zG (fun _ _ _ h=>h.1))<|zD) fun a w4 s=> ?_
 refine zA rfl ?_
 refine tY ?_
 exact vL s (t:=2) (c:=3) rfl rfl rfl iiz
theorem zN1 {W:Wi} {b b' m m':Nat} {q q':Rat} {cs cs':List Wj} (hh:W.heap[b]?=some (.cells cs.toArray 127 (0,0))) (hc:QNp q (.agg cs.toArray) W) (hh':W.heap[b']?=some (.cells cs'.toArray 127 (0,0))) (hc':QNp q' (.agg cs'.toArray) W) (hne:b'≠b) (hq:QB q m) (hq':QB q' m') (hm:m+m'+1<=2000) (hT:Tab W):Calls prog 105 #[.pointer (some ⟨b,0,none⟩), .pointer (some ⟨b',0,none⟩)] W (zKa W b 127 (CU.agg (fQN (q+q'))) SF.any):=by
 have bk:Bd (((q).num*(((q').den:Nat):Int))+((q').num*(((q).den:Nat):Int))) (m+m'+1):=hq.num_add hq'
 rw [Rat.add_def']
 refine zEB b [(0,UF.eq (.pointer (some ⟨b,0,none⟩))),(1,UF.eq (.pointer (some ⟨b',0,none⟩)))] [⟨0,127,CU.agg (fQN q),b,false⟩,⟨1,127,CU.agg (fQN q'),b',true⟩] func105 rfl kH (fun x hx=>by simp at hx;rcases hx with rfl|rfl<;>exact ⟨by simp,rfl⟩) ⟨⟨cs,rfl, .inr (.inr rfl),hh,hc,zBU (zHV hc hq),fun y hy=>by simp at hy;subst hy;exact .inl hne⟩,⟨cs',rfl, .inl rfl,hh',hc',zBU (zHV hc' hq'),fun y hy=>by cases hy⟩,trivial⟩ (fun x hx=>by simp at hx;rcases hx with rfl|rfl<;>simp) fun a s=> ?_
 refine tX ?_
 refine z9 [0,1,6,14,19] 32 ((4, .s ((UF.eq (.pointer (some ⟨b,0,none⟩))).tS))::(5, .s (wF b (CU.agg (fQN q)).cf))::(6, .s (wB (CU.agg (fQN q)).cf))::(7, .s (wB ((CU.agg (fQN q)).cf.at 0)))::(8, .s (wB ((CU.agg (fQN q)).cf.at 0)))::(9, .s ((fNV ((q).num)).tS))::(10, .s (wF b' (CU.agg (fQN q')).cf))::(11, .s (wB (CU.agg (fQN q')).cf))::(12, .s (wB ((CU.agg (fQN q')).cf.at 0)))::(13, .s (wB ((CU.agg (fQN q')).cf.at 2)))::(14, .s ((jA ((q').den)).tS))::(15, .s ((fNV (((q').den:Nat):Int)).tS))::(16, .s (zJ2 (m+m') [(q).num,(((q').den:Nat):Int)]))::(17, .s ((fNV ((q).num*(((q').den:Nat):Int))).tS))::(18, .s (wF b' (CU.agg (fQN q')).cf))::(19, .s (wB (CU.agg (fQN q')).cf))::(20, .s (wB ((CU.agg (fQN q')).cf.at 0)))::(21, .s (wB ((CU.agg (fQN q')).cf.at 0)))::(22, .s ((fNV ((q').num)).tS))::(23, .s (wF b (CU.agg (fQN q)).cf))::(24, .s (wB (CU.agg (fQN q)).cf))::(25, .s (wB ((CU.agg (fQN q)).cf.at 0)))::(26, .s (wB ((CU.agg (fQN q)).cf.at 2)))::(27, .s ((jA ((q).den)).tS))::(28, .s ((fNV (((q).den:Nat):Int)).tS))::(29, .s (zJ2 (m+m') [(q').num,(((q).den:Nat):Int)]))::(30, .s ((fNV ((q').num*(((q).den:Nat):Int))).tS))::(31, .s (zJ2 (m+m') [((q).num*(((q').den:Nat):Int)),((q').num*(((q).den:Nat):Int))]))::(32, .u (fNV (((q).num*(((q').den:Nat):Int))+((q').num*(((q).den:Nat):Int)))))::(33, .s ((UF.eq (.pointer (some ⟨b,0,none⟩))).tS))::(34, .s ((UF.eq (.pointer (some ⟨b,0,none⟩))).tS))::(35, .u (UF.eq (.pointer (some ⟨b,0,none⟩)))):: []) hmix s kH
  (oc (zC (fun _ _ _ h=>h.1))<|oc zC<|oc (qG (C:=(CU.agg (fQN q)).cf))<|oc (zJ (C:=(CU.agg (fQN q)).cf) 0 kH)<|oc (yW (C:=(CU.agg (fQN q)).cf) 0 0 kH)<|oc (zP (C:=(CU.agg (fQN q)).cf) (k:=0) 2 kH (h:=zBl))<|oc zC<|oc (qG (C:=(CU.agg (fQN q')).cf))<|oc (zJ (C:=(CU.agg (fQN q')).cf) 0 kH)<|oc (yW (C:=(CU.agg (fQN q')).cf) 0 2 kH)<|oc (jF (C:=(CU.agg (fQN q')).cf) (k:=2) kH (h:=zA2))<|oc (zH zE zJh (fun u0 W hb (h0:qU W u0 ((q').den))=>zFA h0))<|oc (yI (fun u v W (hu:NV W u ((q).num)) (hv:NV W v (((q').den:Nat):Int))=>zA7 (NV.uv' hu (Bd.mono (hq).1 (m':=(m+m')) (by first|omega|decide))) (NV.uv' hv (Bd.mono (jG hq'.2) (m':=(m+m')) (by first|omega|decide)))))<|oc (zH zE zMi (fun u0 W hb (h0:ISV W (m+m') u0 [(q).num,(((q').den:Nat):Int)])=>zLy (k:=((q).num*(((q').den:Nat):Int))) h0 (by show (m+m')*2+(m+m')+1<=40000;omega) (by simp) (by simp)))<|oc zC<|oc (qG (C:=(CU.agg (fQN q')).cf))<|oc (zJ (C:=(CU.agg (fQN q')).cf) 0 kH)<|oc (yW (C:=(CU.agg (fQN q')).cf) 0 0 kH)<|oc (zP (C:=(CU.agg (fQN q')).cf) (k:=0) 2 kH (h:=zBl))<|oc zC<|oc (qG (C:=(CU.agg (fQN q)).cf))<|oc (zJ (C:=(CU.agg (fQN q)).cf) 0 kH)<|oc (yW (C:=(CU.agg (fQN q)).cf) 0 2 kH)<|oc (jF (C:=(CU.agg (fQN q)).cf) (k:=2) kH (h:=zA2))<|oc (zH zE zJh (fun u0 W hb (h0:qU W u0 ((q).den))=>zFA h0))<|oc (yI (fun u v W (hu:NV W u ((q').num)) (hv:NV W v (((q).den:Nat):Int))=>zA7 (NV.uv' hu (Bd.mono (hq').1 (m':=(m+m')) (by first|omega|decide))) (NV.uv' hv (Bd.mono (jG hq.2) (m':=(m+m')) (by first|omega|decide)))))<|oc (zH zE zMi (fun u0 W hb (h0:ISV W (m+m') u0 [(q').num,(((q).den:Nat):Int)])=>zLy (k:=((q').num*(((q).den:Nat):Int))) h0 (by show (m+m')*2+(m+m')+1<=40000;omega) (by simp) (by simp)))<|oc (yI (fun u v W (hu:NV W u ((q).num*(((q').den:Nat):Int))) (hv:NV W v ((q').num*(((q).den:Nat):Int)))=>zA7 (NV.uv' hu (Bd.mono (Bd.mul (hq).1 (jG hq'.2)) oO)) (NV.uv' hv (Bd.mono (Bd.mul (hq').1 (jG hq.2)) oO))))<|oc (zH zE zTl (fun u0 W hb (h0:ISV W (m+m') u0 [((q).num*(((q').den:Nat):Int)),((q').num*(((q).den:Nat):Int))])=>zU2 (k:=(((q).num*(((q').den:Nat):Int))+((q').num*(((q).den:Nat):Int)))) h0 oO (by simp) (by simp)))<|oc (jW (a:=⟨b,0,none⟩) iiz)<|oc (qD (b:=b) (o:=0) 0 kH iiz)<|oc (qD (b:=b) (o:=0) 0 kH iiz)<|zD) fun Q' hQ a w1 s=> ?_
 refine q7 (c:=0) (o:=0) (kk:=2) (CU.agg (fQK (((q).num*(((q').den:Nat):Int))+((q').num*(((q).den:Nat):Int))) ((q).den))) ((fNV (((q).num*(((q').den:Nat):Int))+((q').num*(((q).den:Nat):Int)))).tS) rfl s kH rfl rfl iiz iiz (zHI (k0:=q.num) (d:=q.den)) fun a w s=> ?_
 refine zA rfl (hQ _ _ ?_)
 refine tX ?_
 refine z9 [0,1,6] 15 ((36, .s ((UF.eq (.pointer (some ⟨b,0,none⟩))).tS))::(37, .s (wF b (CU.agg (fQK (((q).num*(((q').den:Nat):Int))+((q').num*(((q).den:Nat):Int))) ((q).den))).cf))::(38, .s (wB (CU.agg (fQK (((q).num*(((q').den:Nat):Int))+((q').num*(((q).den:Nat):Int))) ((q).den))).cf))::(39, .s (wB ((CU.agg (fQK (((q).num*(((q').den:Nat):Int))+((q').num*(((q).den:Nat):Int))) ((q).den))).cf.at 0)))::(40, .s (wB ((CU.agg (fQK (((q).num*(((q').den:Nat):Int))+((q').num*(((q).den:Nat):Int))) ((q).den))).cf.at 2)))::(41, .s ((jA ((q).den)).tS))::(42, .s (wF b' (CU.agg (fQN q')).cf))::(43, .s (wB (CU.agg (fQN q')).cf))::(44, .s (wB ((CU.agg (fQN q')).cf.at 0)))::(45, .s (wB ((CU.agg (fQN q')).cf.at 2)))::(46, .s ((jA ((q').den)).tS))::(47, .u (jA (((q).den)*((q').den))))::(48, .s ((UF.eq (.pointer (some ⟨b,0,none⟩))).tS))::(49, .s ((UF.eq (.pointer (some ⟨b,0,none⟩))).tS))::(50, .u (UF.eq (.pointer (some ⟨b,2,none⟩)))):: []) hmix s kH
  (oc (zC (fun _ _ _ h=>h.1))<|oc zC<|oc (qG (C:=(CU.agg (fQK (((q).num*(((q').den:Nat):Int))+((q').num*(((q).den:Nat):Int))) ((q).den))).cf))<|oc (zJ (C:=(CU.agg (fQK (((q).num*(((q').den:Nat):Int))+((q').num*(((q).den:Nat):Int))) ((q).den))).cf) 0 kH)<|oc (yW (C:=(CU.agg (fQK (((q).num*(((q').den:Nat):Int))+((q').num*(((q).den:Nat):Int))) ((q).den))).cf) 0 2 kH)<|oc (jF (C:=(CU.agg (fQK (((q).num*(((q').den:Nat):Int))+((q').num*(((q).den:Nat):Int))) ((q).den))).cf) (k:=2) kH (h:=zSt))<|oc zC<|oc (qG (C:=(CU.agg (fQN q')).cf))<|oc (zJ (C:=(CU.agg (fQN q')).cf) 0 kH)<|oc (yW (C:=(CU.agg (fQN q')).cf) 0 2 kH)<|oc (jF (C:=(CU.agg (fQN q')).cf) (k:=2) kH (h:=zA2))<|oc (zI zE zPJ (fun u0 u1 W hb (h0:qU W u0 ((q).den)) (h1:qU W u1 ((q').den))=>zSK (LV.mono (qU.lv h0 hq.2) (m':=(m+m')) oO) (LV.mono (qU.lv h1 hq'.2) (m':=(m+m')) oO) oO))<|oc (jW (a:=⟨b,0,none⟩) iiz)<|oc (qD (b:=b) (o:=0) 0 kH iiz)<|oc (qD (b:=b) (o:=0) 2 kH iiz)<|zD) fun Q' hQ a w2 s=> ?_
 refine q7 (c:=0) (o:=2) (kk:=1) (CU.agg (fQK (((q).num*(((q').den:Nat):Int))+((q').num*(((q).den:Nat):Int))) (((q).den)*((q').den)))) ((jA (((q).den)*((q').den))).tS) rfl s kH rfl rfl iiz iiz zKw fun a w s=> ?_
 refine zA rfl (hQ _ _ ?_)
 refine zB 1 ((51, .u (UF.eq (.pointer (some ⟨b,0,none⟩)))):: []) hmix s kH
  (oc (zC (fun _ _ _ h=>h.1))<|zD) fun a w3 s=> ?_
 refine zFE (c:=0) (CU.agg (fQN (mkRat (((q).num*(((q').den:Nat):Int))+((q').num*(((q).den:Nat):Int))) ((q).den*(q').den)))) (UF.any) rfl zE zMm s kH rfl rfl iiz (fun cs h1 h2=> ?_) fun a w s=> ?_
 ·exact (zEE (m:=m+m'+1) h1 (zSs h2 bk (zV8 (hq.den_mul hq') (zWb qB oO))) oO (hT.bls hh (zHU (zHV hc hq)) s.gr)).mono fun e w' ⟨v,g1,_,g2⟩=>⟨v,g1,trivial,g2⟩
 refine zA rfl ?_
 exact wZ s (c:=0) (C:=CU.agg (fQN (mkRat (((q).num*(((q').den:Nat):Int))+((q').num*(((q).den:Nat):Int))) ((q).den*(q').den)))) rfl rfl rfl rfl (fun _=>trivial)
theorem zN0 {W:Wi} {b b' m m':Nat} {q q':Rat} {cs cs':List Wj} (hh:W.heap[b]?=some (.cells cs.toArray 127 (0,0))) (hc:QNp q (.agg cs.toArray) W) (hh':W.heap[b']?=some (.cells cs'.toArray 127 (0,0))) (hc':QNp q' (.agg cs'.toArray) W) (hne:b'≠b) (hq:QB q m) (hq':QB q' m') (hm:m+m'+1<=2000) (hT:Tab W):Calls prog 131 #[.pointer (some ⟨b,0,none⟩), .pointer (some ⟨b',0,none⟩)] W (zKa W b 127 (CU.agg (fQN (q*q'))) SF.any):=by
 have bk:Bd ((q).num*(q').num) (m+m'+1):=(hq.1.mul hq'.1).mono oO
 rw [Rat.mul_def']
 refine zEB b [(0,UF.eq (.pointer (some ⟨b,0,none⟩))),(1,UF.eq (.pointer (some ⟨b',0,none⟩)))] [⟨0,127,CU.agg (fQN q),b,false⟩,⟨1,127,CU.agg (fQN q'),b',true⟩] func131 rfl kH (fun x hx=>by simp at hx;rcases hx with rfl|rfl<;>exact ⟨by simp,rfl⟩) ⟨⟨cs,rfl, .inr (.inr rfl),hh,hc,zBU (zHV hc hq),fun y hy=>by simp at hy;subst hy;exact .inl hne⟩,⟨cs',rfl, .inl rfl,hh',hc',zBU (zHV hc' hq'),fun y hy=>by cases hy⟩,trivial⟩ (fun x hx=>by simp at hx;rcases hx with rfl|rfl<;>simp) fun a s=> ?_
 refine tX ?_
 refine z9 [0,1,2,7,14,19] 28 ((4, .s ((UF.eq (.pointer (some ⟨b,0,none⟩))).tS))::(5, .u (UF.eq (.pointer (some ⟨b,0,none⟩))))::(6, .s (wF b (CU.agg (fQN q)).cf))::(7, .s (wB (CU.agg (fQN q)).cf))::(8, .s (wB ((CU.agg (fQN q)).cf.at 0)))::(9, .s (wB ((CU.agg (fQN q)).cf.at 0)))::(10, .s ((fNV ((q).num)).tS))::(11, .s (wF b' (CU.agg (fQN q')).cf))::(12, .s (wB (CU.agg (fQN q')).cf))::(13, .s (wB ((CU.agg (fQN q')).cf.at 0)))::(14, .s (wB ((CU.agg (fQN q')).cf.at 0)))::(15, .s ((fNV ((q').num)).tS))::(16, .s (zJ2 (m+m') [(q).num,(q').num]))::(17, .u (fNV ((q).num*(q').num)))::(18, .s (wF b (CU.agg (fQN q)).cf))::(19, .s (wB (CU.agg (fQN q)).cf))::(20, .s (wB ((CU.agg (fQN q)).cf.at 0)))::(21, .s (wB ((CU.agg (fQN q)).cf.at 2)))::(22, .s ((jA ((q).den)).tS))::(23, .s (wF b' (CU.agg (fQN q')).cf))::(24, .s (wB (CU.agg (fQN q')).cf))::(25, .s (wB ((CU.agg (fQN q')).cf.at 0)))::(26, .s (wB ((CU.agg (fQN q')).cf.at 2)))::(27, .s ((jA ((q').den)).tS))::(28, .u (jA (((q).den)*((q').den))))::(29, .s ((UF.eq (.pointer (some ⟨b,0,none⟩))).tS))::(30, .s ((UF.eq (.pointer (some ⟨b,0,none⟩))).tS))::(31, .u (UF.eq (.pointer (some ⟨b,0,none⟩)))):: []) hmix s kH
  (oc (zC (fun _ _ _ h=>h.1))<|oc (zC (fun _ _ _ h=>h.1))<|oc zC<|oc (qG (C:=(CU.agg (fQN q)).cf))<|oc (zJ (C:=(CU.agg (fQN q)).cf) 0 kH)<|oc (yW (C:=(CU.agg (fQN q)).cf) 0 0 kH)<|oc (zP (C:=(CU.agg (fQN q)).cf) (k:=0) 2 kH (h:=zBl))<|oc zC<|oc (qG (C:=(CU.agg (fQN q')).cf))<|oc (zJ (C:=(CU.agg (fQN q')).cf) 0 kH)<|oc (yW (C:=(CU.agg (fQN q')).cf) 0 0 kH)<|oc (zP (C:=(CU.agg (fQN q')).cf) (k:=0) 2 kH (h:=zBl))<|oc (yI (fun u v W (hu:NV W u ((q).num)) (hv:NV W v ((q').num))=>zA7 (NV.uv' hu (Bd.mono (hq).1 (m':=(m+m')) (by first|omega|decide))) (NV.uv' hv (Bd.mono (hq').1 (m':=(m+m')) (by first|omega|decide)))))<|oc (zH zE zMi (fun u0 W hb (h0:ISV W (m+m') u0 [(q).num,(q').num])=>zLy (k:=((q).num*(q').num)) h0 (by show (m+m')*2+(m+m')+1<=40000;omega) (by simp) (by simp)))<|oc zC<|oc (qG (C:=(CU.agg (fQN q)).cf))<|oc (zJ (C:=(CU.agg (fQN q)).cf) 0 kH)<|oc (yW (C:=(CU.agg (fQN q)).cf) 0 2 kH)<|oc (jF (C:=(CU.agg (fQN q)).cf) (k:=2) kH (h:=zA2))<|oc zC<|oc (qG (C:=(CU.agg (fQN q')).cf))<|oc (zJ (C:=(CU.agg (fQN q')).cf) 0 kH)<|oc (yW (C:=(CU.agg (fQN q')).cf) 0 2 kH)<|oc (jF (C:=(CU.agg (fQN q')).cf) (k:=2) kH (h:=zA2))<|oc (zI zE zPJ (fun u0 u1 W hb (h0:qU W u0 ((q).den)) (h1:qU W u1 ((q').den))=>zSK (LV.mono (qU.lv h0 hq.2) (m':=(m+m')) oO) (LV.mono (qU.lv h1 hq'.2) (m':=(m+m')) oO) oO))<|oc (jW (a:=⟨b,0,none⟩) iiz)<|oc (qD (b:=b) (o:=0) 0 kH iiz)<|oc (qD (b:=b) (o:=0) 0 kH iiz)<|zD) fun Q' hQ a w1 s=> ?_
 refine q7 (c:=0) (o:=0) (kk:=2) (CU.agg (fQK ((q).num*(q').num) ((q).den))) ((fNV ((q).num*(q').num)).tS) rfl s kH rfl rfl iiz iiz (zHI (k0:=q.num) (d:=q.den)) fun a w s=> ?_
 refine zAQ (UF.eq (.pointer (some ⟨b,0,none⟩))) rfl s kH (jW (a:=⟨b,0,none⟩) iiz) kH fun a w s=> ?_
 refine zAQ (UF.eq (.pointer (some ⟨b,0,none⟩))) rfl s kH (qD (b:=b) (o:=0) 0 kH iiz) kH fun a w s=> ?_
 refine zAQ (UF.eq (.pointer (some ⟨b,2,none⟩))) rfl s kH (qD (b:=b) (o:=0) 2 kH iiz) kH fun a w s=> ?_
 refine q7 (c:=0) (o:=2) (kk:=1) (CU.agg (fQK ((q).num*(q').num) (((q).den)*((q').den)))) ((jA (((q).den)*((q').den))).tS) rfl s kH rfl rfl iiz iiz zKw fun a w s=> ?_
 refine zA rfl (hQ _ _ ?_)
 refine zB 1 ((35, .u (UF.eq (.pointer (some ⟨b,0,none⟩)))):: []) hmix s kH
  (oc (zC (fun _ _ _ h=>h.1))<|zD) fun a w2 s=> ?_
 refine zFE (c:=0) (CU.agg (fQN (mkRat ((q).num*(q').num) ((q).den*(q').den)))) (UF.any) rfl zE zMm s kH rfl rfl iiz (fun cs h1 h2=> ?_) fun a w s=> ?_
 ·exact (zEE (m:=m+m'+1) h1 (zSs h2 bk (zV8 (hq.den_mul hq') (zWb qB oO))) oO (hT.bls hh (zHU (zHV hc hq)) s.gr)).mono fun e w' ⟨v,g1,_,g2⟩=>⟨v,g1,trivial,g2⟩
 refine zA rfl ?_
 exact wZ s (c:=0) (C:=CU.agg (fQN (mkRat ((q).num*(q').num) ((q).den*(q').den)))) rfl rfl rfl rfl (fun _=>trivial)
end Go.Proofs.Wd

namespace Go.Proofs.Wd
open Tryz
set_option maxRecDepth 100000
open Go.RowKit Lb
theorem zJF {W:Wi} {m:Nat} {v:Wj} {q:Rat} (h:RVp m q v W) (hm:m<=2000) (hT:Tab W):Calls prog 96 #[v] W (Ret W (wH W 127 (CU.agg (fQN q)))):=by
 obtain ⟨k,d,h1,rfl⟩:=h
 exact zT2 h1 hm hT
theorem zKV {W:Wi} {m:Nat} {v:Wj} {q:Rat} (h:RVp m q v W) (hm:m<=2000) (hm0:0<m) (hT:Tab W):Calls prog 76 #[v] W (Ret W (fQN q).tS):=by
 have hq:QB q m:=h.qb hm0
 refine yB [(fRV m q).tS] func76 rfl kH ⟨h,trivial⟩ fun a s=> ?_
 refine tX ?_
 refine zB 0 [] hmix s kH
  zD fun a w1 s=> ?_
 refine yO (CU.agg (fRV m q)) rfl s kH (fun v W h=>zAe h) fun b1 a w s=> ?_
 refine z7 (CU.len 3) (cs:=zR3) kH rfl s kH (fun W=>rfl) rfl fun b2 a w s=> ?_
 refine zA rfl ?_
 refine tX ?_
 refine zB 5 ((3, .s ((fRV m q).tS))::(4, .s (wH w 127 (CU.agg (fQN q))))::(5, .s (wB (CU.agg (fQN q)).cf))::(6, .s (wB ((CU.agg (fQN q)).cf.at 0)))::(7, .u (fQN q)):: []) hmix s kH
  (oc (zK (f:=fRV m q) 3 kH (hz:=jD _ _))<|oc (zH zE zMj (fun u0 W hb (h0:RVp m q u0 W)=>(zJF h0 oO (hT.below (s.up hb))).mono (wG (zBW hb.size))))<|oc (qG (C:=(CU.agg (fQN q)).cf) zFr)<|oc (zJ (C:=(CU.agg (fQN q)).cf) 0 kH)<|oc (zP (C:=(CU.agg (fQN q)).cf) (k:=0) 3 kH (h:=zIL))<|zD) fun a w2 s=> ?_
 refine zR (CU.agg (fQN q)) ((fQN q).tS) rfl s kH rfl rfl rfl iiz iiz yP fun a w s=> ?_
 refine zA rfl ?_
 refine tY ?_
 exact wE s (CU.agg (fQN q)) rfl kH rfl rfl (jE _) (fun cs W h=>h)
theorem zQA {W:Wi} {m:Nat} {v:Wj} {q:Rat} (h:RVp m q v W) (hm:m<=2000) (hm0:0<m) (hT:Tab W):Calls prog 88 #[v] W (Ret W (fI q.num.sign).tS):=by
 have hq:QB q m:=h.qb hm0
 refine yB [(fRV m q).tS] func88 rfl kH ⟨h,trivial⟩ fun a s=> ?_
 refine tX ?_
 refine zB 0 [] hmix s kH
  zD fun a w1 s=> ?_
 refine yO (CU.agg (fRV m q)) rfl s kH (fun v W h=>zAe h) fun b1 a w s=> ?_
 refine yU (uI 0) rfl s kH iiz fun a w s=> ?_
 refine zA rfl ?_
 refine tX ?_
 replace s:=s.drop [2]
 refine zB 8 ((3, .s ((fRV m q).tS))::(4, .s (wH w 127 (CU.agg (fQN q))))::(5, .s (wB (CU.agg (fQN q)).cf))::(6, .s (wB ((CU.agg (fQN q)).cf.at 0)))::(7, .s (wB ((CU.agg (fQN q)).cf.at 0)))::(8, .s ((fNV ((q).num)).tS))::(9, .s ((uI (q.num.sign)).tS))::(2, .u (uI (q.num.sign))):: []) hmix s kH
  (oc (zK (f:=fRV m q) 3 kH (hz:=jD _ _))<|oc (zH zE zMj (fun u0 W hb (h0:RVp m q u0 W)=>(zJF h0 oO (hT.below (s.up hb))).mono (wG (zBW hb.size))))<|oc (qG (C:=(CU.agg (fQN q)).cf) zFr)<|oc (zJ (C:=(CU.agg (fQN q)).cf) 0 kH)<|oc (yW (C:=(CU.agg (fQN q)).cf) 0 0 kH)<|oc (zP (C:=(CU.agg (fQN q)).cf) (k:=0) 2 kH (h:=zBl))<|oc (zH zE zTn (fun u0 W hb (h0:NV W u0 ((q).num))=>zEo (zSb (NV.uv' h0 (hq).1) oO)))<|oc zG<|zD) fun a w2 s=> ?_
 refine zA rfl ?_
 refine tY ?_
 exact wD s (t:=2) rfl iiz
theorem zCP {W:Wi} {m:Nat} {v v':Wj} {q q':Rat} (h:RVp m q v W) (h':RVp m q' v' W) (hm:m<=2000) (hm0:0<m) (hT:Tab W):Calls prog 78 #[v,v'] W (Ret W (fI (qsg q q')).tS):=by
 have hq:QB q m:=h.qb hm0
 have hq':QB q' m:=h'.qb hm0
 refine yB [(fRV m q).tS,(fRV m q').tS] func78 rfl kH ⟨h,h',trivial⟩ fun a s=> ?_
 refine tX ?_
 refine zB 0 [] hmix s kH
  zD fun a w1 s=> ?_
 refine yO (CU.agg (fRV m q)) rfl s kH (fun v W h=>zAe h) fun b2 a w s=> ?_
 refine yO (CU.agg (fRV m q')) rfl s kH (fun v W h=>zAe h) fun b3 a w s=> ?_
 refine yU (uI 0) rfl s kH iiz fun a w s=> ?_
 refine zA rfl ?_
 refine tX ?_
 have so:=s.old;have sg:=s.gr
 refine qM 6 ((7, .s ((fRV m q).tS))::(8, .s (wH w 127 (CU.agg (fQN q))))::(9, .s ((fRV m q').tS))::(10, .s (wH w 127 (CU.agg (fQN q'))))::(5, .s (wH w 127 (CU.agg (fQN q))))::(6, .s (wH w 127 (CU.agg (fQN q')))):: []) hmix s kH
  (oc (zK (f:=fRV m q) 3 kH (hz:=jD _ _))<|oc (zH zE zMj (fun u0 W hb (h0:RVp m q u0 W)=>(zJF h0 oO (hT.below (s.up hb))).mono (wG (zBW hb.size))))<|oc (zK (f:=fRV m q') 3 kH (hz:=jD _ _))<|oc (zH zE zMj (fun u0 W hb (h0:RVp m q' u0 W)=>(zJF h0 oO (hT.below (s.up hb))).mono (wG (zBW hb.size))))<|oc zG<|oc zG<|zD) fun a w2 s hr=> ?_
 obtain ⟨b5,_,s⟩:=s.adopt true 5 (hr (_,_) mz4) sg (fun y hy=> .inl (so y hy))
 obtain ⟨b6,_,s⟩:=s.adopt true 6 (hr (_,_) mz5) sg (fun y hy=>by rcases zWz.1 hy with rfl|hy;exact .inr ⟨rfl,rfl⟩;exact .inl (so y hy))
 refine zA rfl ?_
 refine tX ?_
 replace s:=s.drop [4]
 refine zB 28 ((11, .s (wF b5 (CU.agg (fQN q)).cf))::(12, .s (wB (CU.agg (fQN q)).cf))::(13, .s (wB ((CU.agg (fQN q)).cf.at 0)))::(14, .s (wB ((CU.agg (fQN q)).cf.at 0)))::(15, .s ((fNV ((q).num)).tS))::(16, .s (wF b6 (CU.agg (fQN q')).cf))::(17, .s (wB (CU.agg (fQN q')).cf))::(18, .s (wB ((CU.agg (fQN q')).cf.at 0)))::(19, .s (wB ((CU.agg (fQN q')).cf.at 2)))::(20, .s ((jA ((q').den)).tS))::(21, .s ((fNV (((q').den:Nat):Int)).tS))::(22, .s (zJ2 (m+m) [(q).num,(((q').den:Nat):Int)]))::(23, .s ((fNV ((q).num*(((q').den:Nat):Int))).tS))::(24, .s (wF b6 (CU.agg (fQN q')).cf))::(25, .s (wB (CU.agg (fQN q')).cf))::(26, .s (wB ((CU.agg (fQN q')).cf.at 0)))::(27, .s (wB ((CU.agg (fQN q')).cf.at 0)))::(28, .s ((fNV ((q').num)).tS))::(29, .s (wF b5 (CU.agg (fQN q)).cf))::(30, .s (wB (CU.agg (fQN q)).cf))::(31, .s (wB ((CU.agg (fQN q)).cf.at 0)))::(32, .s (wB ((CU.agg (fQN q)).cf.at 2)))::(33, .s ((jA ((q).den)).tS))::(34, .s ((fNV (((q).den:Nat):Int)).tS))::(35, .s (zJ2 (m+m) [(q').num,(((q).den:Nat):Int)]))::(36, .s ((fNV ((q').num*(((q).den:Nat):Int))).tS))::(37, .s ((uI (qsg q q')).tS))::(4, .u (uI (qsg q q'))):: []) hmix s kH
  (oc zC<|oc (qG (C:=(CU.agg (fQN q)).cf))<|oc (zJ (C:=(CU.agg (fQN q)).cf) 0 kH)<|oc (yW (C:=(CU.agg (fQN q)).cf) 0 0 kH)<|oc (zP (C:=(CU.agg (fQN q)).cf) (k:=0) 2 kH (h:=zBl))<|oc zC<|oc (qG (C:=(CU.agg (fQN q')).cf))<|oc (zJ (C:=(CU.agg (fQN q')).cf) 0 kH)<|oc (yW (C:=(CU.agg (fQN q')).cf) 0 2 kH)<|oc (jF (C:=(CU.agg (fQN q')).cf) (k:=2) kH (h:=zA2))<|oc (zH zE zJh (fun u0 W hb (h0:qU W u0 ((q').den))=>zFA h0))<|oc (yI (fun u v W (hu:NV W u ((q).num)) (hv:NV W v (((q').den:Nat):Int))=>zA7 (NV.uv' hu (Bd.mono (hq).1 (m':=(m+m)) (by first|omega|decide))) (NV.uv' hv (Bd.mono (jG hq'.2) (m':=(m+m)) (by first|omega|decide)))))<|oc (zH zE zMi (fun u0 W hb (h0:ISV W (m+m) u0 [(q).num,(((q').den:Nat):Int)])=>zLy (k:=((q).num*(((q').den:Nat):Int))) h0 (by show (m+m)*2+(m+m)+1<=40000;omega) (by simp) (by simp)))<|oc zC<|oc (qG (C:=(CU.agg (fQN q')).cf))<|oc (zJ (C:=(CU.agg (fQN q')).cf) 0 kH)<|oc (yW (C:=(CU.agg (fQN q')).cf) 0 0 kH)<|oc (zP (C:=(CU.agg (fQN q')).cf) (k:=0) 2 kH (h:=zBl))<|oc zC<|oc (qG (C:=(CU.agg (fQN q)).cf))<|oc (zJ (C:=(CU.agg (fQN q)).cf) 0 kH)<|oc (yW (C:=(CU.agg (fQN q)).cf) 0 2 kH)<|oc (jF (C:=(CU.agg (fQN q)).cf) (k:=2) kH (h:=zA2))<|oc (zH zE zJh (fun u0 W hb (h0:qU W u0 ((q).den))=>zFA h0))<|oc (yI (fun u v W (hu:NV W u ((q').num)) (hv:NV W v (((q).den:Nat):Int))=>zA7 (NV.uv' hu (Bd.mono (hq').1 (m':=(m+m)) (by first|omega|decide))) (NV.uv' hv (Bd.mono (jG hq.2) (m':=(m+m)) (by first|omega|decide)))))<|oc (zH zE zMi (fun u0 W hb (h0:ISV W (m+m) u0 [(q').num,(((q).den:Nat):Int)])=>zLy (k:=((q').num*(((q).den:Nat):Int))) h0 (by show (m+m)*2+(m+m)+1<=40000;omega) (by simp) (by simp)))<|oc (zI zE zUi (fun u0 u1 W hb (h0:NV W u0 ((q).num*(((q').den:Nat):Int))) (h1:NV W u1 ((q').num*(((q).den:Nat):Int)))=>zEo (zUX (NV.uv' h0 (Bd.mul (hq).1 (jG hq'.2))) (NV.uv' h1 (Bd.mul (hq').1 (jG hq.2))) oO)))<|oc zG<|zD) fun a w3 s=> ?_
 refine zA rfl ?_
 refine tY ?_
 exact wD s (t:=4) rfl iiz
theorem zSj {W:Wi} {m:Nat} {v:Wj} {q:Rat} (h:RVp m q v W) (hm:m<=2000) (hm0:0<m) (hT:Tab W):Calls prog 102 #[v] W (Ret W (fQN (-q)).tS):=by
 have hq:QB q m:=h.qb hm0
 refine yB [(fRV m q).tS] func102 rfl kH ⟨h,trivial⟩ fun a s=> ?_
 refine tX ?_
 refine zB 0 [] hmix s kH
  zD fun a w1 s=> ?_
 refine yO (CU.agg (fRV m q)) rfl s kH (fun v W h=>zAe h) fun b1 a w s=> ?_
 refine z7 (CU.len 3) (cs:=zR3) kH rfl s kH (fun W=>rfl) rfl fun b2 a w s=> ?_
 refine zA rfl ?_
 refine tX ?_
 have so:=s.old;have sg:=s.gr
 refine qM 3 ((4, .s ((fRV m q).tS))::(5, .s (wH w 127 (CU.agg (fQN q))))::(3, .s (wH w 127 (CU.agg (fQN q)))):: []) hmix s kH
  (oc (zK (f:=fRV m q) 3 kH (hz:=jD _ _))<|oc (zH zE zMj (fun u0 W hb (h0:RVp m q u0 W)=>(zJF h0 oO (hT.below (s.up hb))).mono (wG (zBW hb.size))))<|oc zG<|zD) fun a w2 s hr=> ?_
 obtain ⟨b3,_,s⟩:=s.adopt false 3 (hr (_,_) mz2) sg (fun y hy=> .inl (so y hy))
 refine zA rfl ?_
 refine tX ?_
 refine zB 10 ((6, .s ((UF.eq (.pointer (some ⟨b3,0,none⟩))).tS))::(7, .s (wF b3 (CU.agg (fQN q)).cf))::(8, .s (wB (CU.agg (fQN q)).cf))::(9, .s (wB ((CU.agg (fQN q)).cf.at 0)))::(10, .s (wB ((CU.agg (fQN q)).cf.at 0)))::(11, .s ((fNV ((q).num)).tS))::(12, .u (fNV (-(q).num)))::(13, .s ((UF.eq (.pointer (some ⟨b3,0,none⟩))).tS))::(14, .s ((UF.eq (.pointer (some ⟨b3,0,none⟩))).tS))::(15, .u (UF.eq (.pointer (some ⟨b3,0,none⟩)))):: []) hmix s kH
  (oc (zC (fun _ _ _ h=>h.1))<|oc zC<|oc (qG (C:=(CU.agg (fQN q)).cf))<|oc (zJ (C:=(CU.agg (fQN q)).cf) 0 kH)<|oc (yW (C:=(CU.agg (fQN q)).cf) 0 0 kH)<|oc (zP (C:=(CU.agg (fQN q)).cf) (k:=0) 2 kH (h:=zBl))<|oc (zH zE zTm (fun u0 W hb (h0:NV W u0 ((q).num))=>zUa (NV.uv' h0 (hq).1) oO))<|oc (jW (a:=⟨b3,0,none⟩) iiz)<|oc (qD (b:=b3) (o:=0) 0 kH iiz)<|oc (qD (b:=b3) (o:=0) 0 kH iiz)<|zD) fun a w3 s=> ?_
 refine q7 (c:=3) (o:=0) (kk:=2) (CU.agg (fQN (-q))) ((fNV (-(q).num)).tS) rfl s kH rfl rfl iiz iiz (zHI (k0:=q.num) (d:=q.den)) fun a w s=> ?_
 refine zA rfl ?_
 refine tX ?_
 refine zB 4 ((16, .s (wF b3 (CU.agg (fQN (-q))).cf))::(17, .s (wB (CU.agg (fQN (-q))).cf))::(18, .s (wB ((CU.agg (fQN (-q))).cf.at 0)))::(19, .u (fQN (-q))):: []) hmix s kH
  (oc zC<|oc (qG (C:=(CU.agg (fQN (-q))).cf))<|oc (zJ (C:=(CU.agg (fQN (-q))).cf) 0 kH)<|oc (zP (C:=(CU.agg (fQN (-q))).cf) (k:=0) 3 kH (h:=zIL))<|zD) fun a w4 s=> ?_
 refine zR (CU.agg (fQN (-q))) ((fQN (-q)).tS) rfl s kH rfl rfl rfl iiz iiz yP fun a w s=> ?_
 refine zA rfl ?_
 refine tY ?_
 exact wE s (CU.agg (fQN (-q))) rfl kH rfl rfl (jE _) (fun cs W h=>h)
end Go.Proofs.Wd

namespace Go.Proofs.Wd
open Tryz
set_option maxRecDepth 100000
set_option maxHeartbeats 1000000
open Go.RowKit Lb
attribute [local go_sem] Oper.semAt_some qJ yH
structure QRd (m:Nat) (w:World) (A:Option Addr) (n:Nat) (qs:List Rat):Prop where
 len:qs.length=n
 cells: ∀i,i<n-> ∃b o c0 c1 c2 q,A=some ⟨b,o,none⟩/\w.cell? ⟨b,o+i*3,none⟩=some c0/\w.cell? ⟨b,o+i*3+1,none⟩=some c1/\w.cell? ⟨b,o+i*3+2,none⟩=some c2/\qs[i]?=some q/\RVp m q (.agg #[c0,c1,c2]) w
theorem RVp.keep {m:Nat} {q:Rat} {v:Wj} {w w':Wi} (h:RVp m q v w) (hk: ∀p:Addr,p.block<w.heap.size->w'.cell? p=w.cell? p):RVp m q v w':=by
 obtain ⟨k,d,⟨b,s,t,e,⟨sg,A,n,c,l,e1,h1,h2⟩,A',n',c',l',e2,h1',h2'⟩,h3⟩:=h
 exact ⟨k,d,⟨b,s,t,e,⟨sg,A,n,c,l,e1,h1.keep hk,h2⟩,A',n',c',l',e2,h1'.keep hk,h2'⟩,h3⟩
theorem QRd.keep {m:Nat} {w w':Wi} {A:Wl Addr} {n:Nat} {qs:List Rat} (h:QRd m w A n qs) (hk: ∀p:Addr,p.block<w.heap.size->w'.cell? p=w.cell? p):QRd m w' A n qs:=
 ⟨h.len,fun i hi=>by
  obtain ⟨b,o,c0,c1,c2,q,e,g0,g1,g2,h1,h2⟩:=h.cells i hi
  exact ⟨b,o,c0,c1,c2,q,e,(hk _ (zWA w _ g0)).trans g0,(hk _ (zWA w _ g1)).trans g1,(hk _ (zWA w _ g2)).trans g2,h1,h2.keep hk⟩⟩
theorem QRd.below {m:Nat} {w w':Wi} {A:Wl Addr} {n:Nat} {qs:List Rat} (h:QRd m w A n qs) (hb:Below w.heap.size w w'):QRd m w' A n qs:=h.keep fun _ hp=>hb.cell hp
theorem RVp.below {m:Nat} {q:Rat} {v:Wj} {w w':Wi} (h:RVp m q v w) (hb:Below w.heap.size w w'):RVp m q v w':=h.keep fun _ hp=>hb.cell hp
def qAt (qs:List Rat) (k:Nat):Rat:=(qs[k]?).getD 0
def zP3 (W:Wi) (B:Nat) (q:Rat):Prop:= ∃cs:List Wj,W.heap[B]?=some (.cells cs.toArray 127 (0,0))/\QNp q (.agg cs.toArray) W
theorem QNp.keepU {q:Rat} {v:Wj} {w w':Wi} (h:QNp q v w) (hk:jJ w w'):QNp q v w':=(fQN q).us _ _ _ h hk
def zV0 (N0:Nat) (qs:List Rat) (k:Nat) (xs:Array Wj) (W:Wi):Prop:= ∃B,xs=#[.pointer (some ⟨B,0,none⟩)]/\N0<=B/\zP3 W B (qAt qs k)
theorem zIN (A:Wl Addr) (n c:Nat) (w:Wi):
  Calls prog 104 #[.slice A n c] w fun e w'=>e= .returned (.func (.func 125) #[] #[.pointer (some ⟨w.heap.size,0,none⟩)])/\w'=w.alloc (.cells #[.slice A n c] 63):=by
 go_enter func104,ntmps104
 go_wp2
 go_ret
 exact ⟨rfl,rfl⟩
theorem zT3 {W:Wi} {m:Nat} {c0 c1 c2:Wj} {q:Rat} (h:RVp m q (.agg #[c0,c1,c2]) W) (hm:m<=2000) (hT:Tab W):Calls prog 96 #[.agg #[c0,c1,c2]] W fun e w'=> ∃B,e= .returned (.pointer (some ⟨B,0,none⟩))/\W.heap.size<=B/\zP3 w' B q/\Below W.heap.size W w':=
 (zJF h hm hT).mono fun _ _ ⟨_,e1,⟨B,cs,e2,h1,h2,h3,_⟩,hb⟩=>⟨B,by rw [e1,e2],h1,⟨cs,h2,h3⟩,hb⟩
theorem zFp (m:Nat) (hm:m<=2000) (A:Wl Addr) (n c:Nat) (qs:List Rat) (b1:Nat) (w w0:Wi) (h:QRd m w A n qs) (hT:Tab w) (hw0:Below w.heap.size w w0) (hn:n<=c) (hc:c<=9223372036854775807)
  (hc1:w0.cell? ⟨b1,0,none⟩=some (.slice A n c)) {S:Nat->Prop} (hS: ∀b,S b->b<w0.heap.size) (_hS1:S b1) (hSA: ∀b,b<w.heap.size->S b):
  zOQ prog 125 #[.pointer (some ⟨b1,0,none⟩)] (zV0 w0.heap.size qs) n (zE4 S) Mk (fun _=>True) w0:=by
 intro lp J W hW hJ hY h0
 have hl1:=zZ hc1
 have hw1:=(hW.cell (p:=⟨b1,0,none⟩) hl1).trans hc1
 refine zBt func125 rfl ?_
 simp only [ntmps125,zWB,zWC,zWD,Nat.reduceAdd,Nat.reduceSub,zWE,zWF,zWG,zWH,zWd,zWI]
 gi_wp2
 gi_loopw [7] (fun i wr=> ∃k:Nat,k<=n/\i= .int .i64 k/\J k wr/\y7 S w0 wr/\w0.heap.size<=wr.heap.size) (fun i _=>n - (intOf i).toNat)
 case atStart=>exact ⟨0,zV4 _,rfl,h0,wQ hW hS,hW.size⟩
 case round=>
  obtain ⟨k,hk,rfl,hj,hb,hz⟩:=hrel
  by_cases hkn:k<n
  ·have hkeep: ∀p:Addr,p.block<w.heap.size->wr.cell? p=w.cell? p:=fun p hp=>(hb.cell (hSA _ hp)).trans (hw0.cell hp)
   obtain ⟨b,o,c0,c1,c2,q,rfl,p0,p1,p2,hi,hr⟩:=(h.keep (w':=wr) hkeep).cells k hkn
   have hTr:Tab wr:=fun j hj=>(hkeep ⟨0,j,none⟩ (zZ (hT j hj))).trans (hT j hj)
   have hid1:qAt qs k=q:=by simp [qAt,hi]
   have hjk:=hJ k wr
   have hHI:=hid hi
   clear hi
   obtain ⟨sg,A1,n1,d1,A2,n2,d2,rfl,rfl,rfl⟩: ∃sg A1 n1 d1 A2 n2 d2,c0= .bool sg/\c1= .slice A1 n1 d1/\c2= .slice A2 n2 d2:=by
    obtain ⟨k',d',hq,_⟩:=hr
    obtain ⟨sg,A1,n1,d1,A2,n2,d2,e⟩:=zBN hq
    have:=zWe Array.toList (jH e)
    simp at this
    exact ⟨sg,A1,n1,d1,A2,n2,d2,this.1,this.2.1,this.2.2⟩
   gi_wp2_with (first|(gi_at_call 96;refine CallsIn.mono (callsIn_wide.2 (zT3 (hr.below (zCx _ _)) hm (hTr.below (zCx _ _)))) ?_;rintro e w2 ⟨B2,rfl,hB2,hn2,hb2⟩;have hmk:Mk wr w2:=((zV5 _ wr).alloc lr _).trans (hb2.mono (by simp));obtain ⟨fn,tmps,assign,body,hy,hR⟩:=hY k w2 #[.pointer (some ⟨B2,0,none⟩)] hkn (hjk _ hj hmk) ⟨B2,rfl,zV7 hz (zV7 (by simp) hB2),by rw [hid1];exact hn2⟩)|(refine hR.mono ?_;rintro e W3 ⟨rfl,hJ3,hk3⟩))
   refine ⟨⟨k+1,by omega,rfl,hJ3,(hb.trans (wQ hmk fun b hb=>zV8 (hS b hb) hz)).trans hk3.1,zV7 hz (zV7 hmk.size hk3.2)⟩, ?_⟩
   simp [intOf]
   omega
  ·obtain rfl:k=n:=by omega
   gi_wp2
   go_end0
   exact ⟨⟨_,rfl⟩,hj,trivial⟩
def zC5 (qs:List Rat):Nat->Rat
 |0=>0
 |k+1=>zC5 qs k+qAt qs k
def jB (qs:List Rat):Nat->Rat
 |0=>1
 |k+1=>jB qs k*qAt qs k
def zRJ (w:Wi) (B0 P:Nat) (f:Nat->Rat) (k:Nat) (W:Wi):Prop:=
 zP3 W B0 (f k)/\Boxed W P 128 (.pointer (some ⟨B0,0,none⟩))/\q9 W w.heap.size 28 #[.bool false, .slice none 0 0, .slice none 0 0]/\Below w.heap.size w W/\P+2<=W.heap.size/\w.heap.size<B0
theorem zP3.abide {W W':Wi} {B C:Nat} {q:Rat} {row:Wl Nat} (h:zP3 W B q) (hg:W.grownBy W' row) (hr: ∀r,row=some r->C<=r/\ ∃o,W.heap[r]?=some o/\o.isCells=false):zP3 W' B q:=by
 obtain ⟨cs,h1,h2⟩:=h
 have hk:jJ W W':=fun p x hp=>zFv hp hg hr
 refine ⟨cs,(hg.block _ (Array.getElem?_eq_some_iff.1 h1).1 fun e=> ?_).trans h1,h2.keepU hk⟩
 obtain ⟨_,o,ho,hc⟩:=hr _ e.symm
 rw [h1] at ho
 cases ho
 cases hc
theorem zDd (w:Wi) (B0 P:Nat) (f:Nat->Rat) {C:Nat} (hC:w.heap.size<=C):OwnFrom C (zRJ w B0 P f):=by
 rintro k W W' row ⟨h1,h2,h3,h4,h5,h6⟩ hg hr
 exact ⟨h1.abide hg hr,qV h2 hg hr,h3.abide hg hr,zAk h4 hg lr hC hr,zV7 h5 hg.size,h6⟩
theorem zNt (m M:Nat) (A:Wl Addr) (n c:Nat) (qs:List Rat) (w:Wi) (h:QRd m w A n qs) (hn:n<=c) (hc:c<=9223372036854775807) (hm:m<=2000) (hm0:0<m) (hM:M+m+1<=2000) (hp: ∀k,k<=n->QB (zC5 qs k) M) (hT:Tab w):
  Calls prog 84 #[.slice A n c] w (Ret w (fQN (zC5 qs n)).tS):=by
 refine q8 func84 rfl ?_
 simp only [ntmps84,zWB,zWC,zWD,Nat.reduceAdd,Nat.reduceSub,zWE,zWF,zWG,zWH,zWd,zWI]
 go_wp2_with (first|(go_at_call 77;refine (zNo 0 dA).mono ?_;rintro e w1 ⟨v1,rfl,hv1,hb1⟩;obtain ⟨A1,n1,c1,A2,n2,c2,rfl⟩:=zCi hv1)|(go_at_call 104;refine (zIN A n c _).mono ?_;rintro e w3 ⟨rfl,rfl⟩))
 have hv2:QNp 0 (.agg #[.bool false, .slice A1 n1 c1, .slice A2 n2 c2]) w1:=hv1
 obtain ⟨W0,hW0⟩: ∃W0,(((w1.alloc (.cells #[.bool false, .slice A1 n1 c1, .slice A2 n2 c2] 127)).alloc (.cells #[.pointer (some ⟨w1.heap.size,0,none⟩)] 128)).alloc (.cells #[.slice A n c] 63))=W0:=⟨_,rfl⟩
 have hsz:W0.heap.size=w1.heap.size+3:=by rw [<-hW0];simp
 have hbw1:Below w.heap.size w w1:=((zV5 _ w).alloc lr _).trans (hb1.mono (by simp))
 have hsz1:w.heap.size<w1.heap.size:=zV8 (by simp) hb1.size
 have hb01:Below w1.heap.size w1 W0:=by rw [<-hW0];exact (((zV5 _ w1).alloc lr _).alloc (by simp) _).alloc (by simp;omega) _
 have hB1:Below w.heap.size w W0:=hbw1.trans (hb01.mono hbw1.size)
 have x0:zP3 W0 w1.heap.size 0:=⟨[_,_,_],(by rw [<-hW0];exact ((q9.new w1 _ #[.bool false, .slice A1 n1 c1, .slice A2 n2 c2]).alloc _).alloc _),hv2.keepU (zU hb01)⟩
 have x1:Boxed W0 (w1.heap.size+1) 128 (.pointer (some ⟨w1.heap.size,0,none⟩)):=by rw [<-hW0];exact (zAs _ _ _ (by simp)).alloc _
 have x2:Boxed W0 (w1.heap.size+1+1) 63 (.slice A n c):=by rw [<-hW0];exact zAs _ _ _ (by simp)
 have x3:q9 W0 w.heap.size 28 #[.bool false, .slice none 0 0, .slice none 0 0]:=(q9.kept (q9.kept (q9.new w _ _) hb1) hb01)
 rw [hW0]
 clear hW0
 have hSb: ∀b,(b<w.heap.size∨b=w1.heap.size+1+1)->b<W0.heap.size:=fun b hb=>by have:=hbw1.size;omega
 refine zB8 (gf:=125) rfl (enters_of func125 kH rfl) (zFp m hm A n c qs (w1.heap.size+1+1) w W0 h hT hB1 hn hc x2.cell (S:=fun b=>b<w.heap.size∨b=w1.heap.size+1+1) hSb (.inr rfl) (fun b hb=> .inl hb)) ?hE ?hps zE4.trans (zGb hSb)
  (zRJ w w1.heap.size (w1.heap.size+1) (zC5 qs)) (zDd w _ _ _ hB1.size) (zBu (zDd w _ _ _ lr)) wP (fun _ _ _ _ _ _ _ _=>trivial) ⟨x0,x1,x3,hB1,by omega,hsz1⟩
  (fun xs=>{ tmps:=#[.slice A n c,undef, .pointer (some ⟨w.heap.size,0,none⟩), .pointer (some ⟨w1.heap.size+1,0,none⟩),xs.getD 0 undef, .agg #[.bool false, .slice A1 n1 c1, .slice A2 n2 c2], .agg #[.bool false, .slice A1 n1 c1, .slice A2 n2 c2], .pointer (some ⟨w1.heap.size,0,none⟩), .slice A n c, .func (.func 125) #[] #[.pointer (some ⟨w1.heap.size+1+1,0,none⟩)],xs.getD 0 undef,undef,undef,undef,undef,undef,undef,undef],defers:= [] }) ?assign ?body ?done
 case hE=>
  rintro k xs W l o o' ⟨B,rfl,h1,h2⟩ ho hc
  exact ⟨B,rfl,h1,h2.abide (C:=0) (grownBy_putObj' W l o') (fun r e=>by cases e;exact ⟨zV4 _,o,ho,hc⟩)⟩
 case hps=>
  rintro k xs W ⟨B,rfl,_⟩
  rfl
 case assign=>
  rintro lp k xs W K ⟨B,rfl,h1,h2⟩ hK
  gi_wp2
  exact hK
 case body=>
  rintro lp k xs W hk ⟨h1,h2,h3,h4,h5,h6⟩ ⟨B,rfl,hB,hnb⟩
  have hc2:=h2.cell
  have hne:B≠w1.heap.size:=by omega
  have hbd:=hp k (zWo hk)
  have hbd2:QB (qAt qs k) m:=by
   obtain ⟨_,_,_,_,_,q,_,_,_,_,e,hr⟩:=h.cells k hk
   rw [show qAt qs k=q from by simp [qAt,e]]
   exact hr.qb hm0
  have hTW:Tab W:=hT.below h4
  gi_wp2_with (gi_at_call 105;refine CallsIn.mono (callsIn_wide.2 (by
   obtain ⟨cs,g1,g2⟩:=h1
   obtain ⟨cs',g1',g2'⟩:=hnb
   exact zN1 g1 g2 g1' g2' hne hbd hbd2 oO hTW)) ?_;rintro e w3 ⟨u,rfl,_,hg3,cs3,hh3,hc3,_⟩)
  refine ⟨(KeepsOthers.of_grownBy hg3 (fun j o e ho=>by cases e;obtain ⟨cs,g1,_⟩:=h1;rw [g1] at ho;cases ho;rfl)).from _,⟨(y7.refl _ _).grown hg3 (fun b hb=>⟨by have:=h4.size;rcases hb with hb|hb<;>omega,fun e=>by have:=zWh e;omega⟩),hg3.size⟩,⟨cs3,hh3,hc3⟩,h2.kept hg3 (fun e=>by have:=zWh e;omega),(hg3.block _ h3.lt (fun e=>by have:=zWh e;omega)).trans h3,zAH h4 hg3 h4.size oO,zV7 h5 hg3.size,h6⟩
 case done=>
  rintro D W hD ⟨h1,h2,h3,h4,h5,h6⟩ _ hd
  obtain ⟨cs,hh,hq⟩:=h1
  obtain ⟨A3,n3,c3,A4,n4,c4,ecs⟩:=zCi hq
  have ecs:=zWe Array.toList (jH ecs)
  simp at ecs
  subst ecs
  obtain ⟨g0,g1,g2⟩:W.cell? ⟨w1.heap.size,0,none⟩=some (.bool (decide ((zC5 qs n).num<0)))/\W.cell? ⟨w1.heap.size,0+1,none⟩=some (.slice A3 n3 c3)/\W.cell? ⟨w1.heap.size,0+2,none⟩=some (.slice A4 n4 c4):=⟨zAX hh 0 _ rfl,zAX hh 1 _ rfl,zAX hh 2 _ rfl⟩
  simp only [Nat.zero_add] at g1 g2
  have hc2:=h2.cell
  have q0:W.cell? ⟨w.heap.size,0,none⟩=some (.bool false):=h3.cell 0
  have q1:W.cell? ⟨w.heap.size,1,none⟩=some (.slice none 0 0):=h3.cell 1
  have q2:W.cell? ⟨w.heap.size,2,none⟩=some (.slice none 0 0):=h3.cell 2
  have q3:=h3.frozen 0;have q4:=h3.frozen 1;have q5:=h3.frozen 2
  go_wp2
  have hb5:q9 (((W.setCell ⟨w.heap.size,0,none⟩ (.bool (decide ((zC5 qs n).num<0)))).setCell ⟨w.heap.size,1,none⟩ (.slice A3 n3 c3)).setCell ⟨w.heap.size,2,none⟩ (.slice A4 n4 c4)) w.heap.size 28 #[.bool (decide ((zC5 qs n).num<0)), .slice A3 n3 c3, .slice A4 n4 c4]:=((h3.set 0 _).set 1 _).set 2 _
  have hM2:Marks w.heap.size (((W.setCell ⟨w.heap.size,0,none⟩ (.bool (decide ((zC5 qs n).num<0)))).setCell ⟨w.heap.size,1,none⟩ (.slice A3 n3 c3)).setCell ⟨w.heap.size,2,none⟩ (.slice A4 n4 c4)) [mark D] [D]:=((Marks.nil w.heap.size W).more (D:=D) (by simp) (by have:=hB1.size;omega) hd).others (((zWi _ _ _).trans (zWi _ _ _)).trans (zWi _ _ _))
  have hrow: ∀(W':Wi) (i:Nat) (v u:Wj),W'.cell? ⟨w.heap.size,i,none⟩=some u->yA u=true->jJ W' (W'.setCell ⟨w.heap.size,i,none⟩ v):=fun W' i v u hu hn p x hp=>(World.cell?_setCell_other _ _ _ _ (fun e=>by rw [<-e] at hp;rw [hu] at hp;cases hp;cases hn)).trans hp
  have hk3:jJ W (((W.setCell ⟨w.heap.size,0,none⟩ (.bool (decide ((zC5 qs n).num<0)))).setCell ⟨w.heap.size,1,none⟩ (.slice A3 n3 c3)).setCell ⟨w.heap.size,2,none⟩ (.slice A4 n4 c4)):=((hrow _ _ _ _ q0 rfl).trans (hrow _ _ _ _ ((h3.set 0 _).cell 1) rfl)).trans (hrow _ _ _ _ (((h3.set 0 _).set 1 _).cell 2) rfl)
  have hq3:=hq.keepU hk3
  have hb3:Below w.heap.size w (((W.setCell ⟨w.heap.size,0,none⟩ (.bool (decide ((zC5 qs n).num<0)))).setCell ⟨w.heap.size,1,none⟩ (.slice A3 n3 c3)).setCell ⟨w.heap.size,2,none⟩ (.slice A4 n4 c4)):=((h4.setCell lr _).setCell lr _).setCell lr _
  generalize ((W.setCell ⟨w.heap.size,0,none⟩ (.bool (decide ((zC5 qs n).num<0)))).setCell ⟨w.heap.size,1,none⟩ (.slice A3 n3 c3)).setCell ⟨w.heap.size,2,none⟩ (.slice A4 n4 c4)=W9 at*
  refine qH _ (v:= .agg #[.bool (decide ((zC5 qs n).num<0)), .slice A3 n3 c3, .slice A4 n4 c4]) (fun w' ho'=> ?_) [D] _ _ hM2 (Oth.refl _ _) ?_
  ·have h7:=hb5.oth ho'
   have:=zFK (P:=prog) (w:=w') (t:=28) (k:=3) kH (vs:= [.bool (decide ((zC5 qs n).num<0)), .slice A3 n3 c3, .slice A4 n4 c4]) rfl h7
   simp [results,results84,asAddr,this]
  ·intro w' ho
   exact ⟨_,rfl,hq3.keepU (fun p x hp=>(ho.cell p).trans hp),j9 hb3 ho lr⟩
theorem zNs (m M:Nat) (A:Wl Addr) (n c:Nat) (qs:List Rat) (w:Wi) (h:QRd m w A n qs) (hn:n<=c) (hc:c<=9223372036854775807) (hm:m<=2000) (hm0:0<m) (hM:M+m+1<=2000) (hp: ∀k,k<=n->QB (jB qs k) M) (hT:Tab w):
  Calls prog 110 #[.slice A n c] w (Ret w (fQN (jB qs n)).tS):=by
 refine q8 func110 rfl ?_
 simp only [ntmps110,zWB,zWC,zWD,Nat.reduceAdd,Nat.reduceSub,zWE,zWF,zWG,zWH,zWd,zWI]
 go_wp2_with (first|(go_at_call 77;refine (zNo 1 dA).mono ?_;rintro e w1 ⟨v1,rfl,hv1,hb1⟩;obtain ⟨A1,n1,c1,A2,n2,c2,rfl⟩:=zCi hv1)|(go_at_call 104;refine (zIN A n c _).mono ?_;rintro e w3 ⟨rfl,rfl⟩))
 have hv2:QNp 1 (.agg #[.bool false, .slice A1 n1 c1, .slice A2 n2 c2]) w1:=hv1
 obtain ⟨W0,hW0⟩: ∃W0,(((w1.alloc (.cells #[.bool false, .slice A1 n1 c1, .slice A2 n2 c2] 127)).alloc (.cells #[.pointer (some ⟨w1.heap.size,0,none⟩)] 128)).alloc (.cells #[.slice A n c] 63))=W0:=⟨_,rfl⟩
 have hsz:W0.heap.size=w1.heap.size+3:=by rw [<-hW0];simp
 have hbw1:Below w.heap.size w w1:=((zV5 _ w).alloc lr _).trans (hb1.mono (by simp))
 have hsz1:w.heap.size<w1.heap.size:=zV8 (by simp) hb1.size
 have hb01:Below w1.heap.size w1 W0:=by rw [<-hW0];exact (((zV5 _ w1).alloc lr _).alloc (by simp) _).alloc (by simp;omega) _
 have hB1:Below w.heap.size w W0:=hbw1.trans (hb01.mono hbw1.size)
 have x0:zP3 W0 w1.heap.size 1:=⟨[_,_,_],(by rw [<-hW0];exact ((q9.new w1 _ #[.bool false, .slice A1 n1 c1, .slice A2 n2 c2]).alloc _).alloc _),hv2.keepU (zU hb01)⟩
 have x1:Boxed W0 (w1.heap.size+1) 128 (.pointer (some ⟨w1.heap.size,0,none⟩)):=by rw [<-hW0];exact (zAs _ _ _ (by simp)).alloc _
 have x2:Boxed W0 (w1.heap.size+1+1) 63 (.slice A n c):=by rw [<-hW0];exact zAs _ _ _ (by simp)
 have x3:q9 W0 w.heap.size 28 #[.bool false, .slice none 0 0, .slice none 0 0]:=(q9.kept (q9.kept (q9.new w _ _) hb1) hb01)
 rw [hW0]
 clear hW0
 have hSb: ∀b,(b<w.heap.size∨b=w1.heap.size+1+1)->b<W0.heap.size:=fun b hb=>by have:=hbw1.size;omega
 refine zB8 (gf:=125) rfl (enters_of func125 kH rfl) (zFp m hm A n c qs (w1.heap.size+1+1) w W0 h hT hB1 hn hc x2.cell (S:=fun b=>b<w.heap.size∨b=w1.heap.size+1+1) hSb (.inr rfl) (fun b hb=> .inl hb)) ?hE ?hps zE4.trans (zGb hSb)
  (zRJ w w1.heap.size (w1.heap.size+1) (jB qs)) (zDd w _ _ _ hB1.size) (zBu (zDd w _ _ _ lr)) wP (fun _ _ _ _ _ _ _ _=>trivial) ⟨x0,x1,x3,hB1,by omega,hsz1⟩
  (fun xs=>{ tmps:=#[.slice A n c,undef, .pointer (some ⟨w.heap.size,0,none⟩), .pointer (some ⟨w1.heap.size+1,0,none⟩),xs.getD 0 undef, .agg #[.bool false, .slice A1 n1 c1, .slice A2 n2 c2], .agg #[.bool false, .slice A1 n1 c1, .slice A2 n2 c2], .pointer (some ⟨w1.heap.size,0,none⟩), .slice A n c, .func (.func 125) #[] #[.pointer (some ⟨w1.heap.size+1+1,0,none⟩)],xs.getD 0 undef,undef,undef,undef,undef,undef,undef,undef],defers:= [] }) ?assign ?body ?done
 case hE=>
  rintro k xs W l o o' ⟨B,rfl,h1,h2⟩ ho hc
  exact ⟨B,rfl,h1,h2.abide (C:=0) (grownBy_putObj' W l o') (fun r e=>by cases e;exact ⟨zV4 _,o,ho,hc⟩)⟩
 case hps=>
  rintro k xs W ⟨B,rfl,_⟩
  rfl
 case assign=>
  rintro lp k xs W K ⟨B,rfl,h1,h2⟩ hK
  gi_wp2
  exact hK
 case body=>
  rintro lp k xs W hk ⟨h1,h2,h3,h4,h5,h6⟩ ⟨B,rfl,hB,hnb⟩
  have hc2:=h2.cell
  have hne:B≠w1.heap.size:=by omega
  have hbd:=hp k (zWo hk)
  have hbd2:QB (qAt qs k) m:=by
   obtain ⟨_,_,_,_,_,q,_,_,_,_,e,hr⟩:=h.cells k hk
   rw [show qAt qs k=q from by simp [qAt,e]]
   exact hr.qb hm0
  have hTW:Tab W:=hT.below h4
  gi_wp2_with (gi_at_call 131;refine CallsIn.mono (callsIn_wide.2 (by
   obtain ⟨cs,g1,g2⟩:=h1
   obtain ⟨cs',g1',g2'⟩:=hnb
   exact zN0 g1 g2 g1' g2' hne hbd hbd2 oO hTW)) ?_;rintro e w3 ⟨u,rfl,_,hg3,cs3,hh3,hc3,_⟩)
  refine ⟨(KeepsOthers.of_grownBy hg3 (fun j o e ho=>by cases e;obtain ⟨cs,g1,_⟩:=h1;rw [g1] at ho;cases ho;rfl)).from _,⟨(y7.refl _ _).grown hg3 (fun b hb=>⟨by have:=h4.size;rcases hb with hb|hb<;>omega,fun e=>by have:=zWh e;omega⟩),hg3.size⟩,⟨cs3,hh3,hc3⟩,h2.kept hg3 (fun e=>by have:=zWh e;omega),(hg3.block _ h3.lt (fun e=>by have:=zWh e;omega)).trans h3,zAH h4 hg3 h4.size oO,zV7 h5 hg3.size,h6⟩
 case done=>
  rintro D W hD ⟨h1,h2,h3,h4,h5,h6⟩ _ hd
  obtain ⟨cs,hh,hq⟩:=h1
  obtain ⟨A3,n3,c3,A4,n4,c4,ecs⟩:=zCi hq
  have ecs:=zWe Array.toList (jH ecs)
  simp at ecs
  subst ecs
  obtain ⟨g0,g1,g2⟩:W.cell? ⟨w1.heap.size,0,none⟩=some (.bool (decide ((jB qs n).num<0)))/\W.cell? ⟨w1.heap.size,0+1,none⟩=some (.slice A3 n3 c3)/\W.cell? ⟨w1.heap.size,0+2,none⟩=some (.slice A4 n4 c4):=⟨zAX hh 0 _ rfl,zAX hh 1 _ rfl,zAX hh 2 _ rfl⟩
  simp only [Nat.zero_add] at g1 g2
  have hc2:=h2.cell
  have q0:W.cell? ⟨w.heap.size,0,none⟩=some (.bool false):=h3.cell 0
  have q1:W.cell? ⟨w.heap.size,1,none⟩=some (.slice none 0 0):=h3.cell 1
  have q2:W.cell? ⟨w.heap.size,2,none⟩=some (.slice none 0 0):=h3.cell 2
  have q3:=h3.frozen 0;have q4:=h3.frozen 1;have q5:=h3.frozen 2
  go_wp2
  have hb5:q9 (((W.setCell ⟨w.heap.size,0,none⟩ (.bool (decide ((jB qs n).num<0)))).setCell ⟨w.heap.size,1,none⟩ (.slice A3 n3 c3)).setCell ⟨w.heap.size,2,none⟩ (.slice A4 n4 c4)) w.heap.size 28 #[.bool (decide ((jB qs n).num<0)), .slice A3 n3 c3, .slice A4 n4 c4]:=((h3.set 0 _).set 1 _).set 2 _
  have hM2:Marks w.heap.size (((W.setCell ⟨w.heap.size,0,none⟩ (.bool (decide ((jB qs n).num<0)))).setCell ⟨w.heap.size,1,none⟩ (.slice A3 n3 c3)).setCell ⟨w.heap.size,2,none⟩ (.slice A4 n4 c4)) [mark D] [D]:=((Marks.nil w.heap.size W).more (D:=D) (by simp) (by have:=hB1.size;omega) hd).others (((zWi _ _ _).trans (zWi _ _ _)).trans (zWi _ _ _))
  have hrow: ∀(W':Wi) (i:Nat) (v u:Wj),W'.cell? ⟨w.heap.size,i,none⟩=some u->yA u=true->jJ W' (W'.setCell ⟨w.heap.size,i,none⟩ v):=fun W' i v u hu hn p x hp=>(World.cell?_setCell_other _ _ _ _ (fun e=>by rw [<-e] at hp;rw [hu] at hp;cases hp;cases hn)).trans hp
  have hk3:jJ W (((W.setCell ⟨w.heap.size,0,none⟩ (.bool (decide ((jB qs n).num<0)))).setCell ⟨w.heap.size,1,none⟩ (.slice A3 n3 c3)).setCell ⟨w.heap.size,2,none⟩ (.slice A4 n4 c4)):=((hrow _ _ _ _ q0 rfl).trans (hrow _ _ _ _ ((h3.set 0 _).cell 1) rfl)).trans (hrow _ _ _ _ (((h3.set 0 _).set 1 _).cell 2) rfl)
  have hq3:=hq.keepU hk3
  have hb3:Below w.heap.size w (((W.setCell ⟨w.heap.size,0,none⟩ (.bool (decide ((jB qs n).num<0)))).setCell ⟨w.heap.size,1,none⟩ (.slice A3 n3 c3)).setCell ⟨w.heap.size,2,none⟩ (.slice A4 n4 c4)):=((h4.setCell lr _).setCell lr _).setCell lr _
  generalize ((W.setCell ⟨w.heap.size,0,none⟩ (.bool (decide ((jB qs n).num<0)))).setCell ⟨w.heap.size,1,none⟩ (.slice A3 n3 c3)).setCell ⟨w.heap.size,2,none⟩ (.slice A4 n4 c4)=W9 at*
  refine qH _ (v:= .agg #[.bool (decide ((jB qs n).num<0)), .slice A3 n3 c3, .slice A4 n4 c4]) (fun w' ho'=> ?_) [D] _ _ hM2 (Oth.refl _ _) ?_
  ·have h7:=hb5.oth ho'
   have:=zFK (P:=prog) (w:=w') (t:=28) (k:=3) kH (vs:= [.bool (decide ((jB qs n).num<0)), .slice A3 n3 c3, .slice A4 n4 c4]) rfl h7
   simp [results,results110,asAddr,this]
  ·intro w' ho
   exact ⟨_,rfl,hq3.keepU (fun p x hp=>(ho.cell p).trans hp),j9 hb3 ho lr⟩
def fQS (m:Nat) (qs:List Rat):SF:=⟨fun v W=> ∃A c,v= .slice A qs.length c/\qs.length<=c/\c<=9223372036854775807/\QRd m W A qs.length qs,fun _ _ _ ⟨A,c,h1,h2,h3,h4⟩ hb=>⟨A,c,h1,h2,h3,h4.below hb⟩⟩
theorem zO3 (s s':Bool) (A A' D D':Wl Addr) (n n' c c' i i' j j':Nat):z5 prog 63 2 [(0, .agg #[.bool s, .slice A n c, .slice D i j]),(1, .agg #[.bool s', .slice A' n' c', .slice D' i' j'])]=some (28,#[.bool s, .slice A n c, .slice D i j, .bool s', .slice A' n' c', .slice D' i' j']):=by kernel_rfl
theorem zFG {u v:Wj} {W:Wi} {m:Nat} {p q:Rat} (hu:RVp m p u W) (hv:RVp m q v W): ∃e cs,z5 prog 63 2 [(0,u),(1,v)]=some (e,cs)/\(fQS m [p,q]).p (.slice (some ⟨W.heap.size,0,none⟩) 2 2) (W.alloc (.cells cs e)):=by
 obtain ⟨k,d,h1,h2⟩:=id hu
 obtain ⟨k',d',h1',h2'⟩:=id hv
 obtain ⟨s,A,n,c,D,i,j,rfl⟩:=zBN h1
 obtain ⟨s',A',n',c',D',i',j',rfl⟩:=zBN h1'
 refine ⟨_,_,zO3 s s' A A' D D' n n' c c' i i' j j',some ⟨W.heap.size,0,none⟩,2,rfl,zV3 _,by decide,rfl,fun x hx=> ?_⟩
 have hb:=zCx W (.cells #[.bool s, .slice A n c, .slice D i j, .bool s', .slice A' n' c', .slice D' i' j'] 28)
 rcases (by simp at hx;omega:x=0∨x=1) with rfl|rfl
 ·exact ⟨_,0,_,_,_,p,rfl,zBQ W _ _ 0 _ rfl,zBQ W _ _ 1 _ rfl,zBQ W _ _ 2 _ rfl,rfl,hu.below hb⟩
 ·exact ⟨_,0,_,_,_,q,rfl,zBQ W _ _ 3 _ rfl,zBQ W _ _ 4 _ rfl,zBQ W _ _ 5 _ rfl,rfl,hv.below hb⟩
theorem zSi {W:Wi} {m:Nat} {v:Wj} {qs:List Rat} (M:Nat) (h:(fQS m qs).p v W) (hm0:0<m) (hM:M+m+1<=2000) (hp: ∀k,k<=qs.length->QB (zC5 qs k) M) (hT:Tab W):Calls prog 84 #[v] W (Ret W (fQN (zC5 qs qs.length)).tS):=by
 obtain ⟨A,c,rfl,h1,h2,h3⟩:=h
 exact zNt m M A qs.length c qs W h3 h1 h2 oO hm0 hM hp hT
theorem zQv {W:Wi} {m:Nat} {v:Wj} {qs:List Rat} (M:Nat) (h:(fQS m qs).p v W) (hm0:0<m) (hM:M+m+1<=2000) (hp: ∀k,k<=qs.length->QB (jB qs k) M) (hT:Tab W):Calls prog 110 #[v] W (Ret W (fQN (jB qs qs.length)).tS):=by
 obtain ⟨A,c,rfl,h1,h2,h3⟩:=h
 exact zNs m M A qs.length c qs W h3 h1 h2 oO hm0 hM hp hT
theorem QB.zero {m:Nat} (hm:0<m):QB 0 m:=⟨Nat.pow_pos qB,zDl hm⟩
theorem QB.one {m:Nat} (hm:0<m):QB 1 m:=⟨zDl hm,zDl hm⟩
theorem zQQ (p q:Rat):zC5 [p,q] 2=p+q:=by
 show (0+p)+q=_
 rw [Rat.zero_add]
theorem zLa (p q:Rat):jB [p,q] 2=p*q:=by
 show (1*p)*q=_
 rw [zWp]
theorem zKU {W:Wi} {m:Nat} {v:Wj} {p q:Rat} (h:(fQS m [p,q]).p v W) (hp:QB p m) (hq:QB q m) (hm:3*m+2<=2000) (hT:Tab W):Calls prog 84 #[v] W (Ret W (fQN (p+q)).tS):=by
 have:=zSi (m+m+1) h hp.pos oO (fun k hk=>by
  rcases (by simp at hk;omega:k=0∨k=1∨k=2) with rfl|rfl|rfl
  ·exact QB.zero oO
  ·show QB (0+p) _
   rw [Rat.zero_add]
   exact hp.mono oO
  ·rw [zQQ]
   exact hp.add hq) hT
 rw [show ([p,q]:List Rat).length=2 from rfl,zQQ] at this
 exact this
theorem zKO {W:Wi} {m:Nat} {v:Wj} {p q:Rat} (h:(fQS m [p,q]).p v W) (hp:QB p m) (hq:QB q m) (hm:3*m+2<=2000) (hT:Tab W):Calls prog 110 #[v] W (Ret W (fQN (p*q)).tS):=by
 have:=zQv (m+m) h hp.pos oO (fun k hk=>by
  have:=hp.pos
  rcases (by simp at hk;omega:k=0∨k=1∨k=2) with rfl|rfl|rfl
  ·exact QB.one oO
  ·show QB (1*p) _
   rw [zWp]
   exact hp.mono oO
  ·rw [zLa]
   exact hp.mul hq) hT
 rw [show ([p,q]:List Rat).length=2 from rfl,zLa] at this
 exact this
end Go.Proofs.Wd

namespace Go.Proofs.Wd
open Tryz
set_option maxRecDepth 100000
open Go.RowKit Lb
theorem zQx (p q:Rat):mkRat ((p).num*(if decide ((q).num<0) then -(((q).den:Nat):Int) else (((q).den:Nat):Int))) ((p).den*(q).num.natAbs)=p / q:=by
 have hp:p=(p.num:Rat) / (p.den:Rat):=by
  have:=Rat.mkRat_self p
  rw [Rat.mkRat_eq_div] at this
  exact this.symm
 have hq:q⁻¹=mkRat (if decide (q.num<0) then -(q.den:Int) else (q.den:Int)) q.num.natAbs:=by
  rw [Rat.inv_def]
  by_cases h:q.num<0
  ·rw [zWc h,if_pos rfl, <-Rat.divInt_ofNat, <-Rat.divInt_neg']
   congr 1
   omega
  ·rw [zWg h,if_neg dA, <-Rat.divInt_ofNat]
   congr 1
   omega
 rw [Rat.div_def,hq]
 conv=>rhs;rw [<-Rat.mkRat_self p]
 rw [Rat.mkRat_mul_mkRat]
theorem zO7 {W:Wi} {m:Nat} {v v':Wj} {q q':Rat} (h:RVp m q v W) (h':RVp m q' v' W) (hm:m<=650) (hm0:0<m) (hT:Tab W):Calls prog 82 #[v,v'] W (Ret W (fQN (q - q')).tS):=by
 have hq:QB q m:=h.qb hm0
 have hq':QB q' m:=h'.qb hm0
 refine yB [(fRV m q).tS,(fRV m q').tS] func82 rfl kH ⟨h,h',trivial⟩ fun a s=> ?_
 refine tX ?_
 refine zB 0 [] hmix s kH
  zD fun a w1 s=> ?_
 refine yO (CU.agg (fRV m q)) rfl s kH (fun v W h=>zAe h) fun b2 a w s=> ?_
 refine yO (CU.agg (fRV m q')) rfl s kH (fun v W h=>zAe h) fun b3 a w s=> ?_
 refine z7 (CU.len 3) (cs:=zR3) kH rfl s kH (fun W=>rfl) rfl fun b4 a w s=> ?_
 refine zA rfl ?_
 refine tX ?_
 refine z9 [] 5 ((5, .s ((fRV m q).tS))::(6, .s ((fRV m q').tS))::(7, .s ((fQN (-q')).tS))::(8, .s (fQS m [q,(-q')]))::(9, .u (fQN (q+ -q'))):: []) hmix s kH
  (oc (zK (f:=fRV m q) 3 kH (hz:=jD _ _))<|oc (zK (f:=fRV m q') 3 kH (hz:=jD _ _))<|oc (zH zE zTq (fun u0 W hb (h0:RVp m q' u0 W)=>zSj h0 oO hm0 (hT.below (s.up hb))))<|oc (yI (fun u v W (hu:RVp m q u W) (hv:QNp (-q') v W)=>zFG hu (wJ hv hq'.neg)))<|oc (zH zE zUq (fun u0 W hb (h0:(fQS m [q,(-q')]).p u0 W)=>zKU h0 hq hq'.neg oO (hT.below (s.up hb))))<|zD) fun Q' hQ a w2 s=> ?_
 refine zR (CU.agg (fQN (q+ -q'))) ((fQN (q+ -q')).tS) rfl s kH rfl rfl rfl iiz iiz yP fun a w s=> ?_
 refine zA rfl (hQ _ _ ?_)
 refine tY ?_
 exact wE s (CU.agg (fQN (q+ -q'))) rfl kH rfl rfl (jE _) (fun cs W h=>by rw [Rat.sub_eq_add_neg];exact h)
def UVx (n:Nat) (k:Int) (v:Wj) (w:Wi):Prop:= ∃s A c l,v= .agg #[.bool s, .slice A n c]/\Rd w A n c l/\Lt l/\iv s l=k
def LVx (n x:Nat) (v:Wj) (w:Wi):Prop:= ∃A c l,v= .slice A n c/\Rd w A n c l/\Lt l/\val l=x
def QXp (n n':Nat) (k:Int) (d:Nat) (v:Wj) (w:Wi):Prop:= ∃b s t,v= .agg #[b,s,t]/\UVx n k (.agg #[b,s]) w/\LVx n' d t w
def fQX (n n':Nat) (k:Int) (d:Nat):UF:= .mk' (QXp n n' k d) fun _ _ _ ⟨b,s,t,e,⟨sg,A,c,l,e1,h1,h2⟩,A',c',l',e2,h1',h2'⟩ u=>⟨b,s,t,e,⟨sg,A,c,l,e1,h1.keepU u,h2⟩,A',c',l',e2,h1'.keepU u,h2'⟩
theorem zT5 {n n' m:Nat} {k:Int} {d:Nat} {v:Wj} {W:Wi} (h:QXp n n' k d v W) (h1:n<=m) (h2:n'<=m):QVp m k d v W:=by
 obtain ⟨b,s,t,e,⟨sg,A,c,l,e1,g1,g2,g3⟩,A',c',l',e2,g1',g2',g3'⟩:=h
 exact ⟨b,s,t,e,⟨sg,A,n,c,l,e1,g1,g2,h1,g3⟩,A',n',c',l',e2,g1',g2',h2,g3'⟩
theorem zPa {n n':Nat} {k:Int} {d:Nat} (cs:List Wj) (W:Wi) (h:(CU.agg (fQX n n' k d)).p cs W): ∃u,cs[1]?=some u/\ ∃A c,u= .slice A n c:=by
 obtain ⟨b,s,t,e,⟨sg,A,c,l,e1,_⟩,_⟩:=h
 rw [zAO e]
 have:=zWe Array.toList (jH e1)
 simp at this
 exact ⟨s,rfl,A,c,this.2⟩
theorem zO9 {n n':Nat} {k:Int} {d:Nat} (cs:List Wj) (W:Wi) (h:(CU.agg (fQX n n' k d)).p cs W): ∃u,cs[2]?=some u/\ ∃A c,u= .slice A n' c:=by
 obtain ⟨b,s,t,e,_,A,c,l,e1,_⟩:=h
 rw [zAO e]
 exact ⟨t,rfl,A,c,e1⟩
def fSl (n:Nat):UF:= .mk' (fun v _=> ∃A c,v= .slice A n c) fun _ _ _ h _=>h
structure QX where
 n:Nat
 n':Nat
 k:Int
 d:Nat
abbrev QX.cu (x:QX):CU:=CU.agg (fQX x.n x.n' x.k x.d)
def zT6 (L:List QX) (k:Nat):Nat:=((L.take k).map fun x=>min (x.n+x.n') 1000).sum
def gq (L:List QX):Bool:=decide (((L.map QX.cu).length:Int)>60)||decide (((zT6 L (min (L.map QX.cu).length 61):Nat):Int)>40)
theorem wrap64 (u:Int) (r:Nat) (h:u=r) (hr:r<9223372036854775808):IntKind.i64.wrap u=r:=by
 subst h
 rw [IntKind.wrap_i64]
 omega
end Go.Proofs.Wd

namespace Go.Proofs.Wd
open Tryz
set_option maxRecDepth 100000
set_option maxHeartbeats 1000000
open Go.RowKit Lb
def T2 (m:Nat) (op:Rat->Rat->Rat) (xs:Array Wj) (W:Wi) (R:SF):Prop:= ∃u v p q,xs=#[u,v]/\RVp m p u W/\RVp m q v W/\Tab W/\R=(fQN (op p q)).tS
def T3 (m:Nat) (op:Rat->Rat->Rat) (xs:Array Wj) (W:Wi) (R:SF):Prop:= ∃u v, ∃p q:V2,xs=#[u,v]/\(fPV m p).p u W/\(fPV m q).p v W/\Tab W/\R=(fPN (op p.1 q.1,op p.2 q.2)).tS
def G1 (g:FuncId) (m:Nat) (op:Rat->Rat->Rat):Prop:= ∀(W:Wi) (s:Wj) (p q:Rat),(fQS m [p,q]).p s W->QB p m->QB q m->Tab W->Calls prog g #[s] W (Ret W (fQN (op p q)).tS)
theorem zD3 {u:Wj}: ∀cs W,(wC [u]).p cs W-> ∃x,cs[0]?=some x/\(UF.eq u).p x W:=fun cs W h=>by
 obtain rfl:cs= [u]:=h
 exact ⟨u,rfl,rfl⟩
theorem zI9 {u v:Wj} {W:Wi} (h:v=u) (hu:u.cells=#[u]) (hn:yA u=true:=by rfl):(wC [u]).p v.cells.toList W/\v.cells.toList.all yA=true:=by
 subst h
 rw [hu]
 exact ⟨rfl,by simp [hn]⟩
section
variable {F:Fence} {m:Nat} {P:Wn} {w0:Wi} {ops:Array Oper} {G:Nat->SF} {d:Tmp} {ty:Wk} {pos:String} {aft:Array Edge}
theorem zNZ {y:Wm} {g:FuncId} {xs:Array Wm} {ats:Array Wk} (hF:zGw F m P) (he:Enters P g) (hy: ∀v W,(fct G y).p v W->v= .func (.func g) #[] #[])
  (h: ∀(b:Act) (W:Wi),Below w0.heap.size w0 W->(∀x,x∈xs.toList->(fct G x).p (b.eval x) W)->Calls P g (xs.map b.eval) W (Ret W (G d))):
  qN F m P w0 ops G ⟨some d, .call ⟨.value y,xs,ats⟩,ty,pos,aft,none⟩:=
 zLu (fun args W R=>Calls P g args W (Ret W R)) hF (fun v W hv=>by rw [hy v W hv];exact ⟨g,#[],rfl,he,fun W' _ args R h=>by simpa using h⟩) h
theorem zLw {y x:Wm} {g:FuncId} {ats:Array Wk} (hF:zGw F m P) (he:Enters P g) (hy: ∀v W,(fct G y).p v W->v= .func (.func g) #[] #[]) (h: ∀u W,Below w0.heap.size w0 W->(fct G x).p u W->Calls P g #[u] W (Ret W (G d))):qN F m P w0 ops G ⟨some d, .call ⟨.value y,#[x],ats⟩,ty,pos,aft,none⟩:=
 zNZ hF he hy fun b W hb hh=>by simpa using h _ W hb (hh x (by simp))
end
theorem zSY {m:Nat} (hm:m<=650):G1 84 m (·+·):=fun _ _ _ _ h hp hq hT=>zKU h hp hq oO hT
theorem zSZ {m:Nat} (hm:m<=650) (hm0:0<m) (W:Wi):(SF.fn prog (T2 m (· - ·))).p (.func (.func 82) #[] #[]) W:=
 zJc (enters_of func82 kH rfl) fun W' _ args R ⟨u,v,p,q,e,h1,h2,hT,hR⟩=>by
  subst e hR
  simpa using zO7 h1 h2 hm hm0 hT
theorem zRT {g:FuncId} {m:Nat} {op:Rat->Rat->Rat} (eg:Enters prog g) (hg:G1 g m op) (hm0:0<m) {W:Wi} {u v b:Wj} {p q:Rat} (h1:RVp m p u W) (h2:RVp m q v W) (hb:(wB (wC [.func (.func g) #[] #[]]).cf).p b W) (hT:Tab W):Calls prog 103 #[u,v,b] W (Ret W (fQN (op p q)).tS):=by
 have hp:=h1.qb hm0
 have hq:=h2.qb hm0
 refine yB [(fRV m p).tS,(fRV m q).tS,wB (wC [.func (.func g) #[] #[]]).cf] func103 rfl kH ⟨h1,h2,hb,trivial⟩ fun a s=> ?_
 refine tX ?_
 refine zB 0 [] hmix s kH
  zD fun a w1 s=> ?_
 refine yO (CU.agg (fRV m p)) rfl s kH (fun v W h=>zAe h) fun b3 a w s=> ?_
 refine yO (CU.agg (fRV m q)) rfl s kH (fun v W h=>zAe h) fun b4 a w s=> ?_
 refine z7 (CU.len 3) (cs:=zR3) kH rfl s kH (fun W=>rfl) rfl fun b5 a w s=> ?_
 refine zA rfl ?_
 refine tX ?_
 refine zB 5 ((6, .s ((UF.eq (.func (.func g) #[] #[])).tS))::(7, .s ((fRV m p).tS))::(8, .s ((fRV m q).tS))::(9, .s (fQS m [p,q]))::(10, .u (fQN (op p q))):: []) hmix s kH
  (oc (zAn (C:=(wC [.func (.func g) #[] #[]]).cf) kH iiz zD3)<|oc (zK (f:=fRV m p) 3 kH (hz:=jD _ _))<|oc (zK (f:=fRV m q) 3 kH (hz:=jD _ _))<|oc (yI (fun u v W (hu:RVp m p u W) (hv:RVp m q v W)=>zFG hu hv))<|oc (zLw zE eg iiz (fun u W hb (h:(fQS m [p,q]).p u W)=>hg W u p q h hp hq (hT.below (s.up hb))))<|zD) fun a w2 s=> ?_
 refine zR (CU.agg (fQN (op p q))) ((fQN (op p q)).tS) rfl s kH rfl rfl rfl iiz iiz yP fun a w s=> ?_
 refine zA rfl ?_
 refine tY ?_
 exact wE s (CU.agg (fQN (op p q))) rfl kH rfl rfl (jE _) (fun cs W h=>h)
theorem zTP {g:FuncId} {m:Nat} {op:Rat->Rat->Rat} (eg:Enters prog g) (hg:G1 g m op) (hm0:0<m) {W:Wi} {u:Wj} (h:u= .func (.func g) #[] #[]):Calls prog 83 #[u] W (Ret W (SF.fn prog (T2 m op))):=by
 refine yB [(UF.eq (.func (.func g) #[] #[])).tS] func83 rfl kH ⟨h,trivial⟩ fun a s=> ?_
 refine tX ?_
 refine zB 0 [] hmix s kH
  zD fun a w1 s=> ?_
 refine yO (wC [.func (.func g) #[] #[]]) rfl s kH (fun v W h=>zI9 h (by rfl)) fun b1 a w s=> ?_
 refine yU (UF.eq (.nilFunc)) rfl s kH iiz fun a w s=> ?_
 refine zA rfl ?_
 refine tX ?_
 replace s:=s.drop [2]
 refine qM 2 ((3, .s (SF.fn prog (T2 m op)))::(2, .s (SF.fn prog (T2 m op))):: []) hmix s kH
  (oc (zEf (fun u W hb (h:(wF b1 (wC [.func (.func g) #[] #[]]).cf).p u W)=>zJc (enters_of func103 kH rfl) (fun W' hb' args R ⟨u1,v1,p,q,e,h1,h2,hT,hR⟩=>by subst e hR;simpa using zRT eg hg hm0 h1 h2 ((wB (wC [.func (.func g) #[] #[]]).cf).st _ _ _ h.2 hb') hT)))<|oc zG<|zD) fun a w2 s hr=> ?_
 refine zA rfl ?_
 refine tY ?_
 exact StS.resN s (zV5 _ _) rfl (hr (_,_) mz1)
theorem zPj {F:Fence} {m:Nat} {P:Wn} {w0:Wi} {ops:Array Oper} {G:Nat->SF} {d:Tmp} {ty:Wk} {pos:String} {aft:Array Edge} {y x x':Wm} {ats:Array Wk} (T:Array Wj->Wi->SF->Prop) (hF:zGw F m P) (hy: ∀v W,Below w0.heap.size w0 W->(fct G y).p v W->(SF.fn P T).p v W) (h: ∀u v W,Below w0.heap.size w0 W->(fct G x).p u W->(fct G x').p v W->T #[u,v] W (G d)):qN F m P w0 ops G ⟨some d, .call ⟨.value y,#[x,x'],ats⟩,ty,pos,aft,none⟩:=
 zLt T hF hy fun b W hb hh=>by simpa using h _ _ W hb (hh x (by simp)) (hh x' (by simp))
theorem zNR {m:Nat} {op:Rat->Rat->Rat} {W:Wi} {u v b f:Wj} {p q:V2} (h1:(fPV m p).p u W) (h2:(fPV m q).p v W) (hb:(wB (wC [f]).cf).p b W) (hf:(SF.fn prog (T2 m op)).p f W) (hT:Tab W):Calls prog 101 #[u,v,b] W (Ret W (fPN (op p.1 q.1,op p.2 q.2)).tS):=by
 refine yB [(fPV m p).tS,(fPV m q).tS,wB (wC [f]).cf] func101 rfl kH ⟨h1,h2,hb,trivial⟩ fun a s=> ?_
 refine tX ?_
 refine zB 0 [] hmix s kH
  zD fun a w1 s=> ?_
 refine yO (CU.agg (fPV m p)) rfl s kH (fun v W h=>yV h) fun b3 a w s=> ?_
 refine yO (CU.agg (fPV m q)) rfl s kH (fun v W h=>yV h) fun b4 a w s=> ?_
 refine z7 (CU.len 6) (cs:=zP6) kH rfl s kH (fun W=>rfl) rfl fun b5 a w s=> ?_
 refine zA rfl ?_
 refine tX ?_
 refine z9 [] 13 ((6, .s ((UF.eq f).tS))::(7, .s (wB ((CU.agg (fPV m p)).cf.at 0)))::(8, .s ((fRV m ((p).1)).tS))::(9, .s (wB ((CU.agg (fPV m q)).cf.at 0)))::(10, .s ((fRV m ((q).1)).tS))::(11, .s ((fQN (op (p).1 (q).1)).tS))::(12, .s ((UF.eq f).tS))::(13, .s (wB ((CU.agg (fPV m p)).cf.at 3)))::(14, .s ((fRV m ((p).2)).tS))::(15, .s (wB ((CU.agg (fPV m q)).cf.at 3)))::(16, .s ((fRV m ((q).2)).tS))::(17, .s ((fQN (op (p).2 (q).2)).tS))::(18, .u (fPN (op p.1 q.1,op p.2 q.2))):: []) hmix s kH
  (oc (zAn (C:=(wC [f]).cf) kH iiz zD3)<|oc (zJ (C:=(CU.agg (fPV m p)).cf) 0 kH)<|oc (zP (C:=(CU.agg (fPV m p)).cf) (k:=0) 3 kH (h:=zC7))<|oc (zJ (C:=(CU.agg (fPV m q)).cf) 0 kH)<|oc (zP (C:=(CU.agg (fPV m q)).cf) (k:=0) 3 kH (h:=zC7))<|oc (zPj (T2 m op) zE (fun v W hb h=>by rw [show v=f from h];exact (SF.fn prog (T2 m op)).st _ _ _ hf (s.up hb)) (fun u v W hb (h1:RVp m ((p).1) u W) (h2:RVp m ((q).1) v W)=>⟨u,v,_,_,rfl,h1,h2,hT.below (s.up hb),rfl⟩))<|oc (zAn (C:=(wC [f]).cf) kH iiz zD3)<|oc (zJ (C:=(CU.agg (fPV m p)).cf) 3 kH)<|oc (zP (C:=(CU.agg (fPV m p)).cf) (k:=3) 3 kH (h:=zC6))<|oc (zJ (C:=(CU.agg (fPV m q)).cf) 3 kH)<|oc (zP (C:=(CU.agg (fPV m q)).cf) (k:=3) 3 kH (h:=zC6))<|oc (zPj (T2 m op) zE (fun v W hb h=>by rw [show v=f from h];exact (SF.fn prog (T2 m op)).st _ _ _ hf (s.up hb)) (fun u v W hb (h1:RVp m ((p).2) u W) (h2:RVp m ((q).2) v W)=>⟨u,v,_,_,rfl,h1,h2,hT.below (s.up hb),rfl⟩))<|oc (qA (fun u v W (hu:QNp (op (p).1 (q).1) u W) (hv:QNp (op (p).2 (q).2) v W)=>zPT (zAu _) (zAu _) hu hv))<|zD) fun Q' hQ a w2 s=> ?_
 refine zR (CU.agg (fPN (op p.1 q.1,op p.2 q.2))) ((fPN (op p.1 q.1,op p.2 q.2)).tS) rfl s kH rfl rfl rfl iiz iiz y5 fun a w s=> ?_
 refine zA rfl (hQ _ _ ?_)
 refine tY ?_
 exact wE s (CU.agg (fPN (op p.1 q.1,op p.2 q.2))) rfl kH rfl rfl (zO _ _) (fun cs W h=>h)
theorem zLk {m:Nat} {op:Rat->Rat->Rat} {W:Wi} {f:Wj} (hf:(SF.fn prog (T2 m op)).p f W):Calls prog 81 #[f] W (Ret W (SF.fn prog (T3 m op))):=by
 have hfc:f.cells=#[f]/\yA f=true:=by obtain ⟨g,caps,rfl,_⟩:=hf;exact ⟨rfl,rfl⟩
 refine yB [(UF.eq f).tS] func81 rfl kH ⟨rfl,trivial⟩ fun a s=> ?_
 refine tX ?_
 refine zB 0 [] hmix s kH
  zD fun a w1 s=> ?_
 refine yO (wC [f]) rfl s kH (fun v W h=>zI9 h hfc.1 hfc.2) fun b1 a w s=> ?_
 refine yU (UF.eq (.nilFunc)) rfl s kH iiz fun a w s=> ?_
 refine zA rfl ?_
 refine tX ?_
 replace s:=s.drop [2]
 refine qM 2 ((3, .s (SF.fn prog (T3 m op)))::(2, .s (SF.fn prog (T3 m op))):: []) hmix s kH
  (oc (zEf (fun u W hb (h:(wF b1 (wC [f]).cf).p u W)=>zJc (enters_of func101 kH rfl) (fun W' hb' args R ⟨u1,v1,p,q,e,h1,h2,hT,hR⟩=>by subst e hR;simpa using zNR h1 h2 ((wB (wC [f]).cf).st _ _ _ h.2 hb') ((SF.fn prog (T2 m op)).st _ _ _ ((SF.fn prog (T2 m op)).st _ _ _ hf (s.up hb)) hb') hT)))<|oc zG<|zD) fun a w2 s hr=> ?_
 refine zA rfl ?_
 refine tY ?_
 exact StS.resN s (zV5 _ _) rfl (hr (_,_) mz1)
theorem zKo {m:Nat} {W:Wi} {u v:Wj} {p q:V2} (h1:(fPV m p).p u W) (h2:(fPV m q).p v W) (hm:m<=650) (hm0:0<m) (hT:Tab W):Calls prog 55 #[u,v] W (Ret W (fPN (p.1 - q.1,p.2 - q.2)).tS):=by
 refine yB [(fPV m p).tS,(fPV m q).tS] func55 rfl kH ⟨h1,h2,trivial⟩ fun a s=> ?_
 refine tX ?_
 refine zB 0 [] hmix s kH
  zD fun a w1 s=> ?_
 refine yO (CU.agg (fPV m p)) rfl s kH (fun v W h=>yV h) fun b2 a w s=> ?_
 refine yO (CU.agg (fPV m q)) rfl s kH (fun v W h=>yV h) fun b3 a w s=> ?_
 refine z7 (CU.len 6) (cs:=zP6) kH rfl s kH (fun W=>rfl) rfl fun b4 a w s=> ?_
 refine zA rfl ?_
 refine tX ?_
 refine z9 [] 4 ((5, .s (SF.fn prog (T3 m (· - ·))))::(6, .s ((fPV m p).tS))::(7, .s ((fPV m q).tS))::(8, .u (fPN (p.1 - q.1,p.2 - q.2))):: []) hmix s kH
  (oc (zH zE zS5 (fun u0 W hb h0=>by rw [show u0=_ from h0];exact zLk (zSZ hm hm0 W)))<|oc (zK (f:=fPV m p) 6 kH (hz:=zO _ _))<|oc (zK (f:=fPV m q) 6 kH (hz:=zO _ _))<|oc (zPk (T3 m (· - ·)) zE iiz (fun u v W hb (h1:(fPV m p).p u W) (h2:(fPV m q).p v W)=>⟨u,v,p,q,rfl,h1,h2,hT.below (s.up hb),rfl⟩))<|zD) fun Q' hQ a w2 s=> ?_
 refine zR (CU.agg (fPN (p.1 - q.1,p.2 - q.2))) ((fPN (p.1 - q.1,p.2 - q.2)).tS) rfl s kH rfl rfl rfl iiz iiz y5 fun a w s=> ?_
 refine zA rfl (hQ _ _ ?_)
 refine tY ?_
 exact wE s (CU.agg (fPN (p.1 - q.1,p.2 - q.2))) rfl kH rfl rfl (zO _ _) (fun cs W h=>h)
theorem zRQ {m:Nat} {W:Wi} {u v:Wj} {p q:V2} (h1:(fPV m p).p u W) (h2:(fPV m q).p v W) (hm:m<=650) (hm0:0<m) (hT:Tab W):Calls prog 56 #[u,v] W (Ret W (fPN (p.1+q.1,p.2+q.2)).tS):=by
 refine yB [(fPV m p).tS,(fPV m q).tS] func56 rfl kH ⟨h1,h2,trivial⟩ fun a s=> ?_
 refine tX ?_
 refine zB 0 [] hmix s kH
  zD fun a w1 s=> ?_
 refine yO (CU.agg (fPV m p)) rfl s kH (fun v W h=>yV h) fun b2 a w s=> ?_
 refine yO (CU.agg (fPV m q)) rfl s kH (fun v W h=>yV h) fun b3 a w s=> ?_
 refine z7 (CU.len 6) (cs:=zP6) kH rfl s kH (fun W=>rfl) rfl fun b4 a w s=> ?_
 refine zA rfl ?_
 refine tX ?_
 refine z9 [] 5 ((5, .s (SF.fn prog (T2 m (·+·))))::(6, .s (SF.fn prog (T3 m (·+·))))::(7, .s ((fPV m p).tS))::(8, .s ((fPV m q).tS))::(9, .u (fPN (p.1+q.1,p.2+q.2))):: []) hmix s kH
  (oc (zH zE zUr (fun u0 W hb h0=>zTP (enters_of func84 kH rfl) (zSY hm) hm0 h0))<|oc (zH zE zS5 (fun u0 W hb (h0:(SF.fn prog (T2 m (·+·))).p u0 W)=>zLk h0))<|oc (zK (f:=fPV m p) 6 kH (hz:=zO _ _))<|oc (zK (f:=fPV m q) 6 kH (hz:=zO _ _))<|oc (zPk (T3 m (·+·)) zE iiz (fun u v W hb (h1:(fPV m p).p u W) (h2:(fPV m q).p v W)=>⟨u,v,p,q,rfl,h1,h2,hT.below (s.up hb),rfl⟩))<|zD) fun Q' hQ a w2 s=> ?_
 refine zR (CU.agg (fPN (p.1+q.1,p.2+q.2))) ((fPN (p.1+q.1,p.2+q.2)).tS) rfl s kH rfl rfl rfl iiz iiz y5 fun a w s=> ?_
 refine zA rfl (hQ _ _ ?_)
 refine tY ?_
 exact wE s (CU.agg (fPN (p.1+q.1,p.2+q.2))) rfl kH rfl rfl (zO _ _) (fun cs W h=>h)
theorem zMV {m:Nat} {W:Wi} {u v:Wj} {p q:V2} (h1:(fPV m p).p u W) (h2:(fPV m q).p v W) (hp:QB p.1 m/\QB p.2 m) (hq:QB q.1 m/\QB q.2 m) (hm:m<=320) (hm0:0<m) (hT:Tab W):Calls prog 89 #[u,v] W (Ret W (fQN (p.1*q.2 - p.2*q.1)).tS):=by
 refine yB [(fPV m p).tS,(fPV m q).tS] func89 rfl kH ⟨h1,h2,trivial⟩ fun a s=> ?_
 refine tX ?_
 refine zB 0 [] hmix s kH
  zD fun a w1 s=> ?_
 refine yO (CU.agg (fPV m p)) rfl s kH (fun v W h=>yV h) fun b2 a w s=> ?_
 refine yO (CU.agg (fPV m q)) rfl s kH (fun v W h=>yV h) fun b3 a w s=> ?_
 refine z7 (CU.len 3) (cs:=zR3) kH rfl s kH (fun W=>rfl) rfl fun b4 a w s=> ?_
 refine zA rfl ?_
 refine tX ?_
 refine z9 [] 13 ((5, .s (wB ((CU.agg (fPV m p)).cf.at 0)))::(6, .s ((fRV m ((p).1)).tS))::(7, .s (wB ((CU.agg (fPV m q)).cf.at 3)))::(8, .s ((fRV m ((q).2)).tS))::(9, .s (fQS m [(p).1,(q).2]))::(10, .s ((fQN ((p).1*(q).2)).tS))::(11, .s (wB ((CU.agg (fPV m p)).cf.at 3)))::(12, .s ((fRV m ((p).2)).tS))::(13, .s (wB ((CU.agg (fPV m q)).cf.at 0)))::(14, .s ((fRV m ((q).1)).tS))::(15, .s (fQS m [(p).2,(q).1]))::(16, .s ((fQN ((p).2*(q).1)).tS))::(17, .u (fQN ((p).1*(q).2 - (p).2*(q).1))):: []) hmix s kH
  (oc (zJ (C:=(CU.agg (fPV m p)).cf) 0 kH)<|oc (zP (C:=(CU.agg (fPV m p)).cf) (k:=0) 3 kH (h:=zC7))<|oc (zJ (C:=(CU.agg (fPV m q)).cf) 3 kH)<|oc (zP (C:=(CU.agg (fPV m q)).cf) (k:=3) 3 kH (h:=zC6))<|oc (yI (fun u v W (hu:RVp m ((p).1) u W) (hv:RVp m ((q).2) v W)=>zFG hu hv))<|oc (zH zE zPK (fun u0 W hb (h0:(fQS m [(p).1,(q).2]).p u0 W)=>zKO h0 hp.1 hq.2 oO (hT.below (s.up hb))))<|oc (zJ (C:=(CU.agg (fPV m p)).cf) 3 kH)<|oc (zP (C:=(CU.agg (fPV m p)).cf) (k:=3) 3 kH (h:=zC6))<|oc (zJ (C:=(CU.agg (fPV m q)).cf) 0 kH)<|oc (zP (C:=(CU.agg (fPV m q)).cf) (k:=0) 3 kH (h:=zC7))<|oc (yI (fun u v W (hu:RVp m ((p).2) u W) (hv:RVp m ((q).1) v W)=>zFG hu hv))<|oc (zH zE zPK (fun u0 W hb (h0:(fQS m [(p).2,(q).1]).p u0 W)=>zKO h0 hp.2 hq.1 oO (hT.below (s.up hb))))<|oc (zI zE zUs (fun u0 u1 W hb (h0:QNp ((p).1*(q).2) u0 W) (h1:QNp ((p).2*(q).1) u1 W)=>zO7 (wJ h0 (hp.1.mul hq.2)) (wJ h1 (hp.2.mul hq.1)) oO oO (hT.below (s.up hb))))<|zD) fun Q' hQ a w2 s=> ?_
 refine zR (CU.agg (fQN ((p).1*(q).2 - (p).2*(q).1))) ((fQN ((p).1*(q).2 - (p).2*(q).1)).tS) rfl s kH rfl rfl rfl iiz iiz yP fun a w s=> ?_
 refine zA rfl (hQ _ _ ?_)
 refine tY ?_
 exact wE s (CU.agg (fQN (p.1*q.2 - p.2*q.1))) rfl kH rfl rfl (jE _) (fun cs W h=>h)
end Go.Proofs.Wd

namespace Lb
set_option maxHeartbeats 1000000
theorem zRR {l:List Nat} (ht:Lt l) {j s x:Nat} (hj:j<l.length) (hz: ∀i,i<j->lm l i=0) (hx:lm l j=2^s*x) (ho:x % 2=1):TZ (val l) (32*j+s)/\s<32:=by
 have hb:=qR ht j
 have hs:s<32:=by
  have h1:2^s*1<=2^s*x:=Nat.mul_le_mul_left _ oO
  rw [Nat.mul_one, <-hx] at h1
  exact (Nat.pow_lt_pow_iff_right dA).1 (tZ h1 (by rw [zVc] at hb;simpa using hb))
 refine ⟨?_,hs⟩
 have e0:val (l.take j)=0:=by
  rw [zFB oO]
  have:sm (lm l) j=sm (lm l) 0:=zCO (zV4 _) fun i _ hi=>hz i hi
  rw [this];rfl
 have e1:=jV l j oO
 rw [e0,Nat.zero_add,zBo hj,hx,zFz] at e1
 obtain ⟨y,hy⟩: ∃y,val (l.drop (j+1))=y:=⟨_,rfl⟩
 rw [hy,show BB=2^s*(2*2^(31 - s)) from by rw [<-Nat.pow_succ', <-Nat.pow_add,show s+(31 - s+1)=32 from by omega];rfl,zWq, <-Nat.mul_add, <-zWq, <-Nat.pow_add] at e1
 refine ⟨x / 2+2^(31 - s)*y, ?_⟩
 rw [e1]
 congr 1
 rw [Nat.mul_add, <-zWq]
 omega
end Lb
namespace Go.Proofs.Wd
open Tryz
open Go.RowKit Lb
theorem zMX (A:Wl Addr) (n c:Nat) (l:List Nat) (w:Wi) (h:Rd w A n c l) (ht:Lt l) (h0:0<val l) (hn:n<=2000):
  ∃q t:Nat,TZ (val l) (32*q+t)/\t<=31/\q<n/\Calls prog 113 #[.slice A n c] w fun e w'=>e= .returned (.int .i64 ((32*q+t:Nat):Int))/\w'=w:=by
 obtain ⟨j,hjn,hjz,hj0⟩: ∃j,j<n/\(∀i,i<j->lm l i=0)/\lm l j≠0:=by
  have hex: ∃j,lm l j≠0:=by
   refine zWJ fun hc=> ?_
   have hz: ∀i,lm l i=0:=fun i=>zWJ fun e=>hc ⟨i,e⟩
   have:sm (lm l) l.length=sm (lm l) 0:=zCO (zV4 _) fun i _ _=>hz i
   have e:val l=sm (lm l) l.length:=rfl
   rw [e,this] at h0
   simp [sm] at h0
  have hmin: ∀k,(∃j,j<=k/\lm l j≠0)-> ∃j,(∀i,i<j->lm l i=0)/\lm l j≠0:=by
   intro k
   induction k with
   |zero=>rintro ⟨j,hj,e⟩;exact ⟨j,fun i hi=>by omega,e⟩
   |succ k ih=>
    rintro ⟨j,hj,e⟩
    by_cases hk: ∃j,j<=k/\lm l j≠0
    ·exact ih hk
    ·exact ⟨j,fun i hi=>zWJ fun e'=>hk ⟨i,by omega,e'⟩,e⟩
  obtain ⟨j0,hj0⟩:=hex
  obtain ⟨j,h1,h2⟩:=hmin j0 ⟨j0,zV3 _,hj0⟩
  refine ⟨j, ?_,h1,h2⟩
  rw [<-h.len]
  exact Nat.lt_of_not_le fun e=>h2 (zDr e)
 obtain ⟨s,hs⟩:=vK (lm l j) oO
 obtain ⟨m,hm⟩:=hs
 obtain ⟨htz,hs32⟩:=zRR ht (s:=s) (x:=2*m+1) (by rw [h.len];exact hjn) hjz hm oO
 refine ⟨j,s,htz,by omega,hjn, ?_⟩
 have hb:=qR ht j
 have hle:=h.le;have hcap:=h.cap
 have HJZ:=hid hjz;have HM:=hid hm;have HB:=hid hb
 obtain ⟨d,hd⟩: ∃d:Nat->Nat,d=fun i=>2^(s - i)*(2*m+1):=⟨_,rfl⟩
 have hd0:d 0=lm l j:=by rw [hd,hm];rfl
 have hds:d s % 2=1:=by rw [hd];simp
 have hdi: ∀i,i<s->d i % 2=0/\d i / 2=d (i+1):=fun i hi=>by
  rw [hd]
  show 2^(s - i)*(2*m+1) % 2=0/\2^(s - i)*(2*m+1) / 2=2^(s - (i+1))*(2*m+1)
  rw [show s - i=(s - (i+1))+1 from by omega,Nat.pow_succ',zWq]
  omega
 have hdl: ∀i,d i<=d 0:=fun i=>by
  rw [hd]
  exact Nat.mul_le_mul_right _ (zWb oO oO)
 have HD0:=hid hd0;have HDS:=hid hds;have HDI:=hid hdi;have HDL:=hid hdl
 clear hd hd0 hds hdi hdl
 have HL:Hid (∀i,lm l i<4294967296):=hid fun i=>qR ht i
 clear hjz hm htz hb h0
 go_enter func113,ntmps113
 go_wp2
 go_loopw [3,4] (fun t i wr=> ∃k:Nat,k<=j/\i= .int .i64 k/\t= .int .i64 ((32*k:Nat):Int)/\wr=w) (fun _ i _=>j - (intOf i).toNat)
 case atStart=>exact ⟨0,zV4 _,rfl,rfl,rfl⟩
 case round=>
  obtain ⟨k,hk,rfl,rfl,rfl⟩:=hrel
  obtain ⟨b,o,rfl,hc⟩:=h.cells k oO
  by_cases hkj:k<j
  ·have hz:=HJZ.out k hkj
   rw [hz] at hc
   clear hz
   go_wp2
   go_roundw
   case rel=>exact ⟨k+1,by omega,by go_num,by go_num,trivial⟩
   case measure=>simp [intOf];omega
  ·obtain rfl:k=j:=by omega
   have hlk:=HL.out k
   obtain ⟨x,hx⟩: ∃x,lm l k=x:=⟨_,rfl⟩
   rw [hx] at hc hj0 hlk
   have HX:=hid hx
   clear hx
   have e1:((32*k:Nat):Int).tdiv 32=(k:Int):=by rw [zWK oO];omega
   have e2:(((32*k:Nat):Int) / 32)=(k:Int):=by omega
   have hx2:((x:Int)==0)=false:=by simpa using hj0
   go_wp2
   go_loopw [3,5] (fun t y wr2=> ∃i:Nat,i<=s/\t= .int .i64 ((32*k+i:Nat):Int)/\y= .int .u32 (d i:Nat)/\wr2=wr) (fun t _ _=>32*k+s - (intOf t).toNat)
   case atStart=>exact ⟨0,zV4 _,rfl,by rw [HD0.out,HX.out],rfl⟩
   case round=>
    obtain ⟨i,hi,rfl,rfl,rfl⟩:=hrel
    have hdx:=HDL.out i
    rw [HD0.out,HX.out] at hdx
    by_cases his:i<s
    ·obtain ⟨q1,q2⟩:=HDI.out i his
     obtain ⟨y,hy⟩: ∃y,d i=y:=⟨_,rfl⟩
     rw [hy] at q1 q2 hdx ⊢
     have HY:=hid q2
     clear q2 hy
     go_wp2
     go_roundw
     case rel=>exact ⟨i+1,by omega,by go_num,by rw [<-HY.out];go_num,trivial⟩
     case measure=>simp [intOf];omega
    ·obtain rfl:i=s:=by omega
     have q1:=HDS.out
     obtain ⟨y,hy⟩: ∃y,d i=y:=⟨_,rfl⟩
     rw [hy] at q1 hdx ⊢
     clear hy
     go_wp2
     go_ret
     exact ⟨rfl,rfl⟩
theorem zKN {W:Wi} {m:Nat} {v v':Wj} {a b:Nat} (h:LV W m v a) (h':LV W m v' b) (hm:m<=100000):Calls prog 70 #[v,v'] W (zMJ W (a*b)):=by
 obtain ⟨A,n,c,l,rfl,h1,h2,h3,rfl⟩:=h
 obtain ⟨A',n',c',l',rfl,h1',h2',h3',rfl⟩:=h'
 exact (zIF A n c l A' n' c' l' W h1 h1' h2 h2' oO oO).mono fun _ _=>jL.v
theorem zDI {W:Wi} {m:Nat} {v:Wj} {a:Nat} (h:LV W m v a) (hm:m<=100000):Calls prog 37 #[v] W (zMJ W a):=by
 obtain ⟨A,n,c,l,rfl,h1,h2,h3,rfl⟩:=h
 exact (jP A n c l W h1 h2 oO).mono fun _ _=>jL.v
theorem qU.open {W:Wi} {v:Wj} {x:Nat} (h:qU W v x): ∃A n c,v= .slice A n c/\(x=0->n=0)/\(0<x->0<n)/\n<=c/\c<=9223372036854775807/\qU W (.slice A n c) x:=by
 obtain ⟨A,n,c,l,rfl,h1,h2⟩:=h
 have h3:=h1.zero_iff;have h4:=h1.pos_iff
 rw [h2.len] at h3 h4
 exact ⟨A,n,c,rfl,h3.1,h4.1,h2.le,h2.cap,⟨A,n,c,l,rfl,h1,h2⟩⟩
end Go.Proofs.Wd

namespace Lb
set_option maxHeartbeats 2000000
theorem zPl {x k:Nat} (h:TZ x k):x / 2^k % 2=1/\x / 2^k<=x/\0<x / 2^k:=by
 have:=h.part.2
 exact ⟨this,zV9 _ _,Nat.pos_of_ne_zero fun e=>by rw [e] at this;simp at this⟩
def Bin (G x y:Nat):Prop:=0<y/\(x=0->y=G)/\ ∀i j,TZ x i->TZ y j->Nat.gcd (x / 2^i) (y / 2^j)=G
theorem Bin.start {a b i j:Nat} (hi:TZ a i) (hj:TZ b j):Bin (Nat.gcd (a / 2^i) (b / 2^j)) a b:=
 ⟨hj.pos,fun e=>by have:=hi.pos;omega,fun i' j' h1 h2=>by rw [h1.unique hi,h2.unique hj]⟩
theorem Bin.turn {G x y:Nat} (hx:x % 2=1) (hy:y % 2=1) (hg:Nat.gcd x y=G) (hle:y<=x):Bin G (x - y) y:=by
 refine ⟨by omega,fun e=> ?_,fun i j h1 h2=> ?_⟩
 ·have:x=y:=by omega
  rw [<-hg,this,Nat.gcd_self]
 ·have hj:j=0:=h2.unique (wT hy)
  rw [hj,Nat.pow_zero,Nat.div_one,Nat.gcd_comm,wY hy h1,Nat.gcd_comm,zGg hle,hg]
end Lb
namespace Go.Proofs.Wd
open Tryz
open Go.RowKit Lb
theorem zKR {W:Wi} {m:Nat} {A:Wl Addr} {n c:Nat} {x q t:Nat} (h:qU W (.slice A n c) x) (hx:x<BB^m) (hm:m<=2000) (htt:t<=31) (hq:q<n):Calls prog 114 #[.slice A n c, .int .i64 ((32*q+t:Nat):Int)] W (zMJ W (x / 2^(32*q+t))):=by
 obtain ⟨A1,n1,c1,l1,e1,h1,h2⟩:=h
 cases e1
 have hn:n<=m:=zHl h1 h2 hx
 have:=zKS A n c l1 q t W h2 h1.lt htt oO oO oO
 rw [h1.val] at this
 exact this.mono fun _ _=>jL.v
theorem zT1 {W:Wi} {m:Nat} {A:Wl Addr} {n c:Nat} {x q t:Nat} (h:LV W m (.slice A n c) x) (hm:m<=2000) (htt:t<=31) (hq:q<=2000):Calls prog 117 #[.slice A n c, .int .i64 ((32*q+t:Nat):Int)] W (zMJ W (x*2^(32*q+t))):=by
 obtain ⟨A1,n1,c1,l1,e1,h1,h2,h3,rfl⟩:=h
 cases e1
 exact (zKJ A n c l1 q t W h1 h2 htt oO oO).mono fun _ _=>jL.v
def zU5 (w:Wi) (x:Nat):Ending->Wi->Prop:=fun e w'=> ∃v,e= .returned (.tuple #[v, .int .i64 0])/\qU w' v x/\Below w.heap.size w w'
theorem zO4 {W:Wi} {m:Nat} {v v':Wj} {a b:Nat} (h:LV W m v a) (h':LV W m v' b) (hm:m<=2000) (hab:b<=a):Calls prog 116 #[v,v'] W (zU5 W (a - b)):=by
 obtain ⟨A,n,c,l,rfl,h1,h2,h3,rfl⟩:=h
 obtain ⟨A',n',c',l',rfl,h1',h2',h3',rfl⟩:=h'
 refine (zFL A n c l A' n' c' l' W h1 h1' h2 h2' hab oO).mono ?_
 rintro e w' ⟨A1,n1,c1,l1,rfl,i1,r1,hb⟩
 exact ⟨_,rfl,⟨A1,n1,c1,l1,rfl,i1,r1⟩,hb⟩
theorem zIo {W:Wi} {m:Nat} {A:Wl Addr} {n c:Nat} {x:Nat} (h:qU W (.slice A n c) x) (hx:x<BB^m) (hm:m<=2000) (h0:0<x):
  ∃q t:Nat,TZ x (32*q+t)/\t<=31/\q<n/\n<=m/\Calls prog 113 #[.slice A n c] W fun e w'=>e= .returned (.int .i64 ((32*q+t:Nat):Int))/\w'=W:=by
 obtain ⟨A1,n1,c1,l1,e1,h1,h2⟩:=h
 cases e1
 have hn:n<=m:=zHl h1 h2 hx
 obtain ⟨q,t,k1,k2,k3,k4⟩:=zMX A n c l1 W h2 h1.lt (by rw [h1.val];exact h0) oO
 rw [h1.val] at k1
 exact ⟨q,t,k1,k2,k3,hn,k4⟩
theorem qU.rdv {W:Wi} {v:Wj} {x:Nat} (h:qU W v x):rdv W v=x:=by
 obtain ⟨A1,n1,c1,l1,rfl,h1,h2⟩:=h
 exact h2.rdv h1
def RgI (w:Wi) (m G:Nat) (u v:Wj) (W:Wi):Prop:= ∃A n c A' n' c' x y,u= .slice A n c/\v= .slice A' n' c'/\qU W (.slice A n c) x/\qU W (.slice A' n' c') y/\x<BB^m/\y<BB^m/\Bin G x y/\Below w.heap.size w W
theorem zQO {W:Wi} {m:Nat} {v v':Wj} {a b:Nat} (h:LV W m v a) (h':LV W m v' b) (hm:m<=2000):Calls prog 93 #[v,v'] W (zMJ W (Nat.gcd a b)):=by
 have hla:=h.bound;have hlb:=h'.bound
 obtain ⟨A0,n0,c0,rfl,-,k1,k2,h⟩:=h.open
 obtain ⟨B0,m0,d0,rfl,-,k3,k4,h'⟩:=h'.open
 go_enter func93,ntmps93
 go_wp2_with fail
 refine (zDI h oO).mono ?_
 rintro e w1 ⟨va,rfl,ha,b1⟩
 obtain ⟨A,n,c,rfl,za,pa,ia,ja,ha⟩:=ha.open
 go_wp2_with fail
 refine (zDI (h'.below b1) oO).mono ?_
 rintro e w2 ⟨vb,rfl,hb,b2⟩
 obtain ⟨A',n',c',rfl,zb,pb,ib,jb,hb⟩:=hb.open
 have b02:=b1.trans (b2.mono b1.size)
 have ha2:=ha.below b2
 clear h h' ha b1 b2 k1 k2 k3 k4
 by_cases h0:a=0∨b=0
 ·have hg:Nat.gcd a b=a+b:=by
   rcases h0 with e|e
   ·rw [e];simp
   ·rw [e];simp
  have h00:n=0∨(0<n/\n'=0):=by
   rcases zWf n with e|e
   ·exact .inl e
   ·refine .inr ⟨e,zb (h0.resolve_left fun e'=> ?_)⟩
    have:=za e';omega
  have HG:=hid hg
  clear za pa zb pb h0 hg
  have ad:=zQz (ha2.lv hla) (hb.lv hlb) oO 24
  have bS:Below w2.heap.size w2 (w2.alloc (.cells #[.slice A n c, .slice A' n' c'] 24)):=(zV5 _ w2).alloc (zV3 _) _
  have HLA:=hid hla;have HLB:=hid hlb
  clear hla hlb
  rcases h00 with rfl|⟨e1,rfl⟩
  all_goals
   go_wp2_with fail
   refine ad.mono ?_
   rintro e w4 ⟨vs,rfl,hs,b4⟩
   go_wp2_with fail
   go_ret
   exact ⟨vs,rfl,by rw [HG.out];exact hs,b02.trans ((bS.trans (b4.mono bS.size)).mono b02.size)⟩
 ·have hn0:0<n:=pa oO
  have hn0':0<n':=pb oO
  have hnb:((n:Int)==0)=false:=by simp;omega
  have hnb':((n':Int)==0)=false:=by simp;omega
  obtain ⟨q,t,hz,ht,hq,hnm,htw⟩:=zIo ha2 hla hm oO
  obtain ⟨q',t',hz',ht',hq',hnm',htw'⟩:=zIo hb hlb hm oO
  have hgcd:=hz.gcd hz'
  have hbin:=Bin.start hz hz'
  have hG0:Nat.gcd (a / 2^(32*q+t)) (b / 2^(32*q'+t'))<BB^m:=zPv (tZ (zV9 _ _) hla) (tZ (zV9 _ _) hlb)
  obtain ⟨G,hG⟩: ∃G,Nat.gcd (a / 2^(32*q+t)) (b / 2^(32*q'+t'))=G:=⟨_,rfl⟩
  rw [hG] at hgcd hbin hG0
  obtain ⟨p,s,hs,hps,hpq⟩: ∃p s:Nat,s<=31/\p<=2000/\min (32*q+t) (32*q'+t')=32*p+s:=by
   rcases Nat.le_total (32*q+t) (32*q'+t') with e|e
   ·exact ⟨q,t,ht,by omega,by omega⟩
   ·exact ⟨q',t',ht',by omega,by omega⟩
  rw [hpq] at hgcd
  have hmin:min ((32*q+t:Nat):Int) ((32*q'+t':Nat):Int)=((32*p+s:Nat):Int):=by omega
  have HGC:=hid hgcd;have HBI:=hid hbin;have HG0:=hid hG0
  obtain ⟨k,hk⟩: ∃k,32*q+t=k:=⟨_,rfl⟩
  obtain ⟨k',hk'⟩: ∃k,32*q'+t'=k:=⟨_,rfl⟩
  rw [hk] at htw hmin
  rw [hk'] at htw' hmin
  obtain ⟨K,hK⟩: ∃K,32*p+s=K:=⟨_,rfl⟩
  rw [hK] at hmin
  have HK:=hid hK
  have hK2:K<=64500:=by omega
  have hk2:k<=64500:=by omega
  have hk2':k'<=64500:=by omega
  have HLA:=hid hla;have HLB:=hid hlb
  clear hgcd hbin hG0 hz hz' hG hpq hk hk' hK za pa zb pb hq hq' ht ht' hnm hnm' h0 hla hlb
  go_wp2_with fail
  refine htw.mono ?_
  rintro e w3 ⟨rfl,rfl⟩
  go_wp2_with fail
  refine htw'.mono ?_
  rintro e w3 ⟨rfl,rfl⟩
  go_wp2
  go_loopw [0,1] (RgI W m G) (fun u v wr=>rdv wr u+rdv wr v)
  case atStart=>exact ⟨A,n,c,A',n',c',a,b,rfl,rfl,ha2,hb,HLA.out,HLB.out,HBI.out,b02⟩
  case round=>
   clear ha2 hb b02 hn0 hn0' hnb hnb' htw htw' ia ja ib jb hmin
   obtain ⟨A1,n1,c1,A2,n2,c2,x,y,rfl,rfl,hx,hy,hxl,hyl,hbn,hB⟩:=hrel
   obtain ⟨_,_,_,e1,zx,px,ix,jx,_⟩:=hx.open
   cases e1
   obtain ⟨_,_,_,e1,zy,py,iy,jy,_⟩:=hy.open
   cases e1
   have hy0:=hbn.1
   have HBN:=hid hbn
   have HXL:=hid hxl;have HYL:=hid hyl
   rcases zWf n1 with h0|h0
   ·have hx0:x=0:=by
     rcases zWf x with e|e
     ·exact e
     ·have:=px e;omega
    have hyG:=hbn.2.1 hx0
    have HYG:=hid hyG
    have hup:=zT1 (q:=p) (t:=s) (hy.lv hyl) hm hs hps
    rw [HK.out] at hup
    subst h0
    clear hbn hxl hyl hx0 hyG zx px zy py
    go_wp2_with fail
    refine hup.mono ?_
    rintro e w5 ⟨v5,rfl,hv5,hb5⟩
    go_wp2_with fail
    go_ret
    exact ⟨v5,rfl,by rw [HGC.out,HK.out, <-HYG.out,Nat.mul_comm];exact hv5,hB.trans (hb5.mono hB.size)⟩
   ·have hx0:0<x:=Nat.pos_of_ne_zero fun e=>by have:=zx e;omega
    obtain ⟨q1,t1,z1,ht1,hq1,hnm1,htw1⟩:=zIo hx hxl hm hx0
    have hd1:=zKR hx hxl hm ht1 hq1
    obtain ⟨o1,o2,o3⟩:=zPl z1
    obtain ⟨k1,hk1⟩: ∃k,32*q1+t1=k:=⟨_,rfl⟩
    have hk1l:k1<=64500:=by omega
    rw [hk1] at htw1 hd1 z1 o1 o2 o3
    have Z1:=hid z1
    obtain ⟨X,hX⟩: ∃X,x / 2^k1=X:=⟨_,rfl⟩
    have HX:=hid hX
    rw [hX] at hd1 o1 o2 o3
    clear z1 hX hk1 ht1 hq1 hnm1 hbn zx px zy py
    have HO1:=hid o1
    have hrx:=hx.rdv;have hry:=hy.rdv
    have HRX:=hid hrx;have HRY:=hid hry
    clear hrx hry o1
    go_wp2_with fail
    refine htw1.mono ?_
    rintro e w5 ⟨rfl,rfl⟩
    go_wp2_with fail
    refine hd1.mono ?_
    rintro e w6 ⟨v6,rfl,h6,b6⟩
    obtain ⟨A6,n6,c6,rfl,z6,p6,i6,j6,h6⟩:=h6.open
    have hy6:=hy.below b6
    obtain ⟨q2,t2,z2,ht2,hq2,hnm2,htw2⟩:=zIo hy6 hyl hm hy0
    have hd2:=zKR hy6 hyl hm ht2 hq2
    obtain ⟨o4,o5,o6⟩:=zPl z2
    obtain ⟨k2,hk2⟩: ∃k,32*q2+t2=k:=⟨_,rfl⟩
    have hk2l:k2<=64500:=by omega
    rw [hk2] at htw2 hd2 z2 o4 o5 o6
    have Z2:=hid z2
    obtain ⟨Y,hY⟩: ∃Y,y / 2^k2=Y:=⟨_,rfl⟩
    have HY:=hid hY
    rw [hY] at hd2 o4 o5 o6
    clear z2 hY hk2 ht2 hq2 hnm2 htw1 hd1 z6 p6
    have HO4:=hid o4
    clear o4
    go_wp2_with fail
    refine htw2.mono ?_
    rintro e w7 ⟨rfl,rfl⟩
    go_wp2_with fail
    refine hd2.mono ?_
    rintro e w8 ⟨v8,rfl,h8,b8⟩
    obtain ⟨A8,n8,c8,rfl,z8,p8,i8,j8,h8⟩:=h8.open
    have h68:=h6.below b8
    have b68:=b6.trans (b8.mono b6.size)
    have hB8:=hB.trans (b68.mono hB.size)
    have hXl:X<BB^m:=tZ o2 HXL.out
    have hYl:Y<BB^m:=tZ o5 HYL.out
    have hXY:Nat.gcd X Y=G:=by rw [<-HX.out, <-HY.out];exact HBN.out.2.2 _ _ Z1.out Z2.out
    have HXY:=hid hXY
    obtain ⟨cz,hcz⟩: ∃cz,zAw X Y=cz:=⟨_,rfl⟩
    have hc1:=zSh (h68.lv hXl) (h8.lv hYl)
    have hcl:cz<0↔X<Y:=by
     rw [<-hcz]
     unfold zAw
     split
     ·exact ⟨fun _=>by assumption,fun _=>by omega⟩
     ·split
      ·exact ⟨fun h=>by omega,fun h=>by omega⟩
      ·exact ⟨fun h=>by omega,fun h=>by omega⟩
    rw [hcz] at hc1
    clear htw2 hd2 z8 p8 h6 hy6 hx hy hXY hcz hxl hyl
    have HXl:=hid hXl;have HYl:=hid hYl
    clear hXl hYl
    rcases Nat.lt_or_ge X Y with hlt|hge
    ·have hcz:cz<0:=hcl.2 hlt
     have hsb:=zO4 (h8.lv HYl.out) (h68.lv HXl.out) hm (zWo hlt)
     have hbt:=Bin.turn (G:=G) HO4.out HO1.out (by rw [Nat.gcd_comm];exact HXY.out) (zWo hlt)
     have HBT:=hid hbt
     clear hbt hcl
     go_wp2_with fail
     refine hc1.mono ?_
     rintro e w9 ⟨rfl,rfl⟩
     go_wp2_with fail
     refine hsb.mono ?_
     rintro e w10 ⟨v10,rfl,h10,b10⟩
     obtain ⟨A10,n10,c10,rfl,z10,p10,i10,j10,h10⟩:=h10.open
     clear z10 p10
     go_wp2_with fail
     refine ⟨⟨A10,n10,c10,A6,n6,c6,Y - X,X,rfl,rfl,h10,h68.below b10,tZ (Nat.sub_le _ _) HYl.out,HXl.out,HBT.out,hB8.trans (b10.mono hB8.size)⟩, ?_⟩
     show rdv _ _+rdv _ _<rdv _ _+rdv _ _
     rw [h10.rdv,(h68.below b10).rdv,HRX.out,HRY.out]
     omega
    ·have hcz: ¬cz<0:=fun e=>by have:=hcl.1 e;omega
     have hsb:=zO4 (h68.lv HXl.out) (h8.lv HYl.out) hm hge
     have hbt:=Bin.turn (G:=G) HO1.out HO4.out HXY.out hge
     have HBT:=hid hbt
     clear hbt hcl
     go_wp2_with fail
     refine hc1.mono ?_
     rintro e w9 ⟨rfl,rfl⟩
     go_wp2_with fail
     refine hsb.mono ?_
     rintro e w10 ⟨v10,rfl,h10,b10⟩
     obtain ⟨A10,n10,c10,rfl,z10,p10,i10,j10,h10⟩:=h10.open
     clear z10 p10
     go_wp2_with fail
     refine ⟨⟨A10,n10,c10,A8,n8,c8,X - Y,Y,rfl,rfl,h10,h8.below b10,tZ (Nat.sub_le _ _) HXl.out,HYl.out,HBT.out,hB8.trans (b10.mono hB8.size)⟩, ?_⟩
     show rdv _ _+rdv _ _<rdv _ _+rdv _ _
     rw [h10.rdv,(h8.below b10).rdv,HRX.out,HRY.out]
     omega
theorem zSl {W:Wi} {u:Wj} (k:Int) (hu:u= .int .i64 k) (h: -9223372036854775808<=k/\k<=9223372036854775807):Calls prog 43 #[u] W (zGx W k):=by
 subst hu
 exact zSm k h
end Go.Proofs.Wd

namespace Go.Proofs.Wd
open Tryz
set_option maxRecDepth 100000
open Go.RowKit Lb
def zMa:Nat:=10000
theorem zSN {x:Nat} (h:x<18446744073709551616) (m:Nat) (hm:2<=m):x<BB^m:=zV8 h (zV7 (show 18446744073709551616<=BB^2 by decide) (zWb qB hm))
theorem zGV {W:Wi} {m:Nat} {v:Wj} {x:Nat} (h:LV W m v x) (hm:m<=100000):Calls prog 91 #[v] W (Ret W (zAj (UF.eq (.int .u64 ((zM x:Nat):Int))) (fB (yX x))).tS):=by
 obtain ⟨A,n,c,l,rfl,h1,h2,h3,rfl⟩:=h
 refine (zJD A n c l W h1 h2 oO).mono ?_
 rintro e w' ⟨rfl,hb⟩
 exact ⟨_,rfl,⟨_,_,rfl,rfl,rfl⟩,hb⟩
theorem zO8 {W:Wi} {v:Wj} (x:Nat) (hx:x<18446744073709551616) (hv:v= .int .u64 (x:Int)):Calls prog 71 #[v] W (Ret W (jA x).tS):=by
 subst hv
 exact (zHP x hx W).mono fun _ _ h=>jL.v h
theorem zAJ (x:Nat):zM x<18446744073709551616:=by unfold zM;split<;>omega
theorem zLq {F:Fence} {m:Nat} {P:Wn} {w0:Wi} {ops:Array Oper} {G:Nat->SF} {d:Tmp} {ty:Wk} {pos:String} {aft:Array Edge} {t:Wk} {x y:Wm} {t':Wk} (k:IntKind) (u v r:Int) (hx: ∀q W,(fct G x).p q W->q= .int k u) (hy: ∀q W,(fct G y).p q W->q= .int k v) (hv:v≠0) (hr:k.wrap (u.tdiv v)=r) (hd: ∀W,(G d).p (.int k r) W:=by exact fun _=>rfl):qN F m P w0 ops G ⟨some d, .binOp .quo t x y t',ty,pos,aft,none⟩:=
 zDn (.int k u) (.int k v) (.int k r) hx hy (fun W=>by simp [eqGuard]) (fun W=>by simp [binOp,Op.intDiv,hv,hr]) hd
theorem zRO (u:Int) (r:Nat) (h:u=r) (hr:r<18446744073709551616):IntKind.u64.wrap u=r:=by
 subst h
 rw [IntKind.wrap_u64]
 omega
theorem zIR {W:Wi} {v:Wj} {x:Nat} (h:qU W v x):Calls prog 42 #[v] W (Ret W (fNV (x:Int)).tS):=by
 refine yB [(jA x).tS] func42 rfl kH ⟨h,trivial⟩ fun a s=> ?_
 refine tX ?_
 refine zB 0 [] hmix s kH
  zD fun a w1 s=> ?_
 refine z7 (CU.len 2) (cs:= [.bool false, .slice none 0 0]) kH rfl s kH (fun W=>rfl) rfl fun b2 a w s=> ?_
 refine zA rfl ?_
 refine tX ?_
 refine zB 2 ((3, .s ((jA x).tS))::(4, .u (fNV (x:Int))):: []) hmix s kH
  (oc zC<|oc (zEQ (fun u W (hu:qU W u x)=>zMz hu))<|zD) fun a w2 s=> ?_
 refine zR (CU.agg (fNV (x:Int))) ((fNV (x:Int)).tS) rfl s kH rfl rfl rfl iiz iiz zF5 fun a w s=> ?_
 refine zA rfl ?_
 refine tY ?_
 exact wE s (CU.agg (fNV (x:Int))) rfl kH rfl rfl (zPm _) (fun cs W h=>h)
theorem zDX {W:Wi} {v:Wj} (z:Int) (hv:v= .int .i64 z) (hz: -9223372036854775808<=z/\z<=9223372036854775807):Calls prog 14 #[v] W (Ret W (fQN (z:Rat)).tS):=by
 refine yB [(fI z).tS] func14 rfl kH ⟨hv,trivial⟩ fun a s=> ?_
 refine tX ?_
 refine zB 0 [] hmix s kH
  zD fun a w1 s=> ?_
 refine z7 (CU.len 3) (cs:=zR3) kH rfl s kH (fun W=>rfl) rfl fun b2 a w s=> ?_
 refine zA rfl ?_
 refine tX ?_
 refine zB 4 ((3, .s ((uI z).tS))::(4, .s ((fNV z).tS))::(5, .s ((jA 1).tS))::(6, .u (fQN (z:Rat))):: []) hmix s kH
  (oc zC<|oc (zH zE zUJ (fun u0 W hb (h0:u0= .int .i64 z)=>zSl z h0 hz))<|oc (zAW (fun u W (hu:u= .int .u32 1)=>zO1 hu))<|oc (qA (fun u v W (hu:NV W u z) (hv:qU W v 1)=>zHu (q:=(z:Rat)) hu hv))<|zD) fun a w2 s=> ?_
 refine zR (CU.agg (fQN (z:Rat))) ((fQN (z:Rat)).tS) rfl s kH rfl rfl rfl iiz iiz yP fun a w s=> ?_
 refine zA rfl ?_
 refine tY ?_
 exact wE s (CU.agg (fQN (z:Rat))) rfl kH rfl rfl (jE _) (fun cs W h=>h)
theorem zD0 (k:Int) (d:Nat) (h:0<d):(if decide (k<0) then -((k.natAbs / Nat.gcd k.natAbs d:Nat):Int) else ((k.natAbs / Nat.gcd k.natAbs d:Nat):Int))=(mkRat k d).num:=by
 have h1:=zDq k d h
 have h2:=zB3 k d h
 rw [<-h1, <-h2]
 by_cases hs:(mkRat k d).num<0
 ·rw [zWc hs,if_pos rfl]
  omega
 ·rw [zWg hs,if_neg dA]
  omega
theorem zQE {W:Wi} {m:Nat} {v v':Wj} {k:Int} {d:Nat} (h:UV W m v k) (h':LV W m v' d) (hm:m<=2000) (hd:d=0):Calls prog 67 #[v,v'] W (Ret W (zAj (fQN (mkRat k d)) (fI 30)).tS):=by
 have bk:k.natAbs<BB^m:=h.bound
 have hz:true=decide (d=0):=(zWc hd).symm
 have hq0:mkRat k d=((0:Int):Rat):=by rw [hd,zWn];rfl
 refine yB [(fUV m k).tS,(fLV m d).tS] func67 rfl kH ⟨h,h',trivial⟩ fun a s=> ?_
 refine tX ?_
 refine zB 0 [] hmix s kH
  zD fun a w1 s=> ?_
 refine yO (CU.agg (fUV m k)) rfl s kH (fun v W h=>zOT h) fun b2 a w s=> ?_
 refine z7 (CU.len 3) (cs:=zR3) kH rfl s kH (fun W=>rfl) rfl fun b4 a w s=> ?_
 refine yU (uI 0) rfl s kH iiz fun a w s=> ?_
 refine zA rfl ?_
 refine tX ?_
 refine tX ?_
 refine zB 4 ((18, .s ((fLV m d).tS))::(19, .s ((jA d).tS))::(20, .s (zPG d))::(21, .u (uB true)):: []) hmix s kH
  (oc zC<|oc (zH zE zOz (fun u0 W hb (h0:LV W m u0 d)=>(zDI h0 oO)))<|oc (zDO kH iiz)<|oc (zDP hz)<|zD) fun a w2 s=> ?_
 refine zA rfl ?_
 refine StS.cond s true iiz (fun e=> ?_) (fun e=>by cases e)
 refine tX ?_
 replace s:=s.drop [5]
 refine zB 1 ((22, .u (fQN ((0:Int):Rat))):: []) hmix s kH
  (oc (zH zE zHp (fun u0 W hb (h0:u0= .int .i64 0)=>zDX 0 h0 dA))<|zD) fun a w3 s=> ?_
 refine zR (CU.agg (fQN ((0:Int):Rat))) ((fQN ((0:Int):Rat)).tS) rfl s kH rfl rfl rfl iiz iiz yP fun a w s=> ?_
 refine yU (uI 30) rfl s kH iiz fun a w s=> ?_
 refine zA rfl ?_
 refine tY ?_
 exact wR s (CU.agg (fQN ((0:Int):Rat))) rfl kH rfl rfl (jE _) (fun cs v W h1 h2=>⟨_,_,rfl,by rw [hq0];exact h1,h2⟩)
theorem zK1 {W:Wi} {m:Nat} {v v':Wj} {k:Int} {d:Nat} (h:UV W m v k) (h':LV W m v' d) (hm:m<=2000) (hd0:0<d):Calls prog 67 #[v,v'] W (Ret W (zAj (fQN (mkRat k d)) (fI 0)).tS):=by
 have bk:k.natAbs<BB^m:=h.bound
 have hz:false=decide (d=0):=(zWg oO).symm
 have hdiv: ∀W u0 u1 x,LV W m u0 x->qU W u1 (Nat.gcd k.natAbs d)->Calls prog 94 #[u0,u1] W (Ret W (zFc (jA (x / (Nat.gcd k.natAbs d))) (jA (x % (Nat.gcd k.natAbs d))) (fI 0)).tS):=fun W u0 u1 x h1 h2=>by
  refine (zSg h1 (qU.lv (m:=m) h2 (tZ (Nat.gcd_le_right _ hd0) h'.bound)) oO (zWQ _ hd0)).mono ?_
  rintro e w' ⟨v1,v2,rfl,h3,h4,hb⟩
  exact ⟨_,rfl,⟨v1,v2,_,rfl,h3,h4,rfl⟩,hb⟩
 refine yB [(fUV m k).tS,(fLV m d).tS] func67 rfl kH ⟨h,h',trivial⟩ fun a s=> ?_
 refine tX ?_
 refine zB 0 [] hmix s kH
  zD fun a w1 s=> ?_
 refine yO (CU.agg (fUV m k)) rfl s kH (fun v W h=>zOT h) fun b2 a w s=> ?_
 refine z7 (CU.len 3) (cs:=zR3) kH rfl s kH (fun W=>rfl) rfl fun b4 a w s=> ?_
 refine yU (uI 0) rfl s kH iiz fun a w s=> ?_
 refine zA rfl ?_
 refine tX ?_
 refine tX ?_
 refine zB 4 ((18, .s ((fLV m d).tS))::(19, .s ((jA d).tS))::(20, .s (zPG d))::(21, .u (uB false)):: []) hmix s kH
  (oc zC<|oc (zH zE zOz (fun u0 W hb (h0:LV W m u0 d)=>(zDI h0 oO)))<|oc (zDO kH iiz)<|oc (zDP hz)<|zD) fun a w2 s=> ?_
 refine zA rfl ?_
 refine StS.cond s false iiz (fun e=>by cases e) (fun e=> ?_)
 refine zV6 ?_
 refine tX ?_
 refine zB 2 ((23, .s ((fUV m k).tS))::(24, .u (fNV k)):: []) hmix s kH
  (oc (zK (f:=fUV m k) 2 kH (hz:=zOS _ _))<|oc (zH zE zRx (fun u0 W hb (h0:UV W m u0 k)=>zFT h0 oO))<|zD) fun a w3 s=> ?_
 refine zR (CU.agg (fNV k)) ((fNV k).tS) rfl s kH rfl rfl rfl (zOS _ _) iiz zF5 fun a w s=> ?_
 refine zA rfl ?_
 refine tX ?_
 refine zB 8 ((26, .s (wB ((CU.agg (fNV k)).cf.at 1)))::(27, .s ((jA ((k).natAbs)).tS))::(28, .s ((zAj (UF.eq (.int .u64 ((zM ((k).natAbs):Nat):Int))) (uB (yX ((k).natAbs)))).tS))::(25, .s ((zAj (UF.eq (.int .u64 ((zM ((k).natAbs):Nat):Int))) (uB (yX ((k).natAbs)))).tS))::(29, .s ((UF.eq (.int .u64 ((zM ((k).natAbs):Nat):Int))).tS))::(30, .s ((uB (yX ((k).natAbs))).tS))::(6, .u (UF.eq (.int .u64 ((zM ((k).natAbs):Nat):Int))))::(7, .u (uB (yX ((k).natAbs)))):: []) hmix s kH
  (oc (zJ (C:=(CU.agg (fNV k)).cf) 1 kH)<|oc (jF (C:=(CU.agg (fNV k)).cf) (k:=1) kH (h:=zG9))<|oc (zH zE zS4 (fun u0 W hb (h0:qU W u0 ((k).natAbs))=>zGV (qU.lv (m:=m) h0 bk) oO))<|oc zC<|oc (zAp (A:=(UF.eq (.int .u64 ((zM ((k).natAbs):Nat):Int))).tS) (B:=(uB (yX ((k).natAbs))).tS) iiz)<|oc (zAo (A:=(UF.eq (.int .u64 ((zM ((k).natAbs):Nat):Int))).tS) (B:=(uB (yX ((k).natAbs))).tS) iiz)<|oc zG<|oc zG<|zD) fun a w4 s=> ?_
 refine zA rfl ?_
 refine tX ?_
 refine zB 7 ((32, .s ((fLV m d).tS))::(33, .s ((zAj (UF.eq (.int .u64 ((zM d:Nat):Int))) (uB (yX d))).tS))::(31, .s ((zAj (UF.eq (.int .u64 ((zM d:Nat):Int))) (uB (yX d))).tS))::(34, .s ((UF.eq (.int .u64 ((zM d:Nat):Int))).tS))::(35, .s ((uB (yX d)).tS))::(8, .u (UF.eq (.int .u64 ((zM d:Nat):Int))))::(9, .u (uB (yX d))):: []) hmix s kH
  (oc zC<|oc (zH zE zS4 (fun u0 W hb (h0:LV W m u0 d)=>zGV h0 oO))<|oc zC<|oc (zAp (A:=(UF.eq (.int .u64 ((zM d:Nat):Int))).tS) (B:=(uB (yX d)).tS) iiz)<|oc (zAo (A:=(UF.eq (.int .u64 ((zM d:Nat):Int))).tS) (B:=(uB (yX d)).tS) iiz)<|oc zG<|oc zG<|zD) fun a w5 s=> ?_
 refine zA rfl ?_
 refine tX ?_
 refine tX ?_
 refine zB 4 ((36, .s ((uB (yX ((k).natAbs))).tS))::(37, .s ((uB (yX ((k).natAbs))).tS))::(38, .s (SF.imp ((yX ((k).natAbs))=true) ((uB (yX d)).tS)))::(39, .u (uB ((yX ((k).natAbs))&&(yX d)))):: []) hmix s kH
  (oc zC<|oc zC<|oc (zF 37 (yX ((k).natAbs)) kH iiz (fun e=>z4 [] ((uB (yX d)).tS) fnz (fun _ _ h _=>h) kH zC) (fun e W h=>absurd h e))<|oc (y6 (yX ((k).natAbs)) iiz (fun e v W h=>zBc (zQ e h) e) (fun e v W h=>zAy h e))<|zD) fun a w6 s=> ?_
 refine zA rfl ?_
 refine StS.cond s ((yX ((k).natAbs))&&(yX d)) iiz (fun e=> ?_) (fun e=> ?_)
 ·rw [zWr] at e
  have hs1:zM k.natAbs=k.natAbs:=by have:=e.1;unfold yX at this;unfold zM;rw [if_pos (zGf this)]
  have hs2:zM d=d:=by have:=e.2;unfold yX at this;unfold zM;rw [if_pos (zGf this)]
  have hg0:((Nat.gcd (zM k.natAbs) (zM d):Nat):Int)≠0:=by rw [hs1,hs2];have:=zWQ k.natAbs hd0;omega
  have hden:(mkRat k d).den=zM d / (Nat.gcd (zM k.natAbs) (zM d)):=by rw [hs1,hs2];exact zCp k d hd0
  have hlt: ∀x,x<18446744073709551616->x<BB^zMa:=fun x hx=>zSN hx _ dA
  have hnum: ∀W u,UV W zMa u (if decide (k<0) then -(((zM k.natAbs / (Nat.gcd (zM k.natAbs) (zM d))):Nat):Int) else (((zM k.natAbs / (Nat.gcd (zM k.natAbs) (zM d))):Nat):Int))->Calls prog 66 #[u] W (zGx W (mkRat k d).num):=fun W u hu=>by
   have:=zFT hu dA
   rw [hs1,hs2,zD0 k d hd0] at this
   exact this
  refine tX ?_
  refine zB 4 ((40, .s ((UF.eq (.int .u64 ((zM ((k).natAbs):Nat):Int))).tS))::(41, .s ((UF.eq (.int .u64 ((zM d:Nat):Int))).tS))::(42, .s ((UF.eq (.int .u64 ((Nat.gcd (zM k.natAbs) (zM d):Nat):Int))).tS))::(10, .u (UF.eq (.int .u64 ((Nat.gcd (zM k.natAbs) (zM d):Nat):Int)))):: []) hmix s kH
   (oc zC<|oc zC<|oc (zI zE zUl (fun u0 u1 W hb (h0:u0= .int .u64 ((zM ((k).natAbs):Nat):Int)) (h1:u1= .int .u64 ((zM d:Nat):Int))=>zK0 _ _ h0 h1 (zAJ _) (zAJ _)))<|oc zG<|zD) fun a w7 s=> ?_
  refine zA rfl ?_
  refine tX ?_
  replace s:=s.drop [5]
  refine z9 [2,3,8,9] 13 ((43, .s (wB ((CU.agg (fNV k)).cf.at 0)))::(44, .s ((uB (decide (k<0))).tS))::(45, .s ((UF.eq (.int .u64 ((zM ((k).natAbs):Nat):Int))).tS))::(46, .s ((UF.eq (.int .u64 ((Nat.gcd (zM k.natAbs) (zM d):Nat):Int))).tS))::(47, .s ((UF.eq (.int .u64 ((zM k.natAbs / (Nat.gcd (zM k.natAbs) (zM d)):Nat):Int))).tS))::(48, .s ((jA (zM k.natAbs / (Nat.gcd (zM k.natAbs) (zM d)))).tS))::(49, .s ((fUV zMa (if decide (k<0) then -((zM k.natAbs / (Nat.gcd (zM k.natAbs) (zM d)):Nat):Int) else ((zM k.natAbs / (Nat.gcd (zM k.natAbs) (zM d)):Nat):Int))).tS))::(50, .s ((fNV ((mkRat k d).num)).tS))::(51, .s ((UF.eq (.int .u64 ((zM d:Nat):Int))).tS))::(52, .s ((UF.eq (.int .u64 ((Nat.gcd (zM k.natAbs) (zM d):Nat):Int))).tS))::(53, .s ((UF.eq (.int .u64 ((zM d / (Nat.gcd (zM k.natAbs) (zM d)):Nat):Int))).tS))::(54, .s ((jA (zM d / (Nat.gcd (zM k.natAbs) (zM d)))).tS))::(55, .u (fQN (mkRat k d))):: []) hmix s kH
   (oc (zJ (C:=(CU.agg (fNV k)).cf) 0 kH)<|oc (jF (C:=(CU.agg (fNV k)).cf) (k:=0) kH (h:=zLx))<|oc zC<|oc zC<|oc (zLq .u64 ((zM ((k).natAbs):Nat):Int) ((Nat.gcd (zM k.natAbs) (zM d):Nat):Int) ((zM k.natAbs / (Nat.gcd (zM k.natAbs) (zM d)):Nat):Int) iiz iiz hg0 (zRO _ _ (by rw [zWK oO,Int.natCast_ediv]) (tZ (zV9 _ _) (zAJ _))))<|oc (zH zE zS7 (fun u0 W hb (h0:u0= .int .u64 ((zM k.natAbs / (Nat.gcd (zM k.natAbs) (zM d)):Nat):Int))=>zO8 _ (tZ (zV9 _ _) (zAJ _)) h0))<|oc (qA (fun u v W (hu:u= .bool (decide (k<0))) (hv:qU W v (zM k.natAbs / (Nat.gcd (zM k.natAbs) (zM d))))=>zRH hu hv (hlt _ (by first|exact tZ (zV9 _ _) (zAJ _)|exact hk64|exact tZ (zV9 _ _) (zV8 bk (zWb qB (zV7 hm dA)))))))<|oc (zH zE zRx (fun u0 W hb (h0:UV W zMa u0 (if decide (k<0) then -((zM k.natAbs / (Nat.gcd (zM k.natAbs) (zM d)):Nat):Int) else ((zM k.natAbs / (Nat.gcd (zM k.natAbs) (zM d)):Nat):Int)))=>hnum W u0 (h0:UV W zMa u0 _)))<|oc zC<|oc zC<|oc (zLq .u64 ((zM d:Nat):Int) ((Nat.gcd (zM k.natAbs) (zM d):Nat):Int) ((zM d / (Nat.gcd (zM k.natAbs) (zM d)):Nat):Int) iiz iiz hg0 (zRO _ _ (by rw [zWK oO,Int.natCast_ediv]) (tZ (zV9 _ _) (zAJ _))))<|oc (zH zE zS7 (fun u0 W hb (h0:u0= .int .u64 ((zM d / (Nat.gcd (zM k.natAbs) (zM d)):Nat):Int))=>zO8 _ (tZ (zV9 _ _) (zAJ _)) h0))<|oc (qA (fun u v W (hu:NV W u ((mkRat k d).num)) (hv:qU W v (zM d / (Nat.gcd (zM k.natAbs) (zM d))))=>zHu (q:=mkRat k d) hu (by first|exact hv|(rw [hden];exact hv))))<|zD) fun Q' hQ a w8 s=> ?_
  refine zR (CU.agg (fQN (mkRat k d))) ((fQN (mkRat k d)).tS) rfl s kH rfl rfl rfl iiz iiz yP fun a w s=> ?_
  refine yU (uI 0) rfl s kH iiz fun a w s=> ?_
  refine zA rfl (hQ _ _ ?_)
  refine tY ?_
  exact wR s (CU.agg (fQN (mkRat k d))) rfl kH rfl rfl (jE _) (fun cs v W h1 h2=>⟨_,_,rfl,h1,h2⟩)
 ·have hlt: ∀x,x<BB^zMa->x<BB^zMa:=fun x hx=>hx
  have hden:(mkRat k d).den=d / (Nat.gcd k.natAbs d):=zCp k d hd0
  have hnum: ∀W u,UV W zMa u (if decide (k<0) then -((((k).natAbs / (Nat.gcd k.natAbs d)):Nat):Int) else ((((k).natAbs / (Nat.gcd k.natAbs d)):Nat):Int))->Calls prog 66 #[u] W (zGx W (mkRat k d).num):=fun W u hu=>by
   have:=zFT hu dA
   rw [zD0 k d hd0] at this
   exact this
  refine zV6 ?_
  refine tX ?_
  refine zB 5 ((56, .s (wB ((CU.agg (fNV k)).cf.at 1)))::(57, .s ((jA ((k).natAbs)).tS))::(58, .s ((fLV m d).tS))::(59, .s ((jA (Nat.gcd k.natAbs d)).tS))::(11, .u (jA (Nat.gcd k.natAbs d))):: []) hmix s kH
   (oc (zJ (C:=(CU.agg (fNV k)).cf) 1 kH)<|oc (jF (C:=(CU.agg (fNV k)).cf) (k:=1) kH (h:=zG9))<|oc zC<|oc (zI zE zUk (fun u0 u1 W hb (h0:qU W u0 ((k).natAbs)) (h1:LV W m u1 d)=>zQO (qU.lv (m:=m) h0 bk) h1 oO))<|oc zG<|zD) fun a w9 s=> ?_
  refine zA rfl ?_
  refine tX ?_
  refine zB 11 ((61, .s (wB ((CU.agg (fNV k)).cf.at 1)))::(62, .s ((jA ((k).natAbs)).tS))::(63, .s ((jA (Nat.gcd k.natAbs d)).tS))::(64, .s ((zFc (jA (((k).natAbs) / (Nat.gcd k.natAbs d))) (jA (((k).natAbs) % (Nat.gcd k.natAbs d))) (uI 0)).tS))::(60, .s ((zFc (jA (((k).natAbs) / (Nat.gcd k.natAbs d))) (jA (((k).natAbs) % (Nat.gcd k.natAbs d))) (uI 0)).tS))::(65, .s ((jA (((k).natAbs) / (Nat.gcd k.natAbs d))).tS))::(66, .s ((jA (((k).natAbs) % (Nat.gcd k.natAbs d))).tS))::(67, .s ((uI 0).tS))::(12, .u (jA (((k).natAbs) / (Nat.gcd k.natAbs d))))::(13, .s ((jA (((k).natAbs) % (Nat.gcd k.natAbs d))).tS))::(14, .s ((uI 0).tS)):: []) hmix s kH
   (oc (zJ (C:=(CU.agg (fNV k)).cf) 1 kH)<|oc (jF (C:=(CU.agg (fNV k)).cf) (k:=1) kH (h:=zG9))<|oc zC<|oc (zI zE zS3 (fun u0 u1 W hb (h0:qU W u0 ((k).natAbs)) (h1:qU W u1 (Nat.gcd k.natAbs d))=>hdiv W u0 u1 _ (qU.lv (m:=m) h0 bk) h1))<|oc zC<|oc (zEi (A:=(jA (((k).natAbs) / (Nat.gcd k.natAbs d))).tS) (B:=(jA (((k).natAbs) % (Nat.gcd k.natAbs d))).tS) (C:=(uI 0).tS) iiz)<|oc (zEh (A:=(jA (((k).natAbs) / (Nat.gcd k.natAbs d))).tS) (B:=(jA (((k).natAbs) % (Nat.gcd k.natAbs d))).tS) (C:=(uI 0).tS) iiz)<|oc (zEg (A:=(jA (((k).natAbs) / (Nat.gcd k.natAbs d))).tS) (B:=(jA (((k).natAbs) % (Nat.gcd k.natAbs d))).tS) (C:=(uI 0).tS) iiz)<|oc zG<|oc zG<|oc zG<|zD) fun a w10 s=> ?_
  refine zA rfl ?_
  refine tX ?_
  refine zB 10 ((69, .s ((fLV m d).tS))::(70, .s ((jA (Nat.gcd k.natAbs d)).tS))::(71, .s ((zFc (jA (d / (Nat.gcd k.natAbs d))) (jA (d % (Nat.gcd k.natAbs d))) (uI 0)).tS))::(68, .s ((zFc (jA (d / (Nat.gcd k.natAbs d))) (jA (d % (Nat.gcd k.natAbs d))) (uI 0)).tS))::(72, .s ((jA (d / (Nat.gcd k.natAbs d))).tS))::(73, .s ((jA (d % (Nat.gcd k.natAbs d))).tS))::(74, .s ((uI 0).tS))::(15, .u (jA (d / (Nat.gcd k.natAbs d))))::(16, .s ((jA (d % (Nat.gcd k.natAbs d))).tS))::(17, .s ((uI 0).tS)):: []) hmix s kH
   (oc zC<|oc zC<|oc (zI zE zS3 (fun u0 u1 W hb (h0:LV W m u0 d) (h1:qU W u1 (Nat.gcd k.natAbs d))=>hdiv W u0 u1 _ h0 h1))<|oc zC<|oc (zEi (A:=(jA (d / (Nat.gcd k.natAbs d))).tS) (B:=(jA (d % (Nat.gcd k.natAbs d))).tS) (C:=(uI 0).tS) iiz)<|oc (zEh (A:=(jA (d / (Nat.gcd k.natAbs d))).tS) (B:=(jA (d % (Nat.gcd k.natAbs d))).tS) (C:=(uI 0).tS) iiz)<|oc (zEg (A:=(jA (d / (Nat.gcd k.natAbs d))).tS) (B:=(jA (d % (Nat.gcd k.natAbs d))).tS) (C:=(uI 0).tS) iiz)<|oc zG<|oc zG<|oc zG<|zD) fun a w11 s=> ?_
  refine zA rfl ?_
  refine tX ?_
  replace s:=s.drop [5]
  refine zB 7 ((75, .s (wB ((CU.agg (fNV k)).cf.at 0)))::(76, .s ((uB (decide (k<0))).tS))::(77, .s ((jA (((k).natAbs) / (Nat.gcd k.natAbs d))).tS))::(78, .s ((fUV zMa (if decide (k<0) then -((((k).natAbs) / (Nat.gcd k.natAbs d):Nat):Int) else ((((k).natAbs) / (Nat.gcd k.natAbs d):Nat):Int))).tS))::(79, .s ((fNV ((mkRat k d).num)).tS))::(80, .s ((jA (d / (Nat.gcd k.natAbs d))).tS))::(81, .u (fQN (mkRat k d))):: []) hmix s kH
   (oc (zJ (C:=(CU.agg (fNV k)).cf) 0 kH)<|oc (jF (C:=(CU.agg (fNV k)).cf) (k:=0) kH (h:=zLx))<|oc zC<|oc (qA (fun u v W (hu:u= .bool (decide (k<0))) (hv:qU W v (((k).natAbs) / (Nat.gcd k.natAbs d)))=>zRH hu hv (hlt _ (by first|exact tZ (zV9 _ _) (zAJ _)|exact hk64|exact tZ (zV9 _ _) (zV8 bk (zWb qB (zV7 hm dA)))))))<|oc (zH zE zRx (fun u0 W hb (h0:UV W zMa u0 (if decide (k<0) then -((((k).natAbs) / (Nat.gcd k.natAbs d):Nat):Int) else ((((k).natAbs) / (Nat.gcd k.natAbs d):Nat):Int)))=>hnum W u0 (h0:UV W zMa u0 _)))<|oc zC<|oc (qA (fun u v W (hu:NV W u ((mkRat k d).num)) (hv:qU W v (d / (Nat.gcd k.natAbs d)))=>zHu (q:=mkRat k d) hu (by first|exact hv|(rw [hden];exact hv))))<|zD) fun a w12 s=> ?_
  refine zR (CU.agg (fQN (mkRat k d))) ((fQN (mkRat k d)).tS) rfl s kH rfl rfl rfl iiz iiz yP fun a w s=> ?_
  refine yU (uI 0) rfl s kH iiz fun a w s=> ?_
  refine zA rfl ?_
  refine tY ?_
  exact wR s (CU.agg (fQN (mkRat k d))) rfl kH rfl rfl (jE _) (fun cs v W h1 h2=>⟨_,_,rfl,h1,h2⟩)
theorem zHS {W:Wi} {m:Nat} {v v':Wj} {k:Int} {d:Nat} (h:UV W m v k) (h':LV W m v' d) (hm:m<=2000):Calls prog 67 #[v,v'] W (Ret W (zAj (fQN (mkRat k d)) (fI (if d=0 then 30 else 0))).tS):=by
 by_cases hd:d=0
 ·rw [if_pos hd]
  exact zQE h h' hm hd
 ·rw [if_neg hd]
  exact zK1 h h' hm oO
end Go.Proofs.Wd

namespace Go.Proofs.Wd
open Tryz
set_option maxRecDepth 100000
open Go.RowKit Lb
theorem zNy {W:Wi} {m:Nat} {v:Wj} {k:Int} {d:Nat} (h:QVp m k d v W) (hm:m<=2000):Calls prog 39 #[v] W (Ret W (fQN (mkRat k d)).tS):=by
 refine yB [(fQV m k d).tS] func39 rfl kH ⟨h,trivial⟩ fun a s=> ?_
 refine tX ?_
 refine zB 0 [] hmix s kH
  zD fun a w1 s=> ?_
 refine yO (CU.agg (fQV m k d)) rfl s kH (fun v W h=>zEH h) fun b1 a w s=> ?_
 refine z7 (CU.len 3) (cs:=zR3) kH rfl s kH (fun W=>rfl) rfl fun b2 a w s=> ?_
 refine zA rfl ?_
 refine tX ?_
 refine zB 8 ((6, .s (wB ((CU.agg (fQV m k d)).cf.at 0)))::(7, .s ((fUV m k).tS))::(8, .s (wB ((CU.agg (fQV m k d)).cf.at 2)))::(9, .s ((fLV m d).tS))::(10, .s ((zAj (fQN (mkRat k d)) (uI (if d=0 then 30 else 0))).tS))::(5, .s ((zAj (fQN (mkRat k d)) (uI (if d=0 then 30 else 0))).tS))::(11, .u (fQN (mkRat k d)))::(12, .u (uI (if d=0 then 30 else 0))):: []) hmix s kH
  (oc (zJ (C:=(CU.agg (fQV m k d)).cf) 0 kH)<|oc (zP (C:=(CU.agg (fQV m k d)).cf) (k:=0) 2 kH (h:=zK9))<|oc (zJ (C:=(CU.agg (fQV m k d)).cf) 2 kH)<|oc (jF (C:=(CU.agg (fQV m k d)).cf) (k:=2) kH (h:=zGX))<|oc (zI zE zOw (fun u0 u1 W hb (h0:UV W m u0 k) (h1:LV W m u1 d)=>zHS h0 h1 hm))<|oc zC<|oc (zAp (A:=(fQN (mkRat k d)).tS) (B:=(uI (if d=0 then 30 else 0)).tS) iiz)<|oc (zAo (A:=(fQN (mkRat k d)).tS) (B:=(uI (if d=0 then 30 else 0)).tS) iiz)<|zD) fun a w2 s=> ?_
 refine z7 (CU.len 3) (cs:=zR3) kH rfl s kH (fun W=>rfl) rfl fun b3 a w s=> ?_
 refine zR (CU.agg (fQN (mkRat k d))) ((fQN (mkRat k d)).tS) rfl s kH rfl rfl rfl iiz iiz yP fun a w s=> ?_
 refine yU (uI (if d=0 then 30 else 0)) rfl s kH iiz fun a w s=> ?_
 refine zA rfl ?_
 refine tX ?_
 refine zB 1 ((13, .u (fQN (mkRat k d))):: []) hmix s kH
  (oc (zK (f:=fQN (mkRat k d)) 3 kH (hz:=jE _))<|zD) fun a w3 s=> ?_
 refine zR (CU.agg (fQN (mkRat k d))) ((fQN (mkRat k d)).tS) rfl s kH rfl rfl rfl iiz iiz yP fun a w s=> ?_
 refine zA rfl ?_
 refine tY ?_
 exact wE s (CU.agg (fQN (mkRat k d))) rfl kH rfl rfl (jE _) (fun cs W h=>h)
theorem zBp {W:Wi} {m:Nat} {v:Wj} {q:Rat} (h:RVp m q v W) (hm:m<=2000):Calls prog 39 #[v] W (Ret W (fQN q).tS):=by
 obtain ⟨k,d,h1,rfl⟩:=h
 exact zNy h1 hm
theorem zKY (n:Int) (d:Nat) (hd:0<d):(mkRat n d).num.sign=n.sign:=by
 have h1:=decide_eq_decide.1 (zB3 n d hd)
 have h2:(mkRat n d).num=0↔n=0:=by rw [zWL,Rat.mkRat_eq_zero oO]
 rcases Int.lt_trichotomy n 0 with h|h|h
 ·rw [zWR h,zWR (h1.2 h)]
 ·rw [h2.2 h,h]
 ·rw [Int.sign_eq_one_of_pos h,Int.sign_eq_one_of_pos (by have:=mt h1.1 oO;have:=mt h2.1 oO;omega)]
theorem zNw {W:Wi} {m:Nat} {v:Wj} {k:Int} {d:Nat} (h:QVp m k d v W) (hm:m<=2000) (hd:d=0):Calls prog 12 #[v] W (Ret W (fI 0).tS):=by
 have hz:true=decide (d=0):=(zWc hd).symm
 refine yB [(fQV m k d).tS] func12 rfl kH ⟨h,trivial⟩ fun a s=> ?_
 refine tX ?_
 refine zB 0 [] hmix s kH
  zD fun a w1 s=> ?_
 refine yO (CU.agg (fQV m k d)) rfl s kH (fun v W h=>zEH h) fun b1 a w s=> ?_
 refine yU (uI 0) rfl s kH iiz fun a w s=> ?_
 refine zA rfl ?_
 refine tX ?_
 refine tX ?_
 refine zB 5 ((3, .s (wB ((CU.agg (fQV m k d)).cf.at 2)))::(4, .s ((fLV m d).tS))::(5, .s ((jA d).tS))::(6, .s (zPG d))::(7, .u (uB true)):: []) hmix s kH
  (oc (zJ (C:=(CU.agg (fQV m k d)).cf) 2 kH)<|oc (jF (C:=(CU.agg (fQV m k d)).cf) (k:=2) kH (h:=zGX))<|oc (zH zE zOz (fun u0 W hb (h0:LV W m u0 d)=>(zDI h0 oO)))<|oc (zDO kH iiz)<|oc (zDP hz)<|zD) fun a w2 s=> ?_
 refine zA rfl ?_
 refine StS.cond s true iiz (fun e=> ?_) (fun e=>by cases e)
 refine tX ?_
 replace s:=s.drop [2]
 refine zB 1 ((2, .u (uI 0)):: []) hmix s kH
  (oc zG<|zD) fun a w3 s=> ?_
 refine zA rfl ?_
 refine tY ?_
 exact wD s (t:=2) rfl iiz
theorem zNx {W:Wi} {m:Nat} {v:Wj} {k:Int} {d:Nat} (h:QVp m k d v W) (hm:m<=2000) (hd:0<d):Calls prog 12 #[v] W (Ret W (fI k.sign).tS):=by
 have hz:false=decide (d=0):=(zWg oO).symm
 refine yB [(fQV m k d).tS] func12 rfl kH ⟨h,trivial⟩ fun a s=> ?_
 refine tX ?_
 refine zB 0 [] hmix s kH
  zD fun a w1 s=> ?_
 refine yO (CU.agg (fQV m k d)) rfl s kH (fun v W h=>zEH h) fun b1 a w s=> ?_
 refine yU (uI 0) rfl s kH iiz fun a w s=> ?_
 refine zA rfl ?_
 refine tX ?_
 refine tX ?_
 refine zB 5 ((3, .s (wB ((CU.agg (fQV m k d)).cf.at 2)))::(4, .s ((fLV m d).tS))::(5, .s ((jA d).tS))::(6, .s (zPG d))::(7, .u (uB false)):: []) hmix s kH
  (oc (zJ (C:=(CU.agg (fQV m k d)).cf) 2 kH)<|oc (jF (C:=(CU.agg (fQV m k d)).cf) (k:=2) kH (h:=zGX))<|oc (zH zE zOz (fun u0 W hb (h0:LV W m u0 d)=>(zDI h0 oO)))<|oc (zDO kH iiz)<|oc (zDP hz)<|zD) fun a w2 s=> ?_
 refine zA rfl ?_
 refine StS.cond s false iiz (fun e=>by cases e) (fun e=> ?_)
 refine zV6 ?_
 refine tX ?_
 replace s:=s.drop [2]
 refine zB 4 ((8, .s (wB ((CU.agg (fQV m k d)).cf.at 0)))::(9, .s ((fUV m k).tS))::(10, .s ((uI (k.sign)).tS))::(2, .u (uI (k.sign))):: []) hmix s kH
  (oc (zJ (C:=(CU.agg (fQV m k d)).cf) 0 kH)<|oc (zP (C:=(CU.agg (fQV m k d)).cf) (k:=0) 2 kH (h:=zK9))<|oc (zH zE zTc (fun u0 W hb (h0:UV W m u0 k)=>zEo (zIJ h0 oO)))<|oc zG<|zD) fun a w3 s=> ?_
 refine zA rfl ?_
 refine tY ?_
 exact wD s (t:=2) rfl iiz
theorem zFR {W:Wi} {m:Nat} {v:Wj} {q:Rat} (h:RVp m q v W) (hm:m<=2000):Calls prog 12 #[v] W (Ret W (fI q.num.sign).tS):=by
 obtain ⟨k,d,h1,rfl⟩:=h
 by_cases hd:d=0
 ·have:=zNw h1 hm hd
  rw [hd,zWn]
  exact this
 ·rw [zKY k d oO]
  exact zNx h1 hm oO
theorem zQD {W:Wi} {m:Nat} {u v:Wj} {p q:Rat} (h:QNp p u W) (h':QNp q v W) (hp:QB p m) (hq:QB q m) (hm:m<=990):Calls prog 72 #[u,v] W (Ret W (fQN (p+q)).tS):=by
 have hnew: ∀W u0 u1,NV W u0 (((p).num*(((q).den:Nat):Int))+((q).num*(((p).den:Nat):Int)))->qU W u1 ((p).den*(q).den)->Calls prog 67 #[u0,u1] W (Ret W (zAj (fQN (p+q)) UF.any).tS):=fun W u0 u1 h0 h1=>by
  have:=zHS (m:=m+m+1) (h0.uv' (hp.num_add hq)) (h1.lv (zV8 (hp.den_mul hq) (zWb qB oO))) oO
  rw [<-Rat.add_def' p q] at this
  exact this.mono fun e w' ⟨v,e1,⟨x,y,e2,h2,_⟩,hb⟩=>⟨v,e1,⟨x,y,e2,h2,trivial⟩,hb⟩
 refine yB [(fQN p).tS,(fQN q).tS] func72 rfl kH ⟨h,h',trivial⟩ fun a s=> ?_
 refine tX ?_
 refine zB 0 [] hmix s kH
  zD fun a w1 s=> ?_
 refine yO (CU.agg (fQN p)) rfl s kH (fun v W h=>zPc h) fun b2 a w s=> ?_
 refine yO (CU.agg (fQN q)) rfl s kH (fun v W h=>zPc h) fun b3 a w s=> ?_
 refine z7 (CU.len 3) (cs:=zR3) kH rfl s kH (fun W=>rfl) rfl fun b4 a w s=> ?_
 refine zA rfl ?_
 refine tX ?_
 have so:=s.old;have sg:=s.gr
 refine zBy (fun i=> [24].contains i) [⟨25,5,28, [.bool false, .slice none 0 0, .slice none 0 0],wH w 28 (CU.len 3)⟩] 26 ((8, .s (wB ((CU.agg (fQN p)).cf.at 0)))::(9, .s ((fNV ((p).num)).tS))::(10, .s (wB ((CU.agg (fQN q)).cf.at 2)))::(11, .s ((jA ((q).den)).tS))::(12, .s ((fNV (((q).den:Nat):Int)).tS))::(13, .s (zJ2 (m+m) [(p).num,(((q).den:Nat):Int)]))::(14, .s ((fNV ((p).num*(((q).den:Nat):Int))).tS))::(15, .s (wB ((CU.agg (fQN q)).cf.at 0)))::(16, .s ((fNV ((q).num)).tS))::(17, .s (wB ((CU.agg (fQN p)).cf.at 2)))::(18, .s ((jA ((p).den)).tS))::(19, .s ((fNV (((p).den:Nat):Int)).tS))::(20, .s (zJ2 (m+m) [(q).num,(((p).den:Nat):Int)]))::(21, .s ((fNV ((q).num*(((p).den:Nat):Int))).tS))::(22, .s (zJ2 (m+m) [((p).num*(((q).den:Nat):Int)),((q).num*(((p).den:Nat):Int))]))::(23, .s ((fNV (((p).num*(((q).den:Nat):Int))+((q).num*(((p).den:Nat):Int)))).tS))::(24, .s (wB ((CU.agg (fQN p)).cf.at 2)))::(25, .s ((jA ((p).den)).tS))::(26, .s (wB ((CU.agg (fQN q)).cf.at 2)))::(27, .s ((jA ((q).den)).tS))::(28, .s ((jA ((p).den*(q).den)).tS))::(29, .s ((zAj (fQN (p+q)) (UF.any)).tS))::(7, .s ((zAj (fQN (p+q)) (UF.any)).tS))::(30, .u (fQN (p+q)))::(5, .s (wH w 28 (CU.len 3))):: []) hmix s (fmz ⟨⟨by show 25<26;decide, .tail _ (.tail _ (.tail _ (.tail _ (.tail _ (.tail _ (.tail _ (.tail _ (.tail _ zI0)))))))),⟨_,_,_,rfl⟩,by kernel_rfl,zBO (fun _=>rfl) rfl⟩,fnz⟩) kH
  (oc (zJ (C:=(CU.agg (fQN p)).cf) 0 kH)<|oc (zP (C:=(CU.agg (fQN p)).cf) (k:=0) 2 kH (h:=zBl))<|oc (zJ (C:=(CU.agg (fQN q)).cf) 2 kH)<|oc (jF (C:=(CU.agg (fQN q)).cf) (k:=2) kH (h:=zA2))<|oc (zH zE zOy (fun u0 W hb (h0:qU W u0 ((q).den))=>zIR h0))<|oc (yI (fun u v W (hu:NV W u ((p).num)) (hv:NV W v (((q).den:Nat):Int))=>zA7 (NV.uv' hu (Bd.mono (hp).1 (m':=(m+m)) (by first|omega|decide))) (NV.uv' hv (Bd.mono (jG hq.2) (m':=(m+m)) (by first|omega|decide)))))<|oc (zH zE zJ3 (fun u0 W hb (h0:ISV W (m+m) u0 [(p).num,(((q).den:Nat):Int)])=>zDJ h0 (by show (m+m)*2+(m+m)+1<=40000;omega) (by simp) (by simp)))<|oc (zJ (C:=(CU.agg (fQN q)).cf) 0 kH)<|oc (zP (C:=(CU.agg (fQN q)).cf) (k:=0) 2 kH (h:=zBl))<|oc (zJ (C:=(CU.agg (fQN p)).cf) 2 kH)<|oc (jF (C:=(CU.agg (fQN p)).cf) (k:=2) kH (h:=zA2))<|oc (zH zE zOy (fun u0 W hb (h0:qU W u0 ((p).den))=>zIR h0))<|oc (yI (fun u v W (hu:NV W u ((q).num)) (hv:NV W v (((p).den:Nat):Int))=>zA7 (NV.uv' hu (Bd.mono (hq).1 (m':=(m+m)) (by first|omega|decide))) (NV.uv' hv (Bd.mono (jG hp.2) (m':=(m+m)) (by first|omega|decide)))))<|oc (zH zE zJ3 (fun u0 W hb (h0:ISV W (m+m) u0 [(q).num,(((p).den:Nat):Int)])=>zDJ h0 (by show (m+m)*2+(m+m)+1<=40000;omega) (by simp) (by simp)))<|oc (yI (fun u v W (hu:NV W u ((p).num*(((q).den:Nat):Int))) (hv:NV W v ((q).num*(((p).den:Nat):Int)))=>zA7 (NV.uv' hu (Bd.mul (hp).1 (jG hq.2))) (NV.uv' hv (Bd.mul (hq).1 (jG hp.2)))))<|oc (zH zE zUz (fun u0 W hb (h0:ISV W (m+m) u0 [((p).num*(((q).den:Nat):Int)),((q).num*(((p).den:Nat):Int))])=>zQM h0 oO (by simp) (by simp)))<|oc (zJ (C:=(CU.agg (fQN p)).cf) 2 kH)<|oc (jF (C:=(CU.agg (fQN p)).cf) (k:=2) kH (h:=zA2))<|oc (zJ (C:=(CU.agg (fQN q)).cf) 2 kH)<|oc (jF (C:=(CU.agg (fQN q)).cf) (k:=2) kH (h:=zA2))<|oc (zI zE zRw (fun u0 u1 W hb (h0:qU W u0 ((p).den)) (h1:qU W u1 ((q).den))=>zKN (qU.lv (m:=m) h0 hp.2) (qU.lv (m:=m) h1 hq.2) oO))<|oc (zI zE zOw (fun u0 u1 W hb (h0:NV W u0 (((p).num*(((q).den:Nat):Int))+((q).num*(((p).den:Nat):Int)))) (h1:qU W u1 ((p).den*(q).den))=>hnew W u0 u1 h0 h1))<|oc zC<|oc (zAp (A:=(fQN (p+q)).tS) (B:=(UF.any).tS) iiz)<|oc (zAo (A:=(fQN (p+q)).tS) (B:=(UF.any).tS) iiz)<|oc (zCG (cs:=zR3) kH (zBO (fun _=>rfl) rfl))<|zD) fun Q' hQ a w2 s hr hd=> ?_
 obtain ⟨b5,_,e5,s⟩:=s.adoptA false 5 (hr (_,_) (.tail _ (.tail _ (.tail _ (.tail _ (.tail _ (.tail _ (.tail _ (.tail _ (.tail _ zI0)))))))))) sg (fun y hy=> .inl (so y hy))
 refine zR (CU.agg (fQN (p+q))) ((fQN (p+q)).tS) rfl s kH rfl rfl rfl iiz iiz yP fun a w s=> ?_
 refine yU UF.any rfl s kH (fun _ _ _=>trivial) fun a w s=> ?_
 refine zA rfl (hQ _ _ ?_)
 refine tX ?_
 refine zB 1 ((32, .u (fQN (p+q))):: []) hmix s kH
  (oc (zK (f:=fQN (p+q)) 3 kH (hz:=jE _))<|zD) fun a w3 s=> ?_
 refine zR (CU.agg (fQN (p+q))) ((fQN (p+q)).tS) rfl s kH rfl rfl rfl iiz iiz yP fun a w s=> ?_
 refine zA rfl ?_
 refine tY ?_
 exact wE s (CU.agg (fQN (p+q))) rfl kH rfl rfl (jE _) (fun cs W h=>h)
theorem zQF {W:Wi} {m:Nat} {v:Wj} {q:Rat} (h:RVp m q v W) (hm:m<=990) (hm0:0<m):Calls prog 85 #[v] W (Ret W (fQN (-q)).tS):=by
 have hq:QB q m:=h.qb hm0
 refine yB [(fRV m q).tS] func85 rfl kH ⟨h,trivial⟩ fun a s=> ?_
 refine tX ?_
 refine zB 0 [] hmix s kH
  zD fun a w1 s=> ?_
 refine yO (CU.agg (fRV m q)) rfl s kH (fun v W h=>zAe h) fun b1 a w s=> ?_
 refine z7 (CU.len 3) (cs:=zR3) kH rfl s kH (fun W=>rfl) rfl fun b2 a w s=> ?_
 refine zA rfl ?_
 refine tX ?_
 refine zB 2 ((3, .s ((fRV m q).tS))::(4, .u (fQN q)):: []) hmix s kH
  (oc (zK (f:=fRV m q) 3 kH (hz:=jD _ _))<|oc (zH zE zGm (fun u0 W hb (h0:RVp m q u0 W)=>zBp h0 oO))<|zD) fun a w2 s=> ?_
 refine zR (CU.agg (fQN q)) ((fQN q).tS) rfl s kH rfl rfl rfl (jD _ _) iiz yP fun a w s=> ?_
 refine zA rfl ?_
 refine tX ?_
 refine z9 [] 6 ((5, .s (wB ((CU.agg (fQN q)).cf.at 0)))::(6, .s ((fNV ((q).num)).tS))::(7, .s ((fNV (-(q).num)).tS))::(8, .s (wB ((CU.agg (fQN q)).cf.at 2)))::(9, .s ((jA ((q).den)).tS))::(10, .u (fQN (-q))):: []) hmix s kH
  (oc (zJ (C:=(CU.agg (fQN q)).cf) 0 kH)<|oc (zP (C:=(CU.agg (fQN q)).cf) (k:=0) 2 kH (h:=zBl))<|oc (zH zE zUy (fun u0 W hb (h0:NV W u0 ((q).num))=>zQK (NV.uv' h0 (hq).1) oO))<|oc (zJ (C:=(CU.agg (fQN q)).cf) 2 kH)<|oc (jF (C:=(CU.agg (fQN q)).cf) (k:=2) kH (h:=zA2))<|oc (qA (fun u v W (hu:NV W u (-(q).num)) (hv:qU W v ((q).den))=>zHu (q:= -q) hu hv))<|zD) fun Q' hQ a w3 s=> ?_
 refine zR (CU.agg (fQN (-q))) ((fQN (-q)).tS) rfl s kH rfl rfl rfl iiz iiz yP fun a w s=> ?_
 refine zA rfl (hQ _ _ ?_)
 refine tY ?_
 exact wE s (CU.agg (fQN (-q))) rfl kH rfl rfl (jE _) (fun cs W h=>h)
theorem zFS {W:Wi} {m:Nat} {u v:Wj} {p q:Rat} (h:RVp m p u W) (h':RVp m q v W) (hm:m<=990) (hm0:0<m):Calls prog 13 #[u,v] W (Ret W (fI (qsg p q)).tS):=by
 have hp:QB p m:=h.qb hm0
 have hq:QB q m:=h'.qb hm0
 refine yB [(fRV m p).tS,(fRV m q).tS] func13 rfl kH ⟨h,h',trivial⟩ fun a s=> ?_
 refine tX ?_
 refine zB 0 [] hmix s kH
  zD fun a w1 s=> ?_
 refine yO (CU.agg (fRV m p)) rfl s kH (fun v W h=>zAe h) fun b2 a w s=> ?_
 refine yO (CU.agg (fRV m q)) rfl s kH (fun v W h=>zAe h) fun b3 a w s=> ?_
 refine yU (uI 0) rfl s kH iiz fun a w s=> ?_
 refine zA rfl ?_
 refine tX ?_
 refine z9 [] 4 ((5, .s ((fRV m p).tS))::(6, .u (fQN p))::(7, .s ((fRV m q).tS))::(8, .u (fQN q)):: []) hmix s kH
  (oc (zK (f:=fRV m p) 3 kH (hz:=jD _ _))<|oc (zH zE zGm (fun u0 W hb (h0:RVp m p u0 W)=>zBp h0 oO))<|oc (zK (f:=fRV m q) 3 kH (hz:=jD _ _))<|oc (zH zE zGm (fun u0 W hb (h0:RVp m q u0 W)=>zBp h0 oO))<|zD) fun Q' hQ a w2 s=> ?_
 refine zR (CU.agg (fQN p)) ((fQN p).tS) rfl s kH rfl rfl rfl (jD _ _) iiz yP fun a w s=> ?_
 refine zR (CU.agg (fQN q)) ((fQN q).tS) rfl s kH rfl rfl rfl (jD _ _) iiz yP fun a w s=> ?_
 refine zA rfl (hQ _ _ ?_)
 refine tX ?_
 replace s:=s.drop [4]
 refine zB 17 ((9, .s (wB ((CU.agg (fQN p)).cf.at 0)))::(10, .s ((fNV ((p).num)).tS))::(11, .s (wB ((CU.agg (fQN q)).cf.at 2)))::(12, .s ((jA ((q).den)).tS))::(13, .s ((fNV (((q).den:Nat):Int)).tS))::(14, .s (zJ2 (m+m) [(p).num,(((q).den:Nat):Int)]))::(15, .s ((fNV ((p).num*(((q).den:Nat):Int))).tS))::(16, .s (wB ((CU.agg (fQN q)).cf.at 0)))::(17, .s ((fNV ((q).num)).tS))::(18, .s (wB ((CU.agg (fQN p)).cf.at 2)))::(19, .s ((jA ((p).den)).tS))::(20, .s ((fNV (((p).den:Nat):Int)).tS))::(21, .s (zJ2 (m+m) [(q).num,(((p).den:Nat):Int)]))::(22, .s ((fNV ((q).num*(((p).den:Nat):Int))).tS))::(23, .s ((fNV (((p).num*(((q).den:Nat):Int)) - ((q).num*(((p).den:Nat):Int)))).tS))::(24, .s ((uI (qsg p q)).tS))::(4, .u (uI (qsg p q))):: []) hmix s kH
  (oc (zJ (C:=(CU.agg (fQN p)).cf) 0 kH)<|oc (zP (C:=(CU.agg (fQN p)).cf) (k:=0) 2 kH (h:=zBl))<|oc (zJ (C:=(CU.agg (fQN q)).cf) 2 kH)<|oc (jF (C:=(CU.agg (fQN q)).cf) (k:=2) kH (h:=zA2))<|oc (zH zE zOy (fun u0 W hb (h0:qU W u0 ((q).den))=>zIR h0))<|oc (yI (fun u v W (hu:NV W u ((p).num)) (hv:NV W v (((q).den:Nat):Int))=>zA7 (NV.uv' hu (Bd.mono (hp).1 (m':=(m+m)) (by first|omega|decide))) (NV.uv' hv (Bd.mono (jG hq.2) (m':=(m+m)) (by first|omega|decide)))))<|oc (zH zE zJ3 (fun u0 W hb (h0:ISV W (m+m) u0 [(p).num,(((q).den:Nat):Int)])=>zDJ h0 (by show (m+m)*2+(m+m)+1<=40000;omega) (by simp) (by simp)))<|oc (zJ (C:=(CU.agg (fQN q)).cf) 0 kH)<|oc (zP (C:=(CU.agg (fQN q)).cf) (k:=0) 2 kH (h:=zBl))<|oc (zJ (C:=(CU.agg (fQN p)).cf) 2 kH)<|oc (jF (C:=(CU.agg (fQN p)).cf) (k:=2) kH (h:=zA2))<|oc (zH zE zOy (fun u0 W hb (h0:qU W u0 ((p).den))=>zIR h0))<|oc (yI (fun u v W (hu:NV W u ((q).num)) (hv:NV W v (((p).den:Nat):Int))=>zA7 (NV.uv' hu (Bd.mono (hq).1 (m':=(m+m)) (by first|omega|decide))) (NV.uv' hv (Bd.mono (jG hp.2) (m':=(m+m)) (by first|omega|decide)))))<|oc (zH zE zJ3 (fun u0 W hb (h0:ISV W (m+m) u0 [(q).num,(((p).den:Nat):Int)])=>zDJ h0 (by show (m+m)*2+(m+m)+1<=40000;omega) (by simp) (by simp)))<|oc (zI zE zUK (fun u0 u1 W hb (h0:NV W u0 ((p).num*(((q).den:Nat):Int))) (h1:NV W u1 ((q).num*(((p).den:Nat):Int)))=>zQJ (NV.uv' h0 (Bd.mul (hp).1 (jG hq.2))) (NV.uv' h1 (Bd.mul (hq).1 (jG hp.2))) oO))<|oc (zH zE zTc (fun u0 W hb (h0:NV W u0 (((p).num*(((q).den:Nat):Int)) - ((q).num*(((p).den:Nat):Int))))=>zEo (zIJ (NV.uv' h0 (Bd.sub (Bd.mul (hp).1 (jG hq.2)) (Bd.mul (hq).1 (jG hp.2)))) oO)))<|oc zG<|zD) fun a w3 s=> ?_
 refine zA rfl ?_
 refine tY ?_
 exact wD s (t:=4) rfl iiz
theorem zKZ {W:Wi} {m:Nat} {u v:Wj} {p q:Rat} (h:RVp m p u W) (h':RVp m q v W) (hm:m<=990) (hm0:0<m):Calls prog 44 #[u,v] W (Ret W (zAj (fQN (p / q)) (fI (if q=0 then 30 else 0))).tS):=by
 have hp:QB p m:=h.qb hm0
 have hq:QB q m:=h'.qb hm0
 have bk2:Bd (if decide ((q).num<0) then -(((q).den:Nat):Int) else (((q).den:Nat):Int)) m:=by split;exact (jG hq.2).neg;exact jG hq.2
 have hval:mkRat ((p).num*(if decide ((q).num<0) then -(((q).den:Nat):Int) else (((q).den:Nat):Int))) ((p).den*(q).num.natAbs)=p / q:=zQx p q
 have herr:((p).den*(q).num.natAbs=0)=(q=0):=by rw [Nat.mul_eq_zero,Int.natAbs_eq_zero,zWL];have:=p.den_pos;simp;omega
 have hnew: ∀W u0 u1,NV W u0 ((p).num*(if decide ((q).num<0) then -(((q).den:Nat):Int) else (((q).den:Nat):Int)))->qU W u1 ((p).den*(q).num.natAbs)->Calls prog 67 #[u0,u1] W (Ret W (zAj (fQN (p / q)) (fI (if q=0 then 30 else 0))).tS):=fun W u0 u1 h0 h1=>by
  have:=zHS (m:=m+m) (h0.uv' (Bd.mul hp.1 bk2)) (h1.lv (zDL hp.2 hq.1)) oO
  simp only [hval,herr] at this
  exact this
 refine yB [(fRV m p).tS,(fRV m q).tS] func44 rfl kH ⟨h,h',trivial⟩ fun a s=> ?_
 refine tX ?_
 refine zB 0 [] hmix s kH
  zD fun a w1 s=> ?_
 refine yO (CU.agg (fRV m p)) rfl s kH (fun v W h=>zAe h) fun b2 a w s=> ?_
 refine yO (CU.agg (fRV m q)) rfl s kH (fun v W h=>zAe h) fun b3 a w s=> ?_
 refine z7 (CU.len 3) (cs:=zR3) kH rfl s kH (fun W=>rfl) rfl fun b4 a w s=> ?_
 refine yU (uI 0) rfl s kH iiz fun a w s=> ?_
 refine zA rfl ?_
 refine tX ?_
 refine z9 [] 4 ((6, .s ((fRV m p).tS))::(7, .u (fQN p))::(8, .s ((fRV m q).tS))::(9, .u (fQN q)):: []) hmix s kH
  (oc (zK (f:=fRV m p) 3 kH (hz:=jD _ _))<|oc (zH zE zGm (fun u0 W hb (h0:RVp m p u0 W)=>zBp h0 oO))<|oc (zK (f:=fRV m q) 3 kH (hz:=jD _ _))<|oc (zH zE zGm (fun u0 W hb (h0:RVp m q u0 W)=>zBp h0 oO))<|zD) fun Q' hQ a w2 s=> ?_
 refine zR (CU.agg (fQN p)) ((fQN p).tS) rfl s kH rfl rfl rfl (jD _ _) iiz yP fun a w s=> ?_
 refine zR (CU.agg (fQN q)) ((fQN q).tS) rfl s kH rfl rfl rfl (jD _ _) iiz yP fun a w s=> ?_
 refine zA rfl (hQ _ _ ?_)
 refine tX ?_
 replace s:=s.drop [5]
 refine z9 [] 19 ((10, .s (wB ((CU.agg (fQN p)).cf.at 0)))::(11, .s ((fNV ((p).num)).tS))::(12, .s (wB ((CU.agg (fQN q)).cf.at 0)))::(13, .s (wB ((CU.agg (fQN q)).cf.at 0)))::(14, .s ((uB (decide ((q).num<0))).tS))::(15, .s (wB ((CU.agg (fQN q)).cf.at 2)))::(16, .s ((jA ((q).den)).tS))::(17, .s ((fUV m (if decide ((q).num<0) then -(((q).den:Nat):Int) else (((q).den:Nat):Int))).tS))::(18, .s (zJ2 (m+m) [(p).num,(if decide ((q).num<0) then -(((q).den:Nat):Int) else (((q).den:Nat):Int))]))::(19, .s ((fNV ((p).num*(if decide ((q).num<0) then -(((q).den:Nat):Int) else (((q).den:Nat):Int)))).tS))::(20, .s (wB ((CU.agg (fQN p)).cf.at 2)))::(21, .s ((jA ((p).den)).tS))::(22, .s (wB ((CU.agg (fQN q)).cf.at 0)))::(23, .s (wB ((CU.agg (fQN q)).cf.at 1)))::(24, .s ((jA ((q).num.natAbs)).tS))::(25, .s ((jA ((p).den*(q).num.natAbs)).tS))::(26, .s ((zAj (fQN (p / q)) (uI (if q=0 then 30 else 0))).tS))::(27, .u (fQN (p / q)))::(28, .u (uI (if q=0 then 30 else 0))):: []) hmix s kH
  (oc (zJ (C:=(CU.agg (fQN p)).cf) 0 kH)<|oc (zP (C:=(CU.agg (fQN p)).cf) (k:=0) 2 kH (h:=zBl))<|oc (zJ (C:=(CU.agg (fQN q)).cf) 0 kH)<|oc (yW (C:=(CU.agg (fQN q)).cf) 0 0 kH)<|oc (jF (C:=(CU.agg (fQN q)).cf) (k:=0) kH (h:=zSo))<|oc (zJ (C:=(CU.agg (fQN q)).cf) 2 kH)<|oc (jF (C:=(CU.agg (fQN q)).cf) (k:=2) kH (h:=zA2))<|oc (qA (fun u v W (hu:u= .bool (decide ((q).num<0))) (hv:qU W v ((q).den))=>zRH hu hv hq.2))<|oc (yI (fun u v W (hu:NV W u ((p).num)) (hv:UV W m v (if decide ((q).num<0) then -(((q).den:Nat):Int) else (((q).den:Nat):Int)))=>zA7 (NV.uv' hu (Bd.mono (hp).1 (m':=(m+m)) (by first|omega|decide))) (UV.mono hv (m':=(m+m)) (by first|omega|decide))))<|oc (zH zE zJ3 (fun u0 W hb (h0:ISV W (m+m) u0 [(p).num,(if decide ((q).num<0) then -(((q).den:Nat):Int) else (((q).den:Nat):Int))])=>zDJ h0 (by show (m+m)*2+(m+m)+1<=40000;omega) (by simp) (by simp)))<|oc (zJ (C:=(CU.agg (fQN p)).cf) 2 kH)<|oc (jF (C:=(CU.agg (fQN p)).cf) (k:=2) kH (h:=zA2))<|oc (zJ (C:=(CU.agg (fQN q)).cf) 0 kH)<|oc (yW (C:=(CU.agg (fQN q)).cf) 0 1 kH)<|oc (jF (C:=(CU.agg (fQN q)).cf) (k:=1) kH (h:=zSp))<|oc (zI zE zRw (fun u0 u1 W hb (h0:qU W u0 ((p).den)) (h1:qU W u1 ((q).num.natAbs))=>zKN (qU.lv (m:=m) h0 hp.2) (qU.lv (m:=m) h1 hq.1) oO))<|oc (zI zE zOw (fun u0 u1 W hb (h0:NV W u0 ((p).num*(if decide ((q).num<0) then -(((q).den:Nat):Int) else (((q).den:Nat):Int)))) (h1:qU W u1 ((p).den*(q).num.natAbs))=>hnew W u0 u1 h0 h1))<|oc (zAp (A:=(fQN (p / q)).tS) (B:=(uI (if q=0 then 30 else 0)).tS) iiz)<|oc (zAo (A:=(fQN (p / q)).tS) (B:=(uI (if q=0 then 30 else 0)).tS) iiz)<|zD) fun Q' hQ a w3 s=> ?_
 refine zR (CU.agg (fQN (p / q))) ((fQN (p / q)).tS) rfl s kH rfl rfl rfl iiz iiz yP fun a w s=> ?_
 refine yU (uI (if q=0 then 30 else 0)) rfl s kH iiz fun a w s=> ?_
 refine zA rfl (hQ _ _ ?_)
 refine tY ?_
 exact wR s (CU.agg (fQN (p / q))) rfl kH rfl rfl (jE _) (fun cs v W h1 h2=>⟨_,_,rfl,h1,h2⟩)
end Go.Proofs.Wd

namespace Go.Proofs.Wd
open Tryz
set_option maxRecDepth 100000
open Go.RowKit Lb
theorem zLE {W:Wi} {b o:Nat} {cs ds:List Wj} (k:Nat) (h:Mem W b o cs) (hd: ∀j u,ds[j]?=some u->cs[k+j]?=some u):Mem W b (o+k) ds:=fun j u hj=>by
 have:=h (k+j) u (hd j u hj)
 rwa [<-Nat.add_assoc] at this
abbrev rvs (m:Nat) (qs:List Rat):List CU:=qs.map fun q=>CU.agg (fRV m q)
theorem zKH {m:Nat} {qs:List Rat} {k:Nat} (h:k<qs.length):(rvs m qs)[k]?=some (CU.agg (fRV m (qAt qs k))):=by
 rw [List.getElem?_map,zWs h]
 simp [qAt,h]
theorem zLc {qs:List Rat} {k:Nat} (h:k<qs.length):qAt qs k∈qs:=by
 simp [qAt,h]
theorem zIB {m:Nat} {q:Rat} {v:Wj} {W:Wi} (h:RVp m q v W): ∃s A n c D i j,v= .agg #[.bool s, .slice A n c, .slice D i j]:=by
 obtain ⟨k,d,h1,_⟩:=h
 exact zBN h1
theorem zBT {u v:Wj} {W:Wi} {m:Nat} {p q:Rat} (hu:RVp m p u W) (hv:RVp m q v W): ∃e cs,z5 prog 63 2 [(0,u),(1,v)]=some (e,cs)/\(SF.row 3 (rvs m [p,q])).p (.slice (some ⟨W.heap.size,0,none⟩) 2 2) (W.alloc (.cells cs e)):=by
 obtain ⟨s,A,n,c,D,i,j,rfl⟩:=zIB hu
 obtain ⟨s',A',n',c',D',i',j',rfl⟩:=zIB hv
 refine ⟨_,_,zO3 s s' A A' D D' n n' c c' i i' j j',some ⟨W.heap.size,0,none⟩,2,rfl,zV3 _,by decide,fun e=>(by cases e),fun x C hx=> ?_⟩
 have hb:=zCx W (.cells #[.bool s, .slice A n c, .slice D i j, .bool s', .slice A' n' c', .slice D' i' j'] 28)
 have hm:=zBQ W #[.bool s, .slice A n c, .slice D i j, .bool s', .slice A' n' c', .slice D' i' j'] 28
 rcases (by have:=(zDQ.1 hx).1;simp at this;omega:x=0∨x=1) with rfl|rfl
 ·obtain rfl:CU.agg (fRV m p)=C:=by simpa using hx
  exact ⟨W.heap.size,0, [.bool s, .slice A n c, .slice D i j],rfl,zLE 0 hm (fun j u hj=>by match j with|0=>exact hj|1=>exact hj|2=>exact hj|j+3=>simp at hj),(fRV m p).tS.st _ _ _ hu hb⟩
 ·obtain rfl:CU.agg (fRV m q)=C:=by simpa using hx
  exact ⟨W.heap.size,0, [.bool s', .slice A' n' c', .slice D' i' j'],rfl,zLE 3 hm (fun j u hj=>by match j with|0=>exact hj|1=>exact hj|2=>exact hj|j+3=>simp at hj),(fRV m q).tS.st _ _ _ hv hb⟩
theorem zQI {W:Wi} {m:Nat} {v:Wj} {qs:List Rat} (M:Nat) (h:(SF.row 3 (rvs m qs)).p v W) (_hm0:0<m) (hmM:m<=M) (hM:M<=990) (hl:qs.length<=1000000) (hq: ∀q,q∈qs->QB q m) (hp: ∀k,k<qs.length->QB (zC5 qs k) M):Calls prog 45 #[v] W (Ret W (fQN (zC5 qs qs.length)).tS):=by
 refine yB [SF.row 3 (rvs m qs)] func45 rfl kH ⟨h,trivial⟩ fun a s=> ?_
 refine tX ?_
 refine zB 0 [] hmix s kH
  zD fun a w1 s=> ?_
 refine z7 (CU.len 3) (cs:=zR3) kH rfl s kH (fun W=>rfl) rfl fun b2 a w s=> ?_
 refine zA rfl ?_
 refine tX ?_
 refine zB 1 ((5, .u (fQN ((0:Int):Rat))):: []) hmix s kH
  (oc (zH zE zHp (fun u0 W hb (h0:u0= .int .i64 0)=>zDX 0 h0 dA))<|zD) fun a w2 s=> ?_
 refine z7 (CU.len 3) (cs:=zR3) kH rfl s kH (fun W=>rfl) rfl fun b3 a w s=> ?_
 refine zR (CU.agg (fQN ((0:Int):Rat))) ((fQN ((0:Int):Rat)).tS) rfl s kH rfl rfl rfl iiz iiz yP fun a w s=> ?_
 refine zA rfl ?_
 refine tX ?_
 refine tX ?_
 refine zB 1 ((4, .u (uI 0)):: []) hmix s kH
  (oc zG<|zD) fun a w3 s=> ?_
 refine zA rfl ?_
 refine zWa ?_
 refine zDc 3 (fun p=>CU.agg (fQN (zC5 qs p))) (fun p=>p<=qs.length) (fun p=> [(0, .o (SF.row 3 (rvs m qs))),(4, .u (fI (p:Int)))]) (fun p=>qs.length - p) (0:Nat) (zV4 _) (s.keepK _ (fmz ⟨mz2,fmz ⟨.head _,fnz⟩⟩)) rfl fun p a w hx s=> ?_
 refine tX ?_
 refine tX ?_
 refine zB 4 ((6, .s ((fI (p:Int)).tS))::(7, .s (SF.row 3 (rvs m qs)))::(8, .s ((uI ((rvs m qs).length:Int)).tS))::(9, .u (uB (decide ((p:Int)<((rvs m qs).length:Int))))):: []) hmix s kH
  (oc zC<|oc zC<|oc (zCn (z:=3) (Cs:=rvs m qs) kH iiz (fun _=>rfl))<|oc (zS .i64 (p:Int) ((rvs m qs).length:Int) (decide ((p:Int)<((rvs m qs).length:Int))) iiz iiz rfl rfl)<|zD) fun a w4 s=> ?_
 refine zA rfl ?_
 refine StS.cond s (decide ((p:Int)<((rvs m qs).length:Int))) iiz (fun e=> ?_) (fun e=> ?_)
 ·have hk1:p+1<=qs.length:=by have:=zGf e;rw [zWt] at this;omega
  have hx2:=zKH (m:=m) (k:=p) hk1
  have hqp:=hq _ (zLc (k:=p) hk1)
  refine zV6 ?_
  refine tX ?_
  refine zWa ?_
  refine z9 [1,2] 7 ((12, .s ((fQN (zC5 qs p)).tS))::(13, .s (SF.row 3 (rvs m qs)))::(14, .s ((fI (p:Int)).tS))::(15, .s (wB (CU.agg (fRV m (qAt qs p))).cf))::(16, .s ((fRV m (qAt qs p)).tS))::(17, .s ((fQN (qAt qs p)).tS))::(18, .u (fQN (zC5 qs p+qAt qs p))):: []) hmix s kH
   (oc (zK (f:=fQN (zC5 qs p)) 3 kH (hz:=jE _))<|oc zC<|oc zC<|oc (zBr (z:=3) (Cs:=rvs m qs) (i:=p) (C:=CU.agg (fRV m (qAt qs p))) kH hx2 iiz iiz)<|oc (zK (f:=fRV m (qAt qs p)) 3 kH (hz:=jD _ _))<|oc (zH zE zGm (fun u0 W hb (h0:RVp m (qAt qs p) u0 W)=>zBp h0 oO))<|oc (zI zE zUx (fun u0 u1 W hb (h0:QNp (zC5 qs p) u0 W) (h1:QNp (qAt qs p) u1 W)=>zQD h0 h1 (hp p hk1) (hqp.mono oO) oO))<|zD) fun Q' hQ a w5 s=> ?_
  refine zR (CU.agg (fQN (zC5 qs p+qAt qs p))) ((fQN (zC5 qs p+qAt qs p)).tS) rfl s kH rfl rfl rfl (jE _) iiz yP fun a w s=> ?_
  refine zA rfl (hQ _ _ ?_)
  refine zY 2 ((10, .s ((fI (p:Int)).tS))::(11, .u (fI ((p+1:Nat):Int))):: []) s kH
   (oc zC<|oc (yR .i64 (p:Int) 1 ((p+1:Nat):Int) iiz iiz (wrap64 _ _ oO oO))<|zD) fun a w6 s=> ?_
  replace s:=s.drop [4]
  refine yU (fI ((p+1:Nat):Int)) rfl s kH iiz fun a w s=> ?_
  refine zA rfl ?_
  exact ⟨p+1,hk1,(by show qs.length - (p+1)<qs.length - p;omega),s.keepK _ (fmz ⟨mz4,fmz ⟨.head _,fnz⟩⟩)⟩
 ·have hk1:p=qs.length:=by have:=zWj e;rw [zWt] at this;omega
  refine zWk ?_
  refine tX ?_
  refine zB 1 ((19, .u (fQN (zC5 qs p))):: []) hmix s kH
   (oc (zK (f:=fQN (zC5 qs p)) 3 kH (hz:=jE _))<|zD) fun a w7 s=> ?_
  refine zR (CU.agg (fQN (zC5 qs p))) ((fQN (zC5 qs p)).tS) rfl s kH rfl rfl rfl iiz iiz yP fun a w s=> ?_
  refine zA rfl ?_
  refine tY ?_
  exact wE s (CU.agg (fQN (zC5 qs p))) rfl kH rfl rfl (jE _) (fun cs W h=>by rw [hk1] at h;exact h)
theorem zQG {W:Wi} {m:Nat} {v:Wj} {qs:List Rat} (M:Nat) (h:(SF.row 3 (rvs m qs)).p v W) (_hm0:0<m) (hmM:m<=M) (hM:M<=990) (hl:qs.length<=1000000) (hq: ∀q,q∈qs->QB q m) (hp: ∀k,k<qs.length->QB (jB qs k) M):Calls prog 61 #[v] W (Ret W (fQN (jB qs qs.length)).tS):=by
 refine yB [SF.row 3 (rvs m qs)] func61 rfl kH ⟨h,trivial⟩ fun a s=> ?_
 refine tX ?_
 refine zB 0 [] hmix s kH
  zD fun a w1 s=> ?_
 refine z7 (CU.len 3) (cs:=zR3) kH rfl s kH (fun W=>rfl) rfl fun b2 a w s=> ?_
 refine zA rfl ?_
 refine tX ?_
 refine zB 1 ((6, .u (fQN ((1:Int):Rat))):: []) hmix s kH
  (oc (zH zE zHp (fun u0 W hb (h0:u0= .int .i64 1)=>zDX 1 h0 dA))<|zD) fun a w2 s=> ?_
 refine z7 (CU.len 3) (cs:=zR3) kH rfl s kH (fun W=>rfl) rfl fun b3 a w s=> ?_
 refine zR (CU.agg (fQN ((1:Int):Rat))) ((fQN ((1:Int):Rat)).tS) rfl s kH rfl rfl rfl iiz iiz yP fun a w s=> ?_
 refine zA rfl ?_
 refine tX ?_
 refine tX ?_
 refine zB 1 ((4, .u (uI 0)):: []) hmix s kH
  (oc zG<|zD) fun a w3 s=> ?_
 refine zA rfl ?_
 refine zWa ?_
 refine zDc 3 (fun p=>CU.agg (fQN (jB qs p))) (fun p=>p<=qs.length) (fun p=> [(0, .o (SF.row 3 (rvs m qs))),(4, .u (fI (p:Int)))]) (fun p=>qs.length - p) (0:Nat) (zV4 _) (s.keepK _ (fmz ⟨mz2,fmz ⟨.head _,fnz⟩⟩)) rfl fun p a w hx s=> ?_
 refine tX ?_
 refine tX ?_
 refine zB 4 ((7, .s ((fI (p:Int)).tS))::(8, .s (SF.row 3 (rvs m qs)))::(9, .s ((uI ((rvs m qs).length:Int)).tS))::(10, .u (uB (decide ((p:Int)<((rvs m qs).length:Int))))):: []) hmix s kH
  (oc zC<|oc zC<|oc (zCn (z:=3) (Cs:=rvs m qs) kH iiz (fun _=>rfl))<|oc (zS .i64 (p:Int) ((rvs m qs).length:Int) (decide ((p:Int)<((rvs m qs).length:Int))) iiz iiz rfl rfl)<|zD) fun a w4 s=> ?_
 refine zA rfl ?_
 refine StS.cond s (decide ((p:Int)<((rvs m qs).length:Int))) iiz (fun e=> ?_) (fun e=> ?_)
 ·have hk1:p+1<=qs.length:=by have:=zGf e;rw [zWt] at this;omega
  have hx2:=zKH (m:=m) (k:=p) hk1
  have hqp:=hq _ (zLc (k:=p) hk1)
  have hnew: ∀W u0 u1,NV W u0 ((jB qs p).num*(qAt qs p).num)->qU W u1 ((jB qs p).den*(qAt qs p).den)->Calls prog 67 #[u0,u1] W (Ret W (zAj (fQN (jB qs p*qAt qs p)) (fI 0)).tS):=fun W u0 u1 h0 h1=>by
   have:=zK1 (m:=M+m) (h0.uv' (Bd.mul (hp p hk1).1 hqp.1)) (h1.lv (zDL (hp p hk1).2 hqp.2)) oO (Nat.mul_pos (Rat.den_pos _) (Rat.den_pos _))
   rw [<-Rat.mul_def'] at this
   exact this
  refine zV6 ?_
  refine tX ?_
  refine zWa ?_
  refine tX ?_
  refine zB 5 ((13, .s (SF.row 3 (rvs m qs)))::(14, .s ((fI (p:Int)).tS))::(15, .s (wB (CU.agg (fRV m (qAt qs p))).cf))::(16, .s ((fRV m (qAt qs p)).tS))::(17, .u (fQN (qAt qs p))):: []) hmix s kH
   (oc zC<|oc zC<|oc (zBr (z:=3) (Cs:=rvs m qs) (i:=p) (C:=CU.agg (fRV m (qAt qs p))) kH hx2 iiz iiz)<|oc (zK (f:=fRV m (qAt qs p)) 3 kH (hz:=jD _ _))<|oc (zH zE zGm (fun u0 W hb (h0:RVp m (qAt qs p) u0 W)=>zBp h0 oO))<|zD) fun a w5 s=> ?_
  refine z7 (CU.len 3) (cs:=zR3) kH rfl s kH (fun W=>rfl) rfl fun b5 a w s=> ?_
  refine zR (CU.agg (fQN (qAt qs p))) ((fQN (qAt qs p)).tS) rfl s kH rfl rfl rfl iiz iiz yP fun a w s=> ?_
  refine zA rfl ?_
  refine zBy (fun i=> [14].contains i) [] 15 ((19, .s (wB ((CU.agg (fQN (jB qs p))).cf.at 0)))::(20, .s ((fNV ((jB qs p).num)).tS))::(21, .s (wB ((CU.agg (fQN (qAt qs p))).cf.at 0)))::(22, .s ((fNV ((qAt qs p).num)).tS))::(23, .s (zJ2 (M+m) [(jB qs p).num,(qAt qs p).num]))::(24, .s ((fNV ((jB qs p).num*(qAt qs p).num)).tS))::(25, .s (wB ((CU.agg (fQN (jB qs p))).cf.at 2)))::(26, .s ((jA ((jB qs p).den)).tS))::(27, .s (wB ((CU.agg (fQN (qAt qs p))).cf.at 2)))::(28, .s ((jA ((qAt qs p).den)).tS))::(29, .s ((jA ((jB qs p).den*(qAt qs p).den)).tS))::(30, .s ((zAj (fQN (jB qs p*qAt qs p)) (uI 0)).tS))::(18, .s ((zAj (fQN (jB qs p*qAt qs p)) (uI 0)).tS))::(31, .u (fQN (jB qs p*qAt qs p)))::(32, .s ((uI 0).tS)):: []) hmix s fnz kH
   (oc (zJ (C:=(CU.agg (fQN (jB qs p))).cf) 0 kH)<|oc (zP (C:=(CU.agg (fQN (jB qs p))).cf) (k:=0) 2 kH (h:=zBl))<|oc (zJ (C:=(CU.agg (fQN (qAt qs p))).cf) 0 kH)<|oc (zP (C:=(CU.agg (fQN (qAt qs p))).cf) (k:=0) 2 kH (h:=zBl))<|oc (yI (fun u v W (hu:NV W u ((jB qs p).num)) (hv:NV W v ((qAt qs p).num))=>zA7 (NV.uv' hu (Bd.mono (hp p hk1).1 (m':=(M+m)) (by first|omega|decide))) (NV.uv' hv (Bd.mono (hqp).1 (m':=(M+m)) (by first|omega|decide)))))<|oc (zH zE zJ3 (fun u0 W hb (h0:ISV W (M+m) u0 [(jB qs p).num,(qAt qs p).num])=>zDJ h0 (by show (M+m)*2+(M+m)+1<=40000;omega) (by simp) (by simp)))<|oc (zJ (C:=(CU.agg (fQN (jB qs p))).cf) 2 kH)<|oc (jF (C:=(CU.agg (fQN (jB qs p))).cf) (k:=2) kH (h:=zA2))<|oc (zJ (C:=(CU.agg (fQN (qAt qs p))).cf) 2 kH)<|oc (jF (C:=(CU.agg (fQN (qAt qs p))).cf) (k:=2) kH (h:=zA2))<|oc (zI zE zRw (fun u0 u1 W hb (h0:qU W u0 ((jB qs p).den)) (h1:qU W u1 ((qAt qs p).den))=>zKN (qU.lv (m:=M+m) h0 (zV8 (hp p hk1).2 (zWb qB oO))) (qU.lv (m:=M+m) h1 (zV8 hqp.2 (zWb qB oO))) oO))<|oc (zI zE zOw (fun u0 u1 W hb (h0:NV W u0 ((jB qs p).num*(qAt qs p).num)) (h1:qU W u1 ((jB qs p).den*(qAt qs p).den))=>hnew W u0 u1 h0 h1))<|oc zC<|oc (zAp (A:=(fQN (jB qs p*qAt qs p)).tS) (B:=(uI 0).tS) iiz)<|oc (zAo (A:=(fQN (jB qs p*qAt qs p)).tS) (B:=(uI 0).tS) iiz)<|zD) fun Q' hQ a w6 s hr hd=> ?_
  refine zR (CU.agg (fQN (jB qs p*qAt qs p))) ((fQN (jB qs p*qAt qs p)).tS) rfl s kH rfl rfl rfl (jE _) iiz yP fun a w s=> ?_
  refine zA rfl (hQ _ _ ?_)
  refine zY 2 ((11, .s ((fI (p:Int)).tS))::(12, .u (fI ((p+1:Nat):Int))):: []) s kH
   (oc zC<|oc (yR .i64 (p:Int) 1 ((p+1:Nat):Int) iiz iiz (wrap64 _ _ oO oO))<|zD) fun a w7 s=> ?_
  replace s:=s.drop [4]
  refine yU (fI ((p+1:Nat):Int)) rfl s kH iiz fun a w s=> ?_
  refine zA rfl ?_
  replace s:=s.popB
  exact ⟨p+1,hk1,(by show qs.length - (p+1)<qs.length - p;omega),s.keepK _ (fmz ⟨mz5,fmz ⟨.head _,fnz⟩⟩)⟩
 ·have hk1:p=qs.length:=by have:=zWj e;rw [zWt] at this;omega
  refine zWk ?_
  refine tX ?_
  refine zB 1 ((33, .u (fQN (jB qs p))):: []) hmix s kH
   (oc (zK (f:=fQN (jB qs p)) 3 kH (hz:=jE _))<|zD) fun a w8 s=> ?_
  refine zR (CU.agg (fQN (jB qs p))) ((fQN (jB qs p)).tS) rfl s kH rfl rfl rfl iiz iiz yP fun a w s=> ?_
  refine zA rfl ?_
  refine tY ?_
  exact wE s (CU.agg (fQN (jB qs p))) rfl kH rfl rfl (jE _) (fun cs W h=>by rw [hk1] at h;exact h)
theorem zDg {W:Wi} {m:Nat} {v:Wj} {p q:Rat} (h:(SF.row 3 (rvs m [p,q])).p v W) (hp:QB p m) (hq:QB q m) (hm:m<=990):Calls prog 45 #[v] W (Ret W (fQN (p+q)).tS):=by
 have:=zQI m h hp.pos lr hm (by simp) (fun x hx=>by simp at hx;rcases hx with rfl|rfl;exact hp;exact hq) (fun k hk=>by
  rcases (by simp at hk;omega:k=0∨k=1) with rfl|rfl
  ·exact QB.zero hp.pos
  ·show QB (0+p) _
   rw [Rat.zero_add]
   exact hp)
 rw [show ([p,q]:List Rat).length=2 from rfl,zQQ] at this
 exact this
theorem zBI {W:Wi} {m:Nat} {v:Wj} {p q:Rat} (h:(SF.row 3 (rvs m [p,q])).p v W) (hp:QB p m) (hq:QB q m) (hm:m<=990):Calls prog 61 #[v] W (Ret W (fQN (p*q)).tS):=by
 have hm0:=hp.pos
 have:=zQG m h hm0 lr hm (by simp) (fun x hx=>by simp at hx;rcases hx with rfl|rfl;exact hp;exact hq) (fun k hk=>by
  rcases (by simp at hk;omega:k=0∨k=1) with rfl|rfl
  ·exact QB.one hp.pos
  ·show QB (1*p) _
   rw [zWp]
   exact hp)
 rw [show ([p,q]:List Rat).length=2 from rfl,zLa] at this
 exact this
theorem zDN {F:Fence} {m:Nat} {P:Wn} {w0:Wi} {ops:Array Oper} {G:Nat->SF} {d:Tmp} {ty:Wk} {pos:String} {aft:Array Edge} {t:Wk} {x y:Wm} {t':Wk} (k:IntKind) (u v r:Int) (hx: ∀q W,(fct G x).p q W->q= .int k u) (hy: ∀q W,(fct G y).p q W->q= .int k v) (hr:k.wrap (u - v)=r) (hd: ∀W,(G d).p (.int k r) W:=by exact fun _=>rfl):qN F m P w0 ops G ⟨some d, .binOp .sub t x y t',ty,pos,aft,none⟩:=
 zDn (.int k u) (.int k v) (.int k r) hx hy (fun W=>by simp [eqGuard]) (fun W=>by simp [binOp,Op.intArith,hr]) hd
theorem zFQ {W:Wi} {m:Nat} {u v:Wj} {p q:Rat} (h:RVp m p u W) (h':RVp m q v W) (hm:m<=990) (hm0:0<m):Calls prog 57 #[u,v] W (Ret W (fQN (p - q)).tS):=by
 have hp:QB p m:=h.qb hm0
 have hq:QB q m:=h'.qb hm0
 refine yB [(fRV m p).tS,(fRV m q).tS] func57 rfl kH ⟨h,h',trivial⟩ fun a s=> ?_
 refine tX ?_
 refine zB 0 [] hmix s kH
  zD fun a w1 s=> ?_
 refine yO (CU.agg (fRV m p)) rfl s kH (fun v W h=>zAe h) fun b2 a w s=> ?_
 refine yO (CU.agg (fRV m q)) rfl s kH (fun v W h=>zAe h) fun b3 a w s=> ?_
 refine z7 (CU.len 3) (cs:=zR3) kH rfl s kH (fun W=>rfl) rfl fun b4 a w s=> ?_
 refine zA rfl ?_
 refine tX ?_
 refine z9 [] 5 ((5, .s ((fRV m p).tS))::(6, .s ((fRV m q).tS))::(7, .s ((fQN (-q)).tS))::(8, .s (SF.row 3 (rvs m [p,(-q)])))::(9, .u (fQN (p+ -q))):: []) hmix s kH
  (oc (zK (f:=fRV m p) 3 kH (hz:=jD _ _))<|oc (zK (f:=fRV m q) 3 kH (hz:=jD _ _))<|oc (zH zE zUp (fun u0 W hb (h0:RVp m q u0 W)=>zQF h0 oO hm0))<|oc (yI (fun u v W (hu:RVp m p u W) (hv:QNp (-q) v W)=>zBT hu (wJ hv hq.neg)))<|oc (zH zE zMk (fun u0 W hb (h0:(SF.row 3 (rvs m [p,(-q)])).p u0 W)=>zDg h0 hp hq.neg oO))<|zD) fun Q' hQ a w2 s=> ?_
 refine zR (CU.agg (fQN (p+ -q))) ((fQN (p+ -q)).tS) rfl s kH rfl rfl rfl iiz iiz yP fun a w s=> ?_
 refine zA rfl (hQ _ _ ?_)
 refine tY ?_
 exact wE s (CU.agg (fQN (p+ -q))) rfl kH rfl rfl (jE _) (fun cs W h=>by rw [Rat.sub_eq_add_neg];exact h)
theorem zQH {W:Wi} {m:Nat} {u v:Wj} {p q:Rat} (h:RVp m p u W) (h':RVp m q v W) (hm:m<=490) (hm0:0<m):Calls prog 16 #[u,v] W (Ret W (fQN ((p+q) / 2)).tS):=by
 have hp:QB p m:=h.qb hm0
 have hq:QB q m:=h'.qb hm0
 have hq2:QB ((2:Int):Rat) (m+m+1):=QB.mono (m:=1) ⟨by unfold Bd BB;decide+kernel,by unfold BB;decide+kernel⟩ oO
 refine yB [(fRV m p).tS,(fRV m q).tS] func16 rfl kH ⟨h,h',trivial⟩ fun a s=> ?_
 refine tX ?_
 refine zB 0 [] hmix s kH
  zD fun a w1 s=> ?_
 refine yO (CU.agg (fRV m p)) rfl s kH (fun v W h=>zAe h) fun b2 a w s=> ?_
 refine yO (CU.agg (fRV m q)) rfl s kH (fun v W h=>zAe h) fun b3 a w s=> ?_
 refine z7 (CU.len 3) (cs:=zR3) kH rfl s kH (fun W=>rfl) rfl fun b4 a w s=> ?_
 refine zA rfl ?_
 refine tX ?_
 refine zB 9 ((8, .s ((fRV m p).tS))::(9, .s ((fRV m q).tS))::(10, .s (SF.row 3 (rvs m [p,q])))::(11, .s ((fQN (p+q)).tS))::(12, .s ((fQN ((2:Int):Rat)).tS))::(13, .s ((zAj (fQN ((p+q) / ((2:Int):Rat))) (UF.any)).tS))::(7, .s ((zAj (fQN ((p+q) / ((2:Int):Rat))) (UF.any)).tS))::(14, .u (fQN ((p+q) / ((2:Int):Rat)))):: []) hmix s kH
  (oc (zK (f:=fRV m p) 3 kH (hz:=jD _ _))<|oc (zK (f:=fRV m q) 3 kH (hz:=jD _ _))<|oc (yI (fun u v W (hu:RVp m p u W) (hv:RVp m q v W)=>zBT hu hv))<|oc (zH zE zMk (fun u0 W hb (h0:(SF.row 3 (rvs m [p,q])).p u0 W)=>zDg h0 hp hq oO))<|oc (zH zE zHp (fun u0 W hb (h0:u0= .int .i64 2)=>zDX 2 h0 dA))<|oc (zI zE zTb (fun u0 u1 W hb (h0:QNp (p+q) u0 W) (h1:QNp ((2:Int):Rat) u1 W)=>(zKZ (wJ h0 (hp.add hq)) (wJ h1 hq2) oO oO).mono (fun e w' ⟨v,e1,⟨x,y,e2,h2,_⟩,hb⟩=>⟨v,e1,⟨x,y,e2,h2,trivial⟩,hb⟩)))<|oc zC<|oc (zAp (A:=(fQN ((p+q) / ((2:Int):Rat))).tS) (B:=(UF.any).tS) iiz)<|oc (zAo (A:=(fQN ((p+q) / ((2:Int):Rat))).tS) (B:=(UF.any).tS) iiz)<|zD) fun a w2 s=> ?_
 refine z7 (CU.len 3) (cs:=zR3) kH rfl s kH (fun W=>rfl) rfl fun b5 a w s=> ?_
 refine zR (CU.agg (fQN ((p+q) / ((2:Int):Rat)))) ((fQN ((p+q) / ((2:Int):Rat))).tS) rfl s kH rfl rfl rfl iiz iiz yP fun a w s=> ?_
 refine yU UF.any rfl s kH (fun _ _ _=>trivial) fun a w s=> ?_
 refine zA rfl ?_
 refine tX ?_
 refine zB 1 ((16, .u (fQN ((p+q) / ((2:Int):Rat)))):: []) hmix s kH
  (oc (zK (f:=fQN ((p+q) / ((2:Int):Rat))) 3 kH (hz:=jE _))<|zD) fun a w3 s=> ?_
 refine zR (CU.agg (fQN ((p+q) / ((2:Int):Rat)))) ((fQN ((p+q) / ((2:Int):Rat))).tS) rfl s kH rfl rfl rfl iiz iiz yP fun a w s=> ?_
 refine zA rfl ?_
 refine tY ?_
 exact wE s (CU.agg (fQN ((p+q) / ((2:Int):Rat)))) rfl kH rfl rfl (jE _) (fun cs W h=>h)
abbrev QX.q (x:QX):Rat:=mkRat x.k x.d
theorem zVg {n n' m:Nat} {k:Int} {d:Nat} {v:Wj} {W:Wi} (h:QXp n n' k d v W) (h1:n<=m) (h2:n'<=m):RVp m (mkRat k d) v W:=⟨k,d,zT5 h h1 h2,rfl⟩
theorem zSf {W:Wi} {v:Wj} (z:Int) (hv:v= .int .i64 z) (hz: -9223372036854775808<=z/\z<=9223372036854775807):Calls prog 77 #[v] W (Ret W (fQN (z:Rat)).tS):=by
 subst hv
 exact zNo z hz
theorem zQZ {F:Fence} {m:Nat} {P:Wn} {w0:Wi} {ops:Array Oper} {G:Nat->SF} {d:Tmp} {ty:Wk} {pos:String} {aft:Array Edge} {t:Wk} {x y:Wm} {t':Wk} (k:IntKind) (u v r:Int) (hx: ∀q W,(fct G x).p q W->q= .int k u) (hy: ∀q W,(fct G y).p q W->q= .int k v) (hr:k.wrap (u*v)=r) (hd: ∀W,(G d).p (.int k r) W:=by exact fun _=>rfl):qN F m P w0 ops G ⟨some d, .binOp .mul t x y t',ty,pos,aft,none⟩:=
 zDn (.int k u) (.int k v) (.int k r) hx hy (fun W=>by simp [eqGuard]) (fun W=>by simp [binOp,Op.intArith,hr]) hd
end Go.Proofs.Wd

namespace Go.Proofs.Wd
open Tryz
set_option maxRecDepth 100000
set_option maxHeartbeats 1000000
open Go.RowKit Lb
theorem zCg {W:Wi} {u v:Wj} {x y:Int} (hu:u= .int .i64 x) (hv:v= .int .i64 y) (hx: -9223372036854775808<=x/\x<=9223372036854775807) (hy: -9223372036854775808<=y/\y<=9223372036854775807):Calls prog 25 #[u,v] W (Ret W (fPN (((x:Int):Rat),((y:Int):Rat))).tS):=by
 refine yB [(uI x).tS,(uI y).tS] func25 rfl kH ⟨hu,hv,trivial⟩ fun a s=> ?_
 refine tX ?_
 refine zB 0 [] hmix s kH
  zD fun a w1 s=> ?_
 refine z7 (CU.len 6) (cs:=zP6) kH rfl s kH (fun W=>rfl) rfl fun b4 a w s=> ?_
 refine zA rfl ?_
 refine tX ?_
 refine zB 5 ((5, .s ((uI x).tS))::(6, .s ((fQN ((x:Int):Rat)).tS))::(7, .s ((uI y).tS))::(8, .s ((fQN ((y:Int):Rat)).tS))::(9, .u (fPN (((x:Int):Rat),((y:Int):Rat)))):: []) hmix s kH
  (oc zC<|oc (zH zE zHp (fun u0 W hb (h0:u0= .int .i64 x)=>zDX x h0 hx))<|oc zC<|oc (zH zE zHp (fun u0 W hb (h0:u0= .int .i64 y)=>zDX y h0 hy))<|oc (qA (fun u v W (hu:QNp ((x:Int):Rat) u W) (hv:QNp ((y:Int):Rat) v W)=>zPT (zAu _) (zAu _) hu hv))<|zD) fun a w2 s=> ?_
 refine zR (CU.agg (fPN (((x:Int):Rat),((y:Int):Rat)))) ((fPN (((x:Int):Rat),((y:Int):Rat))).tS) rfl s kH rfl rfl rfl iiz iiz y5 fun a w s=> ?_
 refine zA rfl ?_
 refine tY ?_
 exact wE s (CU.agg (fPN (((x:Int):Rat),((y:Int):Rat)))) rfl kH rfl rfl (zO _ _) (fun cs W h=>h)
theorem zQC {m:Nat} {W:Wi} {u v:Wj} {p q:V2} (h1:(fPV m p).p u W) (h2:(fPV m q).p v W) (hp:QB p.1 m/\QB p.2 m) (hq:QB q.1 m/\QB q.2 m) (hm:m<=990):Calls prog 26 #[u,v] W (Ret W (fPN (p.1+q.1,p.2+q.2)).tS):=by
 refine yB [(fPV m p).tS,(fPV m q).tS] func26 rfl kH ⟨h1,h2,trivial⟩ fun a s=> ?_
 refine tX ?_
 refine zB 0 [] hmix s kH
  zD fun a w1 s=> ?_
 refine yO (CU.agg (fPV m p)) rfl s kH (fun v W h=>yV h) fun b2 a w s=> ?_
 refine yO (CU.agg (fPV m q)) rfl s kH (fun v W h=>yV h) fun b3 a w s=> ?_
 refine z7 (CU.len 6) (cs:=zP6) kH rfl s kH (fun W=>rfl) rfl fun b4 a w s=> ?_
 refine zA rfl ?_
 refine tX ?_
 refine z9 [] 13 ((5, .s (wB ((CU.agg (fPV m p)).cf.at 0)))::(6, .s ((fRV m ((p).1)).tS))::(7, .s (wB ((CU.agg (fPV m q)).cf.at 0)))::(8, .s ((fRV m ((q).1)).tS))::(9, .s (SF.row 3 (rvs m [(p).1,(q).1])))::(10, .s ((fQN ((p).1+(q).1)).tS))::(11, .s (wB ((CU.agg (fPV m p)).cf.at 3)))::(12, .s ((fRV m ((p).2)).tS))::(13, .s (wB ((CU.agg (fPV m q)).cf.at 3)))::(14, .s ((fRV m ((q).2)).tS))::(15, .s (SF.row 3 (rvs m [(p).2,(q).2])))::(16, .s ((fQN ((p).2+(q).2)).tS))::(17, .u (fPN (p.1+q.1,p.2+q.2))):: []) hmix s kH
  (oc (zJ (C:=(CU.agg (fPV m p)).cf) 0 kH)<|oc (zP (C:=(CU.agg (fPV m p)).cf) (k:=0) 3 kH (h:=zC7))<|oc (zJ (C:=(CU.agg (fPV m q)).cf) 0 kH)<|oc (zP (C:=(CU.agg (fPV m q)).cf) (k:=0) 3 kH (h:=zC7))<|oc (yI (fun u v W (hu:RVp m ((p).1) u W) (hv:RVp m ((q).1) v W)=>zBT hu hv))<|oc (zH zE zMk (fun u0 W hb (h0:(SF.row 3 (rvs m [(p).1,(q).1])).p u0 W)=>zDg h0 hp.1 hq.1 hm))<|oc (zJ (C:=(CU.agg (fPV m p)).cf) 3 kH)<|oc (zP (C:=(CU.agg (fPV m p)).cf) (k:=3) 3 kH (h:=zC6))<|oc (zJ (C:=(CU.agg (fPV m q)).cf) 3 kH)<|oc (zP (C:=(CU.agg (fPV m q)).cf) (k:=3) 3 kH (h:=zC6))<|oc (yI (fun u v W (hu:RVp m ((p).2) u W) (hv:RVp m ((q).2) v W)=>zBT hu hv))<|oc (zH zE zMk (fun u0 W hb (h0:(SF.row 3 (rvs m [(p).2,(q).2])).p u0 W)=>zDg h0 hp.2 hq.2 hm))<|oc (qA (fun u v W (hu:QNp ((p).1+(q).1) u W) (hv:QNp ((p).2+(q).2) v W)=>zPT (zAu _) (zAu _) hu hv))<|zD) fun Q' hQ a w2 s=> ?_
 refine zR (CU.agg (fPN (p.1+q.1,p.2+q.2))) ((fPN (p.1+q.1,p.2+q.2)).tS) rfl s kH rfl rfl rfl iiz iiz y5 fun a w s=> ?_
 refine zA rfl (hQ _ _ ?_)
 refine tY ?_
 exact wE s (CU.agg (fPN (p.1+q.1,p.2+q.2))) rfl kH rfl rfl (zO _ _) (fun cs W h=>h)
theorem zBM {m:Nat} {W:Wi} {u v:Wj} {p q:V2} (h1:(fPV m p).p u W) (h2:(fPV m q).p v W) (hm:m<=990) (hm0:0<m):Calls prog 27 #[u,v] W (Ret W (fPN (p.1 - q.1,p.2 - q.2)).tS):=by
 refine yB [(fPV m p).tS,(fPV m q).tS] func27 rfl kH ⟨h1,h2,trivial⟩ fun a s=> ?_
 refine tX ?_
 refine zB 0 [] hmix s kH
  zD fun a w1 s=> ?_
 refine yO (CU.agg (fPV m p)) rfl s kH (fun v W h=>yV h) fun b2 a w s=> ?_
 refine yO (CU.agg (fPV m q)) rfl s kH (fun v W h=>yV h) fun b3 a w s=> ?_
 refine z7 (CU.len 6) (cs:=zP6) kH rfl s kH (fun W=>rfl) rfl fun b4 a w s=> ?_
 refine zA rfl ?_
 refine tX ?_
 refine z9 [] 11 ((5, .s (wB ((CU.agg (fPV m p)).cf.at 0)))::(6, .s ((fRV m ((p).1)).tS))::(7, .s (wB ((CU.agg (fPV m q)).cf.at 0)))::(8, .s ((fRV m ((q).1)).tS))::(9, .s ((fQN ((p).1 - (q).1)).tS))::(10, .s (wB ((CU.agg (fPV m p)).cf.at 3)))::(11, .s ((fRV m ((p).2)).tS))::(12, .s (wB ((CU.agg (fPV m q)).cf.at 3)))::(13, .s ((fRV m ((q).2)).tS))::(14, .s ((fQN ((p).2 - (q).2)).tS))::(15, .u (fPN (p.1 - q.1,p.2 - q.2))):: []) hmix s kH
  (oc (zJ (C:=(CU.agg (fPV m p)).cf) 0 kH)<|oc (zP (C:=(CU.agg (fPV m p)).cf) (k:=0) 3 kH (h:=zC7))<|oc (zJ (C:=(CU.agg (fPV m q)).cf) 0 kH)<|oc (zP (C:=(CU.agg (fPV m q)).cf) (k:=0) 3 kH (h:=zC7))<|oc (zI zE zOx (fun u0 u1 W hb (h0:RVp m ((p).1) u0 W) (h1:RVp m ((q).1) u1 W)=>zFQ h0 h1 hm hm0))<|oc (zJ (C:=(CU.agg (fPV m p)).cf) 3 kH)<|oc (zP (C:=(CU.agg (fPV m p)).cf) (k:=3) 3 kH (h:=zC6))<|oc (zJ (C:=(CU.agg (fPV m q)).cf) 3 kH)<|oc (zP (C:=(CU.agg (fPV m q)).cf) (k:=3) 3 kH (h:=zC6))<|oc (zI zE zOx (fun u0 u1 W hb (h0:RVp m ((p).2) u0 W) (h1:RVp m ((q).2) u1 W)=>zFQ h0 h1 hm hm0))<|oc (qA (fun u v W (hu:QNp ((p).1 - (q).1) u W) (hv:QNp ((p).2 - (q).2) v W)=>zPT (zAu _) (zAu _) hu hv))<|zD) fun Q' hQ a w2 s=> ?_
 refine zR (CU.agg (fPN (p.1 - q.1,p.2 - q.2))) ((fPN (p.1 - q.1,p.2 - q.2)).tS) rfl s kH rfl rfl rfl iiz iiz y5 fun a w s=> ?_
 refine zA rfl (hQ _ _ ?_)
 refine tY ?_
 exact wE s (CU.agg (fPN (p.1 - q.1,p.2 - q.2))) rfl kH rfl rfl (zO _ _) (fun cs W h=>h)
theorem zGS {m:Nat} {W:Wi} {u v:Wj} {p:V2} {t:Rat} (h1:(fPV m p).p u W) (h2:RVp m t v W) (hp:QB p.1 m/\QB p.2 m) (ht:QB t m) (hm:m<=990):Calls prog 33 #[u,v] W (Ret W (fPN (p.1*t,p.2*t)).tS):=by
 refine yB [(fPV m p).tS,(fRV m t).tS] func33 rfl kH ⟨h1,h2,trivial⟩ fun a s=> ?_
 refine tX ?_
 refine zB 0 [] hmix s kH
  zD fun a w1 s=> ?_
 refine yO (CU.agg (fPV m p)) rfl s kH (fun v W h=>yV h) fun b2 a w s=> ?_
 refine yO (CU.agg (fRV m t)) rfl s kH (fun v W h=>zAe h) fun b3 a w s=> ?_
 refine z7 (CU.len 6) (cs:=zP6) kH rfl s kH (fun W=>rfl) rfl fun b4 a w s=> ?_
 refine zA rfl ?_
 refine tX ?_
 refine z9 [] 11 ((5, .s (wB ((CU.agg (fPV m p)).cf.at 0)))::(6, .s ((fRV m ((p).1)).tS))::(7, .s ((fRV m t).tS))::(8, .s (SF.row 3 (rvs m [(p).1,t])))::(9, .s ((fQN ((p).1*t)).tS))::(10, .s (wB ((CU.agg (fPV m p)).cf.at 3)))::(11, .s ((fRV m ((p).2)).tS))::(12, .s ((fRV m t).tS))::(13, .s (SF.row 3 (rvs m [(p).2,t])))::(14, .s ((fQN ((p).2*t)).tS))::(15, .u (fPN (p.1*t,p.2*t))):: []) hmix s kH
  (oc (zJ (C:=(CU.agg (fPV m p)).cf) 0 kH)<|oc (zP (C:=(CU.agg (fPV m p)).cf) (k:=0) 3 kH (h:=zC7))<|oc (zK (f:=fRV m t) 3 kH (hz:=jD _ _))<|oc (yI (fun u v W (hu:RVp m ((p).1) u W) (hv:RVp m t v W)=>zBT hu hv))<|oc (zH zE zHn (fun u0 W hb (h0:(SF.row 3 (rvs m [(p).1,t])).p u0 W)=>zBI h0 hp.1 ht oO))<|oc (zJ (C:=(CU.agg (fPV m p)).cf) 3 kH)<|oc (zP (C:=(CU.agg (fPV m p)).cf) (k:=3) 3 kH (h:=zC6))<|oc (zK (f:=fRV m t) 3 kH (hz:=jD _ _))<|oc (yI (fun u v W (hu:RVp m ((p).2) u W) (hv:RVp m t v W)=>zBT hu hv))<|oc (zH zE zHn (fun u0 W hb (h0:(SF.row 3 (rvs m [(p).2,t])).p u0 W)=>zBI h0 hp.2 ht oO))<|oc (qA (fun u v W (hu:QNp ((p).1*t) u W) (hv:QNp ((p).2*t) v W)=>zPT (zAu _) (zAu _) hu hv))<|zD) fun Q' hQ a w2 s=> ?_
 refine zR (CU.agg (fPN (p.1*t,p.2*t))) ((fPN (p.1*t,p.2*t)).tS) rfl s kH rfl rfl rfl iiz iiz y5 fun a w s=> ?_
 refine zA rfl (hQ _ _ ?_)
 refine tY ?_
 exact wE s (CU.agg (fPN (p.1*t,p.2*t))) rfl kH rfl rfl (zO _ _) (fun cs W h=>h)
theorem zEG {m:Nat} {W:Wi} {u v:Wj} {p q:V2} (h1:(fPV m p).p u W) (h2:(fPV m q).p v W) (hp:QB p.1 m/\QB p.2 m) (hq:QB q.1 m/\QB q.2 m) (hm:m<=495) (hm0:0<m):Calls prog 86 #[u,v] W (Ret W (fQN (p.1*q.2 - p.2*q.1)).tS):=by
 refine yB [(fPV m p).tS,(fPV m q).tS] func86 rfl kH ⟨h1,h2,trivial⟩ fun a s=> ?_
 refine tX ?_
 refine zB 0 [] hmix s kH
  zD fun a w1 s=> ?_
 refine yO (CU.agg (fPV m p)) rfl s kH (fun v W h=>yV h) fun b2 a w s=> ?_
 refine yO (CU.agg (fPV m q)) rfl s kH (fun v W h=>yV h) fun b3 a w s=> ?_
 refine z7 (CU.len 3) (cs:=zR3) kH rfl s kH (fun W=>rfl) rfl fun b4 a w s=> ?_
 refine zA rfl ?_
 refine tX ?_
 refine z9 [] 13 ((5, .s (wB ((CU.agg (fPV m p)).cf.at 0)))::(6, .s ((fRV m ((p).1)).tS))::(7, .s (wB ((CU.agg (fPV m q)).cf.at 3)))::(8, .s ((fRV m ((q).2)).tS))::(9, .s (SF.row 3 (rvs m [(p).1,(q).2])))::(10, .s ((fQN ((p).1*(q).2)).tS))::(11, .s (wB ((CU.agg (fPV m p)).cf.at 3)))::(12, .s ((fRV m ((p).2)).tS))::(13, .s (wB ((CU.agg (fPV m q)).cf.at 0)))::(14, .s ((fRV m ((q).1)).tS))::(15, .s (SF.row 3 (rvs m [(p).2,(q).1])))::(16, .s ((fQN ((p).2*(q).1)).tS))::(17, .u (fQN (((p).1*(q).2) - ((p).2*(q).1)))):: []) hmix s kH
  (oc (zJ (C:=(CU.agg (fPV m p)).cf) 0 kH)<|oc (zP (C:=(CU.agg (fPV m p)).cf) (k:=0) 3 kH (h:=zC7))<|oc (zJ (C:=(CU.agg (fPV m q)).cf) 3 kH)<|oc (zP (C:=(CU.agg (fPV m q)).cf) (k:=3) 3 kH (h:=zC6))<|oc (yI (fun u v W (hu:RVp m ((p).1) u W) (hv:RVp m ((q).2) v W)=>zBT hu hv))<|oc (zH zE zHn (fun u0 W hb (h0:(SF.row 3 (rvs m [(p).1,(q).2])).p u0 W)=>zBI h0 hp.1 hq.2 oO))<|oc (zJ (C:=(CU.agg (fPV m p)).cf) 3 kH)<|oc (zP (C:=(CU.agg (fPV m p)).cf) (k:=3) 3 kH (h:=zC6))<|oc (zJ (C:=(CU.agg (fPV m q)).cf) 0 kH)<|oc (zP (C:=(CU.agg (fPV m q)).cf) (k:=0) 3 kH (h:=zC7))<|oc (yI (fun u v W (hu:RVp m ((p).2) u W) (hv:RVp m ((q).1) v W)=>zBT hu hv))<|oc (zH zE zHn (fun u0 W hb (h0:(SF.row 3 (rvs m [(p).2,(q).1])).p u0 W)=>zBI h0 hp.2 hq.1 oO))<|oc (zI zE zOx (fun u0 u1 W hb (h0:QNp ((p).1*(q).2) u0 W) (h1:QNp ((p).2*(q).1) u1 W)=>zFQ (wJ h0 (hp.1.mul hq.2)) (wJ h1 (hp.2.mul hq.1)) oO oO))<|zD) fun Q' hQ a w2 s=> ?_
 refine zR (CU.agg (fQN (((p).1*(q).2) - ((p).2*(q).1)))) ((fQN (((p).1*(q).2) - ((p).2*(q).1))).tS) rfl s kH rfl rfl rfl iiz iiz yP fun a w s=> ?_
 refine zA rfl (hQ _ _ ?_)
 refine tY ?_
 exact wE s (CU.agg (fQN (p.1*q.2 - p.2*q.1))) rfl kH rfl rfl (jE _) (fun cs W h=>h)
theorem zSk {m k:Nat} (M:Nat) {W:Wi} {u v x:Wj} {p q:V2} {t:Rat} (h1:(fPV m p).p u W) (h2:(fPV m q).p v W) (h3:RVp k t x W) (hp:QB p.1 m/\QB p.2 m) (hq:QB q.1 m/\QB q.2 m) (ht:QB t k) (hm0:0<m) (hM:m+m+1+k<=M) (hM2:M<=990):Calls prog 15 #[u,v,x] W (Ret W (fPN (seg p q t)).tS):=by
 refine yB [(fPV m p).tS,(fPV m q).tS,(fRV k t).tS] func15 rfl kH ⟨h1,h2,h3,trivial⟩ fun a s=> ?_
 refine tX ?_
 refine zB 0 [] hmix s kH
  zD fun a w1 s=> ?_
 refine yO (CU.agg (fPV m p)) rfl s kH (fun v W h=>yV h) fun b3 a w s=> ?_
 refine yO (CU.agg (fPV m q)) rfl s kH (fun v W h=>yV h) fun b4 a w s=> ?_
 refine yO (CU.agg (fRV k t)) rfl s kH (fun v W h=>zAe h) fun b5 a w s=> ?_
 refine z7 (CU.len 6) (cs:=zP6) kH rfl s kH (fun W=>rfl) rfl fun b6 a w s=> ?_
 refine zA rfl ?_
 refine tX ?_
 refine z9 [] 7 ((7, .s ((fPV m p).tS))::(8, .s ((fPV m q).tS))::(9, .s ((fPV m p).tS))::(10, .s ((fPN ((q).1 - (p).1,(q).2 - (p).2)).tS))::(11, .s ((fRV k t).tS))::(12, .s ((fPN (((q).1 - (p).1)*t,((q).2 - (p).2)*t)).tS))::(13, .u (fPN (seg p q t))):: []) hmix s kH
  (oc (zK (f:=fPV m p) 6 kH (hz:=zO _ _))<|oc (zK (f:=fPV m q) 6 kH (hz:=zO _ _))<|oc (zK (f:=fPV m p) 6 kH (hz:=zO _ _))<|oc (zI zE zFe (fun u0 u1 W hb (h0:(fPV m q).p u0 W) (h1:(fPV m p).p u1 W)=>zBM (p:=q) (q:=p) h0 h1 oO hm0))<|oc (zK (f:=fRV k t) 3 kH (hz:=jD _ _))<|oc (zI zE zTd (fun u0 u1 W hb (h0:(fPN ((q).1 - (p).1,(q).2 - (p).2)).p u0 W) (h1:RVp k t u1 W)=>zGS (p:=((q).1 - (p).1,(q).2 - (p).2)) (zAP (p:=((q).1 - (p).1,(q).2 - (p).2)) (m:=M) ((show QB _ _/\QB _ _ from ⟨hq.1.sub hp.1,hq.2.sub hp.2⟩).1.mono (by first|omega|decide)) ((show QB _ _/\QB _ _ from ⟨hq.1.sub hp.1,hq.2.sub hp.2⟩).2.mono (by first|omega|decide)) h0) (RVp.mono h1 oO) ⟨(show QB _ _/\QB _ _ from ⟨hq.1.sub hp.1,hq.2.sub hp.2⟩).1.mono oO,(show QB _ _/\QB _ _ from ⟨hq.1.sub hp.1,hq.2.sub hp.2⟩).2.mono oO⟩ (ht.mono oO) oO))<|oc (zI zE zUP (fun u0 u1 W hb (h0:(fPV m p).p u0 W) (h1:(fPN (((q).1 - (p).1)*t,((q).2 - (p).2)*t)).p u1 W)=>zQC (p:=p) (q:=(((q).1 - (p).1)*t,((q).2 - (p).2)*t)) (zEJ (m':=M) oO h0) (zAP (p:=(((q).1 - (p).1)*t,((q).2 - (p).2)*t)) (m:=M) ((show QB _ _/\QB _ _ from ⟨(hq.1.sub hp.1).mul ht,(hq.2.sub hp.2).mul ht⟩).1.mono (by first|omega|decide)) ((show QB _ _/\QB _ _ from ⟨(hq.1.sub hp.1).mul ht,(hq.2.sub hp.2).mul ht⟩).2.mono (by first|omega|decide)) h1) ⟨hp.1.mono oO,hp.2.mono oO⟩ ⟨(show QB _ _/\QB _ _ from ⟨(hq.1.sub hp.1).mul ht,(hq.2.sub hp.2).mul ht⟩).1.mono oO,(show QB _ _/\QB _ _ from ⟨(hq.1.sub hp.1).mul ht,(hq.2.sub hp.2).mul ht⟩).2.mono oO⟩ oO))<|zD) fun Q' hQ a w2 s=> ?_
 refine zR (CU.agg (fPN (seg p q t))) ((fPN (seg p q t)).tS) rfl s kH rfl rfl rfl iiz iiz y5 fun a w s=> ?_
 refine zA rfl (hQ _ _ ?_)
 refine tY ?_
 exact wE s (CU.agg (fPN (seg p q t))) rfl kH rfl rfl (zO _ _) (fun cs W h=>h)
end Go.Proofs.Wd

namespace Go.Proofs.Wd
open Tryz
set_option maxRecDepth 100000
set_option maxHeartbeats 1000000
open Go.RowKit Lb
theorem zVu (s:Bool) (A A':Wl Addr) (n n' c c':Nat) (s2:Bool) (B B':Wl Addr) (k k' d d':Nat):z5 prog 22 1 [(0, .agg #[.bool s, .slice A n c, .slice A' n' c', .bool s2, .slice B k d, .slice B' k' d'])]=some (30,#[.bool s, .slice A n c, .slice A' n' c', .bool s2, .slice B k d, .slice B' k' d']):=by kernel_rfl
theorem zKz {f g:UF} {u:Wj} {W:Wi} (h:(fPT f g).p u W): ∃e cs,z5 prog 22 1 [(0,u)]=some (e,cs)/\(SF.row 6 [CU.agg (fPT f g)]).p (.slice (some ⟨W.heap.size,0,none⟩) 1 1) (W.alloc (.cells cs e)):=by
 obtain ⟨s,A,n,c,A',n',c',s2,B,k,d,B',k',d',rfl,h1,h2⟩:=h
 refine ⟨_,_,zVu s A A' n n' c c' s2 B B' k k' d d',some ⟨W.heap.size,0,none⟩,1,rfl,zV3 _,by decide,fun e=>(by cases e),fun i C hi=> ?_⟩
 have hb:=zCx W (.cells #[.bool s, .slice A n c, .slice A' n' c', .bool s2, .slice B k d, .slice B' k' d'] 30)
 have hm:=zBQ W #[.bool s, .slice A n c, .slice A' n' c', .bool s2, .slice B k d, .slice B' k' d'] 30
 obtain rfl:i=0:=by have:=(zDQ.1 hi).1;simp at this;omega
 obtain rfl:CU.agg (fPT f g)=C:=by simpa using hi
 refine ⟨W.heap.size,0, [.bool s, .slice A n c, .slice A' n' c', .bool s2, .slice B k d, .slice B' k' d'],rfl, ?_,(CU.agg (fPT f g)).us _ _ _ ⟨s,A,n,c,A',n',c',s2,B,k,d,B',k',d',rfl,h1,h2⟩ (zU hb)⟩
 rw [show 0+0*6=0 from rfl]
 exact hm
theorem zPh (f g:UF): ∀C,C∈ [CU.agg (fPT f g)]->CU.ok 6 C:=fun C hC=>by
 obtain rfl:C=CU.agg (fPT f g):=by simpa using hC
 exact zDK f g
theorem zIQ {ps:List V2} {k:Nat} (h:k<ps.length):pns (ps.take (k+1))=pns (ps.take k)++ [CU.agg (fPN (at_ ps k))]:=by
 unfold pns at_
 rw [List.take_add_one,List.map_append,zWM,zWs h]
 rfl
theorem zNv {m:Nat} {W:Wi} {l:Wj} {ps:List V2} (hl:(SF.row 6 (pvs m ps)).p l W) (hm:m<=2000) (hps:ps.length<=1000000):Calls prog 146 #[l] W (Ret W (wI W 30 6 (pns ps))):=by
 refine yB [(UF.eq l).tS] func146 rfl kH ⟨rfl,trivial⟩ fun a s=> ?_
 replace s:=s.renew [(0, .u (UF.eq l))] (fmz ⟨.inr ⟨_,rfl, .head _⟩,fnz⟩)
 refine tX ?_
 refine zB 1 ((2, .u (UF.eq (.slice none 0 0))):: []) hmix s kH
  (oc zG<|zD) fun a w1 s=> ?_
 refine zA rfl ?_
 refine tX ?_
 refine zB 1 ((3, .u (UF.eq (.slice none 0 0))):: []) hmix s kH
  (oc zG<|zD) fun a w2 s=> ?_
 refine zA rfl ?_
 refine tX ?_
 refine tX ?_
 refine zB 1 ((4, .u (uI 0)):: []) hmix s kH
  (oc zG<|zD) fun a w3 s=> ?_
 refine zA rfl ?_
 refine zWa ?_
 refine zEy (fun (p:Nat×Wj) w=>p.1<=ps.length/\W.heap.size<=w.heap.size/\zAR w W.heap.size 30 6 p.2 (pns (ps.take p.1))) (fun p=> [(0, .u (UF.eq l)),(3, .u (UF.eq (p.2))),(4, .u (uI (p.1:Int)))]) (fun p=>ps.length - p.1) (0, .slice none 0 0) (⟨zV4 _,s.gr.size,zAR.nil _ _ _ _⟩) (s.keepK _ (fmz ⟨mz3,fmz ⟨mz1,fmz ⟨.head _,fnz⟩⟩⟩)) fun p a w hI s=> ?_
 have s0:=s
 replace s:=s.reb rfl [(0, .o (SF.row 6 (pvs m ps))),(0, .u (UF.eq l)),(3, .u (UF.eq (p.2))),(4, .u (uI (p.1:Int)))] (fmz ⟨.inr ⟨_,rfl,(SF.row 6 (pvs m ps)).st _ _ _ (by rw [show a.tmps.getD (0,KF.o (SF.row 6 (pvs m ps))).1 undef=l from s.val (.head _)];exact hl) s.below⟩,fmz ⟨.inl (.head _),fmz ⟨.inl mz1,fmz ⟨.inl mz2,fnz⟩⟩⟩⟩)
 refine tX ?_
 refine tX ?_
 refine zB 4 ((5, .s ((uI (p.1:Int)).tS))::(6, .s (SF.row 6 (pvs m ps)))::(7, .s ((uI ((pvs m ps).length:Int)).tS))::(8, .u (uB (decide ((p.1:Int)<((pvs m ps).length:Int))))):: []) hmix s kH
  (oc zC<|oc zC<|oc (zCn (z:=6) (Cs:=pvs m ps) kH iiz (fun _=>rfl))<|oc (zS .i64 (p.1:Int) ((pvs m ps).length:Int) (decide ((p.1:Int)<((pvs m ps).length:Int))) iiz iiz rfl rfl)<|zD) fun a w4 s=> ?_
 refine zA rfl ?_
 refine StS.cond s (decide ((p.1:Int)<((pvs m ps).length:Int))) iiz (fun e=> ?_) (fun e=> ?_)
 ·have hk:p.1<ps.length:=by have:=zGf e;simp at this;omega
  refine zV6 ?_
  refine tX ?_
  refine zWa ?_
  refine zCe (K:= [(8, .u (uB (decide ((p.1:Int)<((pvs m ps).length:Int))))),(0, .o (SF.row 6 (pvs m ps))),(0, .u (UF.eq l)),(4, .u (uI (p.1:Int)))]) [(3, .u (UF.eq (p.2)))] [0,1,2,7,8] 15 ((11, .u (UF.eq (p.2)))::(12, .s (SF.row 6 (pvs m ps)))::(13, .s ((uI (p.1:Int)).tS))::(14, .s (wB (CU.agg (fPV m (at_ ps p.1))).cf))::(15, .s (wB ((CU.agg (fPV m (at_ ps p.1))).cf.at 0)))::(16, .s ((fRV m ((at_ ps p.1).1)).tS))::(17, .s ((fQN ((at_ ps p.1).1)).tS))::(18, .s (SF.row 6 (pvs m ps)))::(19, .s ((uI (p.1:Int)).tS))::(20, .s (wB (CU.agg (fPV m (at_ ps p.1))).cf))::(21, .s (wB ((CU.agg (fPV m (at_ ps p.1))).cf.at 3)))::(22, .s ((fRV m ((at_ ps p.1).2)).tS))::(23, .s ((fQN ((at_ ps p.1).2)).tS))::(24, .s ((fPN ((at_ ps p.1).1,(at_ ps p.1).2)).tS))::(25, .s (SF.row 6 [CU.agg (fPN ((at_ ps p.1).1,(at_ ps p.1).2))])):: []) hmix (s.keepK _ (fmz ⟨mz3,fmz ⟨.head _,fmz ⟨mz1,fmz ⟨mz2,fmz ⟨mz4,fnz⟩⟩⟩⟩⟩)) kH
   (oc zC<|oc zC<|oc zC<|oc (zBr (z:=6) (Cs:=pvs m ps) (i:=p.1) (C:=CU.agg (fPV m (at_ ps p.1))) kH (qQ hk) iiz iiz)<|oc (zJ (C:=(CU.agg (fPV m (at_ ps p.1))).cf) 0 kH)<|oc (zP (C:=(CU.agg (fPV m (at_ ps p.1))).cf) (k:=0) 3 kH (h:=zC7))<|oc (zH zE zGm (fun u0 W hb (h0:RVp m ((at_ ps p.1).1) u0 W)=>zBp h0 hm))<|oc zC<|oc zC<|oc (zBr (z:=6) (Cs:=pvs m ps) (i:=p.1) (C:=CU.agg (fPV m (at_ ps p.1))) kH (qQ hk) iiz iiz)<|oc (zJ (C:=(CU.agg (fPV m (at_ ps p.1))).cf) 3 kH)<|oc (zP (C:=(CU.agg (fPV m (at_ ps p.1))).cf) (k:=3) 3 kH (h:=zC6))<|oc (zH zE zGm (fun u0 W hb (h0:RVp m ((at_ ps p.1).2) u0 W)=>zBp h0 hm))<|oc (qA (fun u v W (hu:QNp ((at_ ps p.1).1) u W) (hv:QNp ((at_ ps p.1).2) v W)=>zPT (zAu _) (zAu _) hu hv))<|oc (zAW (fun u W (hu:(fPN ((at_ ps p.1).1,(at_ ps p.1).2)).p u W)=>zKz hu))<|zD) fun Q' hQ a w5 s hr=> ?_
  refine zM3 ([CU.agg (fPN ((at_ ps p.1).1,(at_ ps p.1).2))]) s0 (s.keepK [(11, .u (UF.eq (p.2))),(8, .u (uB (decide ((p.1:Int)<((pvs m ps).length:Int))))),(0, .u (UF.eq l)),(4, .u (uI (p.1:Int)))] (fmz ⟨.head _,fmz ⟨mz1,fmz ⟨mz3,fmz ⟨mz4,fnz⟩⟩⟩⟩)) lr hI.2 rfl kH kH kH (s.fct (.tmp 11)) (hr (_,_) zVj) (zPh _ _) (by simp;omega) (fun q hq=>by cases hq) fun v' a w hI' s=> ?_
  have s1:=s
  replace s:=s.reb rfl [(26, .u (UF.eq v')),(11, .u (UF.eq (p.2))),(8, .u (uB (decide ((p.1:Int)<((pvs m ps).length:Int))))),(0, .u (UF.eq l)),(4, .u (uI (p.1:Int)))] (fmz ⟨.inl (.head _),fmz ⟨.inl mz1,fmz ⟨.inl mz2,fmz ⟨.inl mz3,fmz ⟨.inl mz4,fnz⟩⟩⟩⟩⟩)
  refine yU (UF.eq v') rfl s kH iiz fun a w s=> ?_
  refine zA rfl (hQ _ _ ?_)
  refine zY 2 ((9, .s ((uI (p.1:Int)).tS))::(10, .u (uI ((p.1+1:Nat):Int))):: []) s kH
   (oc zC<|oc (yR .i64 (p.1:Int) 1 ((p.1+1:Nat):Int) iiz iiz (wrap64 _ _ oO oO))<|zD) fun a w6 s=> ?_
  replace s:=s.drop [4]
  refine yU (uI ((p.1+1:Nat):Int)) rfl s kH iiz fun a w s=> ?_
  refine zA rfl ?_
  have hbw:=s.below
  replace s:=s1.back (s.keepK [(4, .u (uI ((p.1+1:Nat):Int))),(10, .u (uI ((p.1+1:Nat):Int))),(3, .u (UF.eq v')),(26, .u (UF.eq v')),(11, .u (UF.eq (p.2))),(8, .u (uB (decide ((p.1:Int)<((pvs m ps).length:Int))))),(0, .u (UF.eq l))] (fmz ⟨.head _,fmz ⟨mz1,fmz ⟨mz2,fmz ⟨mz3,fmz ⟨mz4,fmz ⟨mz5,fmz ⟨mz6,fnz⟩⟩⟩⟩⟩⟩⟩)) rfl
  exact ⟨(p.1+1,v'),(by show ps.length - (p.1+1)<ps.length - p.1;omega),⟨hk,zV7 hI'.1 hbw.size,by rw [zIQ hk];exact hI'.2.below hbw⟩,s.keepK _ (fmz ⟨mz6,fmz ⟨mz2,fmz ⟨.head _,fnz⟩⟩⟩)⟩
 ·have hk:p.1=ps.length:=by have:=zWj e;simp at this;omega
  refine zWk ?_
  refine tX ?_
  refine zB 2 ((27, .s ((UF.eq (p.2)).tS))::(2, .u (UF.eq (p.2))):: []) hmix s kH
   (oc zC<|oc zG<|zD) fun a w7 s=> ?_
  refine zA rfl ?_
  refine tY ?_
  exact StS.resN s s0.below rfl (by rw [s.val (.head _)];have:=hI.2.2.below s.below;rw [hk,List.take_length] at this;exact this)
end Go.Proofs.Wd

namespace Go.Proofs.Wd
open Tryz
set_option maxRecDepth 100000
set_option maxHeartbeats 1000000
open Go.RowKit Lb
def TB (m:Nat) (g:V2->Bool) (xs:Array Wj) (W:Wi) (R:SF):Prop:= ∃u p,xs=#[u]/\(fPV m p).p u W/\R=(fB (g p)).tS
def zKb {α:Type} (g:α->Bool) (l:List α):Int:=if l.any g then ((l.findIdx g:Nat):Int) else -1
theorem zOj {α:Type} (g:α->Bool) (l:List α):decide (zKb g l≥0)=l.any g:=by
 unfold zKb
 cases h:l.any g with
 |true=>simp
 |false=>simp
theorem zRh {g:V2->Bool} {l:List V2} {k:Nat} (hk:k<l.length) (h0: ∀j,j<k->g (at_ l j)=false) (h1:g (at_ l k)=true):zKb g l=(k:Int):=by
 have ha:l.any g=true:=List.any_eq_true.2 ⟨_,zBm hk,h1⟩
 unfold zKb
 rw [if_pos ha]
 congr 1
 have ge: ∀j,at_ l j=l.getD j (0,0):=fun _=>rfl
 refine (List.findIdx_eq hk).2 ⟨by have:=h1;unfold at_ at this;rwa [zWM,zWs hk] at this,fun j hj=> ?_⟩
 have:=h0 j hj
 unfold at_ at this
 rwa [zWM,zWs (Nat.lt_trans hj hk)] at this
theorem zLY {g:V2->Bool} {l:List V2} (h0: ∀j,j<l.length->g (at_ l j)=false):zKb g l= -1:=by
 unfold zKb
 rw [if_neg]
 intro ha
 obtain ⟨p,hp,e⟩:=List.any_eq_true.1 ha
 obtain ⟨j,hj,rfl⟩:=zLF hp
 rw [h0 j hj] at e
 cases e
theorem zUb {m:Nat} {g:V2->Bool} {W:Wi} {l f:Wj} {ps:List V2} (hl:(SF.row 6 (pvs m ps)).p l W) (hf:(SF.fn prog (TB m g)).p f W) (hn:ps.length<=1000000):Calls prog 79 #[l,f] W (Ret W (fI (zKb g ps)).tS):=by
 refine yB [SF.row 6 (pvs m ps),SF.fn prog (TB m g)] func79 rfl kH ⟨hl,hf,trivial⟩ fun a s=> ?_
 refine tX ?_
 refine zB 1 ((4, .u (uI 0)):: []) hmix s kH
  (oc zG<|zD) fun a w1 s=> ?_
 refine zA rfl ?_
 refine tX ?_
 refine tX ?_
 refine zB 3 ((6, .s (SF.row 6 (pvs m ps)))::(7, .u (uI ((pvs m ps).length:Int)))::(8, .u (uI 0)):: []) hmix s kH
  (oc zC<|oc (zCn (z:=6) (Cs:=pvs m ps) kH iiz (fun _=>rfl))<|oc zC<|zD) fun a w2 s=> ?_
 refine zA rfl ?_
 refine zWa ?_
 refine zAx (fun k=>k<=ps.length/\ ∀j,j<k->g (at_ ps j)=false) (fun k=> [(0, .o (SF.row 6 (pvs m ps))),(1, .o (SF.fn prog (TB m g))),(7, .u (uI ((pvs m ps).length:Int))),(8, .u (uI (k:Int)))]) (fun k=>ps.length - k) (0:Nat) (⟨zV4 _,fun j hj=>absurd hj (Nat.not_lt_zero _)⟩) (s.keepK _ (fmz ⟨mz3,fmz ⟨mz4,fmz ⟨.head _,fmz ⟨mz1,fnz⟩⟩⟩⟩)) fun k a w hx s=> ?_
 refine tX ?_
 refine zB 1 ((9, .u (uB (decide ((k:Int)<((pvs m ps).length:Int))))):: []) hmix s kH
  (oc (zS .i64 (k:Int) ((pvs m ps).length:Int) (decide ((k:Int)<((pvs m ps).length:Int))) iiz iiz rfl rfl)<|zD) fun a w3 s=> ?_
 refine zA rfl ?_
 refine tX ?_
 refine StS.cond s (decide ((k:Int)<((pvs m ps).length:Int))) iiz (fun e=> ?_) (fun e=> ?_)
 ·have hk:k<ps.length:=by have:=zGf e;simp at this;omega
  refine zV6 ?_
  refine tX ?_
  refine zWa ?_
  refine tX ?_
  refine zB 2 ((10, .s ((uI (k:Int)).tS))::(5, .u (uI (k:Int))):: []) hmix s kH
   (oc zC<|oc zG<|zD) fun a w4 s=> ?_
  refine zA rfl ?_
  refine tX ?_
  refine zB 6 ((11, .s (SF.fn prog (TB m g)))::(12, .s (SF.row 6 (pvs m ps)))::(13, .s ((uI (k:Int)).tS))::(14, .s (wB (CU.agg (fPV m (at_ ps k))).cf))::(15, .s ((fPV m (at_ ps k)).tS))::(16, .u (uB (g (at_ ps k)))):: []) hmix s kH
   (oc zC<|oc zC<|oc zC<|oc (zBr (z:=6) (Cs:=pvs m ps) (i:=k) (C:=CU.agg (fPV m (at_ ps k))) kH (qQ hk) iiz iiz)<|oc (zK (f:=fPV m (at_ ps k)) 6 kH (hz:=zO _ _))<|oc (zSD (TB m g) zE iiz (fun u W hb (h:(fPV m (at_ ps k)).p u W)=>⟨u,_,rfl,h,rfl⟩))<|zD) fun a w5 s=> ?_
  refine zA rfl ?_
  refine StS.cond s (g (at_ ps k)) iiz (fun e=> ?_) (fun e=> ?_)
  ·refine tX ?_
   refine zB 2 ((17, .s ((uI (k:Int)).tS))::(4, .u (uI (k:Int))):: []) hmix s kH
    (oc zC<|oc zG<|zD) fun a w6 s=> ?_
   refine zA rfl ?_
   refine tY ?_
   exact wD s (t:=4) rfl (fun v W h=>by rw [zRh hk hx.2 e];exact h)
  ·refine zV6 ?_
   refine zY 1 ((18, .u (uI ((k+1:Nat):Int))):: []) s kH
    (oc (yR .i64 (k:Int) 1 ((k+1:Nat):Int) iiz iiz (wrap64 _ _ oO oO))<|zD) fun a w7 s=> ?_
   replace s:=s.drop [8]
   refine zAQ (uI ((k+1:Nat):Int)) rfl s kH zC kH fun a w s=> ?_
   refine zA rfl ?_
   exact ⟨k+1,⟨hk,fun j hj=>by rcases zWN (Nat.le_of_lt_succ hj) with h|h;exact hx.2 j h;rw [h];exact e⟩,(by show ps.length - (k+1)<ps.length - k;omega),s.keepK _ (fmz ⟨mz5,fmz ⟨mz6,fmz ⟨mz7,fmz ⟨.head _,fnz⟩⟩⟩⟩)⟩
 ·have hk:k=ps.length:=by have h7:=zWj e;have h8:=hx.1;simp at h7;omega
  refine zWk ?_
  refine tX ?_
  refine zB 1 ((4, .u (uI (-1))):: []) hmix s kH
   (oc zG<|zD) fun a w8 s=> ?_
  refine zA rfl ?_
  refine tY ?_
  exact wD s (t:=4) rfl (fun v W h=>by rw [zLY (fun j hj=>hx.2 j oO)];exact h)
theorem zVP {m:Nat} {g:V2->Bool} {W:Wi} {l f:Wj} {ps:List V2} (hl:(SF.row 6 (pvs m ps)).p l W) (hf:(SF.fn prog (TB m g)).p f W) (hn:ps.length<=1000000):Calls prog 51 #[l,f] W (Ret W (fB (ps.any g)).tS):=by
 refine yB [SF.row 6 (pvs m ps),SF.fn prog (TB m g)] func51 rfl kH ⟨hl,hf,trivial⟩ fun a s=> ?_
 refine tX ?_
 refine zB 1 ((4, .u (uB false)):: []) hmix s kH
  (oc zG<|zD) fun a w1 s=> ?_
 refine zA rfl ?_
 refine tX ?_
 replace s:=s.drop [4]
 refine zB 5 ((5, .s (SF.row 6 (pvs m ps)))::(6, .s (SF.fn prog (TB m g)))::(7, .s ((uI (zKb g ps)).tS))::(8, .s ((uB (decide (zKb g ps≥0))).tS))::(4, .u (uB (decide (zKb g ps≥0)))):: []) hmix s kH
  (oc zC<|oc zC<|oc (zI zE zUu (fun u0 u1 W hb (h0:(SF.row 6 (pvs m ps)).p u0 W) (h1:(SF.fn prog (TB m g)).p u1 W)=>zUb h0 h1 hn))<|oc (zS .i64 (zKb g ps) 0 (decide (zKb g ps≥0)) iiz iiz rfl rfl)<|oc zG<|zD) fun a w2 s=> ?_
 refine zA rfl ?_
 refine tY ?_
 exact wD s (t:=4) rfl (fun v W h=>by rw [<-zOj];exact h)
theorem zDh {m:Nat} (hm0:0<m) {p:V2} {v:Wj} {W:Wi} (h:(fPV m p).p v W):QB p.1 m/\QB p.2 m:=by
 obtain ⟨_,_,_,_,_,_,_,_,_,_,_,_,_,_,_,h1,h2⟩:=h
 exact ⟨h1.qb hm0,h2.qb hm0⟩
theorem zGN {z:Nat} {Cs:List CU} {v:Wj} {W:Wi} (h:(SF.row z Cs).p v W):v.cells=#[v]/\yA v=true:=by
 obtain ⟨A,c,rfl,_⟩:=h
 exact ⟨rfl,rfl⟩
theorem zHy {vs:List Wj} {k:Nat} (h:vs.length=k) (h1: ∀u,u∈vs->u.oneCell'=true) (h2:vs.all yA=true) (v:Wj) (W:Wi) (e:(UF.eq (.agg vs.toArray)).p v W): ∃us:List Wj,v= .agg us.toArray/\us.length=k/\(∀u,u∈us->u.oneCell'=true)/\us.all yA=true/\(CU.agg (UF.eq (.agg vs.toArray))).p us W:=⟨vs,e,h,h1,h2,rfl⟩
theorem zDW {vs:List Wj} {k:Nat} {u:Wj} (h:vs[k]?=some u): ∀cs W,(CU.agg (UF.eq (.agg vs.toArray))).p cs W-> ∃x,cs[k]?=some x/\(UF.eq u).p x W:=fun cs W e=>by
 have:=zWe Array.toList (jH e)
 simp at this
 rw [this]
 exact ⟨u,h,rfl⟩
section
variable {F:Fence} {m:Nat} {P:Wn} {w0:Wi} {ops:Array Oper} {G:Nat->SF} {d:Tmp} {ty:Wk} {pos:String} {aft:Array Edge}
theorem zLs {x y:Wm} {t:Wk} (u v r:Wj) (hx: ∀q W,(fct G x).p q W->q=u) (hy: ∀q W,(fct G y).p q W->q=v) (hr: ∀W,(Instr.index t u v).run P W= .ok r W) (hd: ∀W,(G d).p r W:=by exact fun _=>rfl):qN F m P w0 ops G ⟨some d, .index t x y,ty,pos,aft,none⟩:=
 qL (fun _ e=>by cases e) (fun _ e=>by cases e) fun b W hb hh=>by
  have e1:=hx _ _ (hh x (by simp [Op.operands]))
  have e2:=hy _ _ (hh y (by simp [Op.operands]))
  exact ⟨r,by simp [execOp,e1,e2,hr W],hd _⟩
end
abbrev V6:=V2×V2×V2
abbrev tl (t:V6):List V2:= [t.1,t.2.1,t.2.2]
theorem zNH {m m':Nat} (hm:m<=m') {ps:List V2} (v:Wj) (W:Wi) (hv:(SF.row 6 (pvs m ps)).p v W):(SF.row 6 (pvs m' ps)).p v W:=
 zHO (by simp) (fun i C D hC hD cs W h=>by
  have hi:i<ps.length:=by have:=(zDQ.1 hC).1;simpa using this
  rw [qQ hi] at hC
  rw [qQ hi] at hD
  cases hC;cases hD
  exact zEJ hm h) v W hv
section
variable {F:Fence} {m:Nat} {P:Wn} {w0:Wi} {ops:Array Oper} {G:Nat->SF} {d:Tmp} {ty:Wk} {pos:String} {aft:Array Edge}
end
theorem zAL {W W':Wi} {e:Wk} {z:Nat} {Cs:List CU} (h:W.heap.size<=W'.heap.size) (v:Wj) (w:Wi) (hv:(wI W' e z Cs).p v w):(wI W e z Cs).p v w:=zAR.mono hv h
theorem zIO {m:Nat} (hm0:0<m) {ps:List V2} {v:Wj} {W:Wi} (h:(SF.row 6 (pvs m ps)).p v W): ∀x,x∈ps->QB x.1 m/\QB x.2 m:=fun x hx=>by
 obtain ⟨i,hi,rfl⟩:=zLF hx
 obtain ⟨_,_,_,_,_,_,h5⟩:=h
 obtain ⟨b,o,cs,_,_,h6⟩:=h5 i _ (qQ hi)
 exact zDh hm0 (v:= .agg cs.toArray) h6
theorem zSG (z:Int): ∀C,C∈ [wC [.int .i64 z]]->CU.ok 1 C:=fun C hC cs W h=>by
 obtain rfl:C=_:=by simpa using hC
 obtain rfl:cs=_:=h
 exact ⟨rfl,rfl,fun u hu=>by obtain rfl:=List.mem_singleton.1 hu;rfl⟩
theorem zT0 (z:Int):z5 prog 41 1 [(0, .int .i64 z)]=some (3,#[.int .i64 z]):=by kernel_rfl
theorem zQm {z:Int} {u:Wj} {W:Wi} (h:u= .int .i64 z): ∃e cs,z5 prog 41 1 [(0,u)]=some (e,cs)/\(SF.row 1 [wC [.int .i64 z]]).p (.slice (some ⟨W.heap.size,0,none⟩) 1 1) (W.alloc (.cells cs e)):=by
 subst h
 refine ⟨_,_,zT0 z,some ⟨W.heap.size,0,none⟩,1,rfl,zV3 _,by decide,fun e=>(by cases e),fun i C hi=> ?_⟩
 have hm:=zBQ W #[.int .i64 z] 3
 obtain rfl:i=0:=by have:=(zDQ.1 hi).1;simp at this;omega
 obtain rfl:wC [.int .i64 z]=C:=by simpa using hi
 exact ⟨W.heap.size,0, [.int .i64 z],rfl,hm,rfl⟩
abbrev PX:=QX×QX
abbrev PX.p (x:PX):V2:=(x.1.q,x.2.q)
abbrev PX.u (x:PX):UF:=fPT (fQX x.1.n x.1.n' x.1.k x.1.d) (fQX x.2.n x.2.n' x.2.k x.2.d)
abbrev PX.cu (x:PX):CU:=CU.agg x.u
abbrev pxs (L:List PX):List CU:=L.map PX.cu
abbrev pps (L:List PX):List V2:=L.map PX.p
theorem zVA {x:PX} (cs:List Wj) (W:Wi) (h:(PX.cu x).p cs W): ∃u,cs[1]?=some u/\(fSl x.1.n).p u W:=by
 obtain ⟨s,A,n,c,A',n',c',s2,B,k,d,B',k',d',e,h1,h2⟩:=h
 rw [zDA e]
 have:=zPa _ W (show (QX.cu x.1).p [Value.bool s, .slice A n c, .slice A' n' c'] W from h1)
 exact this
theorem zVz {x:PX} (cs:List Wj) (W:Wi) (h:(PX.cu x).p cs W): ∃u,cs[2]?=some u/\(fSl x.1.n').p u W:=by
 obtain ⟨s,A,n,c,A',n',c',s2,B,k,d,B',k',d',e,h1,h2⟩:=h
 rw [zDA e]
 have:=zO9 _ W (show (QX.cu x.1).p [Value.bool s, .slice A n c, .slice A' n' c'] W from h1)
 exact this
theorem zVy {x:PX} (cs:List Wj) (W:Wi) (h:(PX.cu x).p cs W): ∃u,cs[4]?=some u/\(fSl x.2.n).p u W:=by
 obtain ⟨s,A,n,c,A',n',c',s2,B,k,d,B',k',d',e,h1,h2⟩:=h
 rw [zDA e]
 have:=zPa _ W (show (QX.cu x.2).p [Value.bool s2, .slice B k d, .slice B' k' d'] W from h2)
 exact this
theorem zVx {x:PX} (cs:List Wj) (W:Wi) (h:(PX.cu x).p cs W): ∃u,cs[5]?=some u/\(fSl x.2.n').p u W:=by
 obtain ⟨s,A,n,c,A',n',c',s2,B,k,d,B',k',d',e,h1,h2⟩:=h
 rw [zDA e]
 have:=zO9 _ W (show (QX.cu x.2).p [Value.bool s2, .slice B k d, .slice B' k' d'] W from h2)
 exact this
section
variable {F:Fence} {m:Nat} {P:Wn} {w0:Wi} {ops:Array Oper} {G:Nat->SF} {d:Tmp} {ty:Wk} {pos:String} {aft:Array Edge}
theorem zQ1 {x y z u:Wm} {ats:Array Wk} (a b c e:Nat) (hx: ∀q W,(fct G x).p q W->q= .int .i64 (a:Nat)) (hy: ∀q W,(fct G y).p q W->q= .int .i64 (b:Nat)) (hz: ∀q W,(fct G z).p q W->q= .int .i64 (c:Nat)) (hu: ∀q W,(fct G u).p q W->q= .int .i64 (e:Nat)) (hd: ∀W,(G d).p (.int .i64 ((max (max (max a b) c) e:Nat):Int)) W:=by exact fun _=>rfl):qN F m P w0 ops G ⟨some d, .call ⟨.builtin .max,#[x,y,z,u],ats⟩,ty,pos,aft,none⟩:=by
 intro bb W K Q hb hr hK
 have e1:=hx _ _ (qE hr (x:=x) (by simp [Op.operands,Call.operands]))
 have e2:=hy _ _ (qE hr (x:=y) (by simp [Op.operands,Call.operands]))
 have e3:=hz _ _ (qE hr (x:=z) (by simp [Op.operands,Call.operands]))
 have e4:=hu _ _ (qE hr (x:=u) (by simp [Op.operands,Call.operands]))
 refine ⟨fun f hf=>(by
  unfold Oper.about at hf
  simp [resolve,go_sem] at hf), ?_⟩
 rw [Oper.semAt_eq _ _ _ (fun _ e=>by cases e)]
 have:(execOp bb.eval ⟨some d, .call ⟨.builtin .max,#[x,y,z,u],ats⟩,ty,pos,aft,none⟩).run P W= .ok (.value (.int .i64 ((max (max (max a b) c) e:Nat):Int))) W:=by
  have m2: ∀p q:Nat,(if (p:Int)<(q:Int) then Value.int .i64 (q:Nat) else .int .i64 (p:Nat))= .int .i64 ((max p q:Nat):Int):=fun p q=>by
   split<;>(congr 1;omega)
  simp only [execOp,resolve,invoke,builtin,e1,e2,e3,e4,Sem.run_bind,Sem.run_pure,Result.andThen_ok,List.map_toArray,List.map_cons,List.map_nil]
  simp [Builtin.max_,Builtin.max2,m2,Sem.run_bind,Sem.run_pure]
  have m3: ∀p q:Nat,(if (p:Int)<(q:Int) then (q:Int) else (p:Int))=((max p q:Nat):Int):=fun p q=>by split<;>omega
  try simp only [m3]
  try (congr 1;omega)
 rw [this]
 exact hK _ _ (fun d' e'=>by cases e';exact hd _) (zV5 _ _)
end
end Go.Proofs.Wd

namespace Go.Proofs.Wd
open Tryz
set_option maxRecDepth 100000
set_option maxHeartbeats 1000000
open Go.RowKit Lb
def yY (p q:V2):Int:=if qsg p.1 q.1=0 then qsg p.2 q.2 else qsg p.1 q.1
theorem zPQ {p q:V2} (h:(qsg p.1 q.1 !=0)=true):yY p q=qsg p.1 q.1:=by unfold yY;rw [if_neg (by simpa using h)]
theorem zPP {p q:V2} (h:(qsg p.1 q.1 !=0)=false):yY p q=qsg p.2 q.2:=by unfold yY;rw [if_pos (by simpa using h)]
theorem zFO (a n:Nat):(a:Int).tmod (n:Int)=((a % n:Nat):Int):=rfl
theorem zA5 {m:Nat} {p q:V2} (hp:QB p.1 m/\QB p.2 m) (hq:QB q.1 m/\QB q.2 m):QB (p.1 - q.1) (2*m+1)/\QB (p.2 - q.2) (2*m+1):=⟨(hp.1.sub hq.1).mono oO,(hp.2.sub hq.2).mono oO⟩
theorem zHR {m:Nat} {W:Wi} {u v:Wj} {p q:V2} (h1:(fPV m p).p u W) (h2:(fPV m q).p v W) (hm:m<=990) (hm0:0<m):Calls prog 19 #[u,v] W (Ret W (fI (yY p q)).tS):=by
 refine yB [(fPV m p).tS,(fPV m q).tS] func19 rfl kH ⟨h1,h2,trivial⟩ fun a s=> ?_
 refine tX ?_
 refine zB 0 [] hmix s kH
  zD fun a w1 s=> ?_
 refine yO (CU.agg (fPV m p)) rfl s kH (fun v W h=>yV h) fun b2 a w s=> ?_
 refine yO (CU.agg (fPV m q)) rfl s kH (fun v W h=>yV h) fun b3 a w s=> ?_
 refine yU (uI 0) rfl s kH iiz fun a w s=> ?_
 refine zA rfl ?_
 refine tX ?_
 refine zB 6 ((6, .s (wB ((CU.agg (fPV m p)).cf.at 0)))::(7, .s ((fRV m ((p).1)).tS))::(8, .s (wB ((CU.agg (fPV m q)).cf.at 0)))::(9, .s ((fRV m ((q).1)).tS))::(10, .s ((uI (qsg (p).1 (q).1)).tS))::(5, .u (uI (qsg (p).1 (q).1))):: []) hmix s kH
  (oc (zJ (C:=(CU.agg (fPV m p)).cf) 0 kH)<|oc (zP (C:=(CU.agg (fPV m p)).cf) (k:=0) 3 kH (h:=zC7))<|oc (zJ (C:=(CU.agg (fPV m q)).cf) 0 kH)<|oc (zP (C:=(CU.agg (fPV m q)).cf) (k:=0) 3 kH (h:=zC7))<|oc (zI zE zOC (fun u0 u1 W hb (h0:RVp m ((p).1) u0 W) (h1:RVp m ((q).1) u1 W)=>zFS h0 h1 hm hm0))<|oc zG<|zD) fun a w2 s=> ?_
 refine zA rfl ?_
 refine tX ?_
 refine tX ?_
 refine zB 2 ((11, .s ((uI (qsg (p).1 (q).1)).tS))::(12, .u (uB (qsg (p).1 (q).1 !=0))):: []) hmix s kH
  (oc zC<|oc (zS .i64 (qsg (p).1 (q).1) 0 (qsg (p).1 (q).1 !=0) iiz iiz rfl rfl)<|zD) fun a w3 s=> ?_
 refine zA rfl ?_
 refine StS.cond s (qsg (p).1 (q).1 !=0) iiz (fun e=> ?_) (fun e=> ?_)
 ·refine tX ?_
  replace s:=s.drop [4]
  refine zB 2 ((13, .s ((uI (qsg (p).1 (q).1)).tS))::(4, .u (uI (qsg (p).1 (q).1))):: []) hmix s kH
   (oc zC<|oc zG<|zD) fun a w4 s=> ?_
  refine zA rfl ?_
  refine tY ?_
  exact wD s (t:=4) rfl (fun v W h=>by rw [zPQ e];exact h)
 ·refine zV6 ?_
  refine tX ?_
  replace s:=s.drop [4]
  refine zB 6 ((14, .s (wB ((CU.agg (fPV m p)).cf.at 3)))::(15, .s ((fRV m ((p).2)).tS))::(16, .s (wB ((CU.agg (fPV m q)).cf.at 3)))::(17, .s ((fRV m ((q).2)).tS))::(18, .s ((uI (qsg (p).2 (q).2)).tS))::(4, .u (uI (qsg (p).2 (q).2))):: []) hmix s kH
   (oc (zJ (C:=(CU.agg (fPV m p)).cf) 3 kH)<|oc (zP (C:=(CU.agg (fPV m p)).cf) (k:=3) 3 kH (h:=zC6))<|oc (zJ (C:=(CU.agg (fPV m q)).cf) 3 kH)<|oc (zP (C:=(CU.agg (fPV m q)).cf) (k:=3) 3 kH (h:=zC6))<|oc (zI zE zOC (fun u0 u1 W hb (h0:RVp m ((p).2) u0 W) (h1:RVp m ((q).2) u1 W)=>zFS h0 h1 hm hm0))<|oc zG<|zD) fun a w5 s=> ?_
  refine zA rfl ?_
  refine tY ?_
  exact wD s (t:=4) rfl (fun v W h=>by rw [zPP e];exact h)
section
variable {F:Fence} {m:Nat} {P:Wn} {w0:Wi} {ops:Array Oper} {G:Nat->SF} {d:Tmp} {ty:Wk} {pos:String} {aft:Array Edge}
theorem zBV {t:Wk} {i j k:Nat} {x y z:Wm} (h: ∀u v q W,(fct G x).p u W->(fct G y).p v W->(fct G z).p q W-> ∃cells,P.built t [(i,u),(j,v),(k,q)]=some cells/\(G d).p (.agg cells) W):qN F m P w0 ops G ⟨some d, .build t #[(i,x),(j,y),(k,z)],ty,pos,aft,none⟩:=
 zF4 fun b W hb hh=>by
  obtain ⟨cells,h1,h2⟩:=h _ _ _ W (hh x (by simp)) (hh y (by simp)) (hh z (by simp))
  exact ⟨cells,by simpa using h1,h2⟩
end
theorem qbz {z:Int} (h:z.natAbs<100):QB ((z:Int):Rat) 1:=QB.int (Nat.lt_trans h dA) dA
def TGp (u v q:UF) (x:Wj) (w:Wi):Prop:= ∃a b c:List Wj,x= .agg (a++b++c).toArray/\(CU.agg u).p a w/\(CU.agg v).p b w/\(CU.agg q).p c w
def fTG (u v q:UF):UF:= .mk' (TGp u v q) fun _ _ _ ⟨a,b,c,e,h1,h2,h3⟩ k=>⟨a,b,c,e,(CU.agg u).us _ _ _ h1 k,(CU.agg v).us _ _ _ h2 k,(CU.agg q).us _ _ _ h3 k⟩
section
variable {f g f' g' f'' g'':UF}
theorem zD9 {cs:List Wj} {W:Wi} (h:(CU.agg (fTG (fPT f g) (fPT f' g') (fPT f'' g''))).p cs W): ∃a b c:List Wj,cs=a++b++c/\a.length=6/\b.length=6/\c.length=6/\(CU.agg (fPT f g)).p a W/\(CU.agg (fPT f' g')).p b W/\(CU.agg (fPT f'' g'')).p c W:=by
 obtain ⟨a,b,c,e,h1,h2,h3⟩:=h
 have:=zWe Array.toList (jH e)
 have this:cs=a++b++c:=this
 exact ⟨a,b,c,this,(zDK _ _ a W h1).1,(zDK _ _ b W h2).1,(zDK _ _ c W h3).1,h1,h2,h3⟩
theorem zTR:CU.ok 18 (CU.agg (fTG (fPT f g) (fPT f' g') (fPT f'' g''))):=fun cs W h=>by
 obtain ⟨a,b,c,rfl,l1,l2,l3,h1,h2,h3⟩:=zD9 h
 have o1:=zDK _ _ a W h1;have o2:=zDK _ _ b W h2;have o3:=zDK _ _ c W h3
 refine ⟨by simp [l1,l2,l3],zIh o1.2.1 o2.2.1 o3.2.1,fun u hu=> ?_⟩
 rcases zWl.1 hu with hu|hu
 ·rcases zWl.1 hu with hu|hu
  ·exact o1.2.2 u hu
  ·exact o2.2.2 u hu
 ·exact o3.2.2 u hu
theorem zRV {v:Wj} {W:Wi} (h:(fTG (fPT f g) (fPT f' g') (fPT f'' g'')).p v W):(CU.agg (fTG (fPT f g) (fPT f' g') (fPT f'' g''))).p v.cells.toList W/\v.cells.toList.all yA=true:=by
 obtain ⟨a,b,c,rfl,h1⟩:=id h
 exact ⟨h,(zTR _ W h).2.1⟩
theorem zOY (cs:List Wj) (W:Wi) (h:(CU.agg (fTG (fPT f g) (fPT f' g') (fPT f'' g''))).p cs W):0+6<=cs.length/\(fPT f g).p (.agg ((cs.drop 0).take 6).toArray) W:=by
 obtain ⟨a,b,c,rfl,l1,l2,l3,h1,_⟩:=zD9 h
 refine ⟨by simp [l1,l2,l3], ?_⟩
 rw [zWO,List.append_assoc,zWu oO,zWm oO]
 exact h1
theorem zRU (cs:List Wj) (W:Wi) (h:(CU.agg (fTG (fPT f g) (fPT f' g') (fPT f'' g''))).p cs W):6+6<=cs.length/\(fPT f' g').p (.agg ((cs.drop 6).take 6).toArray) W:=by
 obtain ⟨a,b,c,rfl,l1,l2,l3,_,h2,_⟩:=zD9 h
 refine ⟨by simp [l1,l2,l3], ?_⟩
 rw [List.append_assoc,zWv oO,zWw oO,zWd,zWu oO,zWm oO]
 exact h2
theorem zQh (cs:List Wj) (W:Wi) (h:(CU.agg (fTG (fPT f g) (fPT f' g') (fPT f'' g''))).p cs W):12+6<=cs.length/\(fPT f'' g'').p (.agg ((cs.drop 12).take 6).toArray) W:=by
 obtain ⟨a,b,c,rfl,l1,l2,l3,_,_,h3⟩:=zD9 h
 refine ⟨by simp [l1,l2,l3], ?_⟩
 rw [zWv (by simp;omega),zWw (by simp;omega),zWd,zWm oO]
 exact h3
theorem zFM {W:Wi} {e:Wk} {z:Nat} {Cs:List CU} {cs:List Wj} (hlen:Cs.length<=9223372036854775807) (h: ∀(i:Nat) (C:CU),Cs[i]?=some C-> ∃p:List Wj,(∀j u,p[j]?=some u->cs[i*z+j]?=some u)/\C.p p W):(SF.row z Cs).p (.slice (some ⟨W.heap.size,0,none⟩) Cs.length Cs.length) (W.alloc (.cells cs.toArray e)):=by
 refine ⟨some ⟨W.heap.size,0,none⟩,Cs.length,rfl,zV3 _,hlen,fun e=>(by cases e),fun i C hi=> ?_⟩
 obtain ⟨p,h1,h2⟩:=h i C hi
 refine ⟨W.heap.size,0,p,rfl,fun j u hj=> ?_,C.us _ _ _ h2 (zU (zCx W _))⟩
 have:=zBQ W cs.toArray e (i*z+j) u (by simpa using h1 j u hj)
 rwa [<-Nat.add_assoc] at this
theorem zVt (s:Bool) (A A':Wl Addr) (n n' c c':Nat) (s2:Bool) (B B':Wl Addr) (k k' d d':Nat) (t:Bool) (C C':Wl Addr) (i i' j j':Nat) (t2:Bool) (D D':Wl Addr) (x x' y y':Nat) (r:Bool) (E E':Wl Addr) (p p' q q':Nat) (r2:Bool) (F F':Wl Addr) (g g' h h':Nat):z5 prog 22 3 [(0, .agg #[.bool s, .slice A n c, .slice A' n' c', .bool s2, .slice B k d, .slice B' k' d']),(1, .agg #[.bool t, .slice C i j, .slice C' i' j', .bool t2, .slice D x y, .slice D' x' y']),(2, .agg #[.bool r, .slice E p q, .slice E' p' q', .bool r2, .slice F g h, .slice F' g' h'])]=some (30,#[.bool s, .slice A n c, .slice A' n' c', .bool s2, .slice B k d, .slice B' k' d', .bool t, .slice C i j, .slice C' i' j', .bool t2, .slice D x y, .slice D' x' y', .bool r, .slice E p q, .slice E' p' q', .bool r2, .slice F g h, .slice F' g' h']):=by kernel_rfl
theorem zR8 {u v q:Wj} {W:Wi} (hu:(fPT f g).p u W) (hv:(fPT f' g').p v W) (hq:(fPT f'' g'').p q W): ∃e cs,z5 prog 22 3 [(0,u),(1,v),(2,q)]=some (e,cs)/\(SF.row 6 [CU.agg (fPT f g),CU.agg (fPT f' g'),CU.agg (fPT f'' g'')]).p (.slice (some ⟨W.heap.size,0,none⟩) 3 3) (W.alloc (.cells cs e)):=by
 obtain ⟨s,A,n,c,A',n',c',s2,B,k,d,B',k',d',rfl,h1,h2⟩:=hu
 obtain ⟨s3,A3,n3,c3,A4,n4,c4,s4,B3,k3,d3,B4,k4,d4,rfl,h3,h4⟩:=hv
 obtain ⟨s5,A5,n5,c5,A6,n6,c6,s6,B5,k5,d5,B6,k6,d6,rfl,h5,h6⟩:=hq
 refine ⟨_,_,zVt ..,zFM (Cs:= [CU.agg (fPT f g),CU.agg (fPT f' g'),CU.agg (fPT f'' g'')]) (cs:=_) (by simp) fun i C hi=> ?_⟩
 have hlt:=(zDQ.1 hi).1
 simp at hlt
 rcases (by omega:i=0∨i=1∨i=2) with rfl|rfl|rfl
 ·obtain rfl:CU.agg (fPT f g)=C:=by simpa using hi
  exact ⟨[.bool s, .slice A n c, .slice A' n' c', .bool s2, .slice B k d, .slice B' k' d'],fun j u hj=>by
   have h9:=(zDQ.1 hj).1
   simp at h9
   rcases (by omega:j=0∨j=1∨j=2∨j=3∨j=4∨j=5) with rfl|rfl|rfl|rfl|rfl|rfl<;>exact hj,s,A,n,c,A',n',c',s2,B,k,d,B',k',d',rfl,h1,h2⟩
 ·obtain rfl:CU.agg (fPT f' g')=C:=by simpa using hi
  exact ⟨[.bool s3, .slice A3 n3 c3, .slice A4 n4 c4, .bool s4, .slice B3 k3 d3, .slice B4 k4 d4],fun j u hj=>by
   have h9:=(zDQ.1 hj).1
   simp at h9
   rcases (by omega:j=0∨j=1∨j=2∨j=3∨j=4∨j=5) with rfl|rfl|rfl|rfl|rfl|rfl<;>exact hj,s3,A3,n3,c3,A4,n4,c4,s4,B3,k3,d3,B4,k4,d4,rfl,h3,h4⟩
 ·obtain rfl:CU.agg (fPT f'' g'')=C:=by simpa using hi
  exact ⟨[.bool s5, .slice A5 n5 c5, .slice A6 n6 c6, .bool s6, .slice B5 k5 d5, .slice B6 k6 d6],fun j u hj=>by
   have h9:=(zDQ.1 hj).1
   simp at h9
   rcases (by omega:j=0∨j=1∨j=2∨j=3∨j=4∨j=5) with rfl|rfl|rfl|rfl|rfl|rfl<;>exact hj,s5,A5,n5,c5,A6,n6,c6,s6,B5,k5,d5,B6,k6,d6,rfl,h5,h6⟩
end
def PX.b (x:PX):Nat:=x.1.n+x.1.n'+(x.2.n+x.2.n')
section
variable {F:Fence} {m:Nat} {P:Wn} {w0:Wi} {ops:Array Oper} {G:Nat->SF} {d:Tmp} {ty:Wk} {pos:String} {aft:Array Edge}
end
end Go.Proofs.Wd

namespace Go.Proofs.Wd
open Tryz
set_option maxRecDepth 100000
set_option maxHeartbeats 1000000
open Go.RowKit Lb
section
variable {F:Fence} {m:Nat} {P:Wn} {w0:Wi} {ops:Array Oper} {G:Nat->SF} {d:Tmp} {ty:Wk} {pos:String} {aft:Array Edge}
end
def zBg (a b p:V2):Int:=(crs a b p).num.sign
def zVh (a b r:Rat):Bool:=(!(qsg a b==0))||(qsg a r==0)
def zTK (a b r:Rat):Bool:=decide (qsg a r*qsg r b≥0)&&zVh a b r
def onB (a b p:V2):Bool:=((zBg a b p==0)&&zTK a.1 b.1 p.1)&&zTK a.2 b.2 p.2
abbrev QP (m:Nat) (p:V2):Prop:=QB p.1 m/\QB p.2 m
theorem QP.sub {m:Nat} {p q:V2} (hp:QP m p) (hq:QP m q):QP (2*m+1) (p.1 - q.1,p.2 - q.2):=⟨(hp.1.sub hq.1).mono oO,(hp.2.sub hq.2).mono oO⟩
theorem zTQ {m:Nat} (hm0:0<m) {a b c:V2} {x:Wj} {W:Wi} (h:(fTG (fPV m a) (fPV m b) (fPV m c)).p x W):QP m a/\QP m b/\QP m c:=by
 obtain ⟨u,v,q,_,h1,h2,h3⟩:=h
 exact ⟨zDh hm0 (v:= .agg u.toArray) h1,zDh hm0 (v:= .agg v.toArray) h2,zDh hm0 (v:= .agg q.toArray) h3⟩
theorem thB (s:Bool) (A A':Wl Addr) (n n' c c':Nat) (s2:Bool) (B B':Wl Addr) (k k' d d':Nat) (t:Bool) (C C':Wl Addr) (i i' j j':Nat) (t2:Bool) (D D':Wl Addr) (x x' y y':Nat) (r:Bool) (E E':Wl Addr) (p p' q q':Nat) (r2:Bool) (F F':Wl Addr) (g g' h h':Nat):prog.built 95 [(0, .agg #[.bool s, .slice A n c, .slice A' n' c', .bool s2, .slice B k d, .slice B' k' d']),(1, .agg #[.bool t, .slice C i j, .slice C' i' j', .bool t2, .slice D x y, .slice D' x' y']),(2, .agg #[.bool r, .slice E p q, .slice E' p' q', .bool r2, .slice F g h, .slice F' g' h'])]=some #[.bool s, .slice A n c, .slice A' n' c', .bool s2, .slice B k d, .slice B' k' d', .bool t, .slice C i j, .slice C' i' j', .bool t2, .slice D x y, .slice D' x' y', .bool r, .slice E p q, .slice E' p' q', .bool r2, .slice F g h, .slice F' g' h']:=by kernel_rfl
theorem zVQ {f g f' g' f'' g'':UF} {u v q:Wj} {W:Wi} (hu:(fPT f g).p u W) (hv:(fPT f' g').p v W) (hq:(fPT f'' g'').p q W): ∃cells,prog.built 95 [(0,u),(1,v),(2,q)]=some cells/\(fTG (fPT f g) (fPT f' g') (fPT f'' g'')).p (.agg cells) W:=by
 obtain ⟨s,A,n,c,A',n',c',s2,B,k,d,B',k',d',rfl,h1,h2⟩:=hu
 obtain ⟨s3,A3,n3,c3,A4,n4,c4,s4,B3,k3,d3,B4,k4,d4,rfl,h3,h4⟩:=hv
 obtain ⟨s5,A5,n5,c5,A6,n6,c6,s6,B5,k5,d5,B6,k6,d6,rfl,h5,h6⟩:=hq
 exact ⟨_,thB ..,_,_,_,rfl,⟨s,A,n,c,A',n',c',s2,B,k,d,B',k',d',rfl,h1,h2⟩,⟨s3,A3,n3,c3,A4,n4,c4,s4,B3,k3,d3,B4,k4,d4,rfl,h3,h4⟩,⟨s5,A5,n5,c5,A6,n6,c6,s6,B5,k5,d5,B6,k6,d6,rfl,h5,h6⟩⟩
theorem zQf {m:Nat} {W:Wi} {p q r:V2} {x:Wj} (hx:(fTG (fPV m p) (fPV m q) (fPV m r)).p x W) (hm:m<=159) (hm0:0<m) (hT:Tab W):Calls prog 62 #[x] W (Ret W (fI (zBg p q r)).tS):=by
 have hq:=zTQ hm0 hx
 refine yB [(fTG (fPV m p) (fPV m q) (fPV m r)).tS] func62 rfl kH ⟨hx,trivial⟩ fun a s=> ?_
 replace s:=s.renew [(0, .u (fTG (fPV m p) (fPV m q) (fPV m r)))] (fmz ⟨.inr ⟨_,rfl, .head _⟩,fnz⟩)
 refine tX ?_
 refine zB 0 [] hmix s kH
  zD fun a w1 s=> ?_
 refine yO (CU.agg (fTG (fPV m p) (fPV m q) (fPV m r))) rfl s kH (fun v W h=>zRV h) fun b1 a w s=> ?_
 refine yU (uI 0) rfl s kH iiz fun a w s=> ?_
 refine zA rfl ?_
 refine tX ?_
 replace s:=s.drop [2]
 refine zB 13 ((3, .s (wB ((CU.agg (fTG (fPV m p) (fPV m q) (fPV m r))).cf.at 6)))::(4, .s ((fPV m q).tS))::(5, .s (wB ((CU.agg (fTG (fPV m p) (fPV m q) (fPV m r))).cf.at 0)))::(6, .s ((fPV m p).tS))::(7, .s ((fPN ((q).1 - (p).1,(q).2 - (p).2)).tS))::(8, .s (wB ((CU.agg (fTG (fPV m p) (fPV m q) (fPV m r))).cf.at 12)))::(9, .s ((fPV m r).tS))::(10, .s (wB ((CU.agg (fTG (fPV m p) (fPV m q) (fPV m r))).cf.at 0)))::(11, .s ((fPV m p).tS))::(12, .s ((fPN ((r).1 - (p).1,(r).2 - (p).2)).tS))::(13, .s ((fQN (((q).1 - (p).1,(q).2 - (p).2).1*((r).1 - (p).1,(r).2 - (p).2).2 - ((q).1 - (p).1,(q).2 - (p).2).2*((r).1 - (p).1,(r).2 - (p).2).1)).tS))::(14, .s ((uI (zBg p q r)).tS))::(2, .u (uI (zBg p q r))):: []) hmix s kH
  (oc (zJ (C:=(CU.agg (fTG (fPV m p) (fPV m q) (fPV m r))).cf) 6 kH)<|oc (zP (C:=(CU.agg (fTG (fPV m p) (fPV m q) (fPV m r))).cf) (k:=6) 6 kH (h:=zRU))<|oc (zJ (C:=(CU.agg (fTG (fPV m p) (fPV m q) (fPV m r))).cf) 0 kH)<|oc (zP (C:=(CU.agg (fTG (fPV m p) (fPV m q) (fPV m r))).cf) (k:=0) 6 kH (h:=zOY))<|oc (zI zE zRy (fun u0 u1 W hb (h0:(fPV m q).p u0 W) (h1:(fPV m p).p u1 W)=>zKo (p:=q) (q:=p) h0 h1 oO hm0 (hT.below (s.up hb))))<|oc (zJ (C:=(CU.agg (fTG (fPV m p) (fPV m q) (fPV m r))).cf) 12 kH)<|oc (zP (C:=(CU.agg (fTG (fPV m p) (fPV m q) (fPV m r))).cf) (k:=12) 6 kH (h:=zQh))<|oc (zJ (C:=(CU.agg (fTG (fPV m p) (fPV m q) (fPV m r))).cf) 0 kH)<|oc (zP (C:=(CU.agg (fTG (fPV m p) (fPV m q) (fPV m r))).cf) (k:=0) 6 kH (h:=zOY))<|oc (zI zE zRy (fun u0 u1 W hb (h0:(fPV m r).p u0 W) (h1:(fPV m p).p u1 W)=>zKo (p:=r) (q:=p) h0 h1 oO hm0 (hT.below (s.up hb))))<|oc (zI zE zUm (fun u0 u1 W hb (h0:(fPN ((q).1 - (p).1,(q).2 - (p).2)).p u0 W) (h1:(fPN ((r).1 - (p).1,(r).2 - (p).2)).p u1 W)=>zMV (m:=(2*m+1)) (p:=((q).1 - (p).1,(q).2 - (p).2)) (q:=((r).1 - (p).1,(r).2 - (p).2)) (zAP (p:=((q).1 - (p).1,(q).2 - (p).2)) (m:=(2*m+1)) ((QP.sub hq.2.1 hq.1).1.mono (by first|omega|decide)) ((QP.sub hq.2.1 hq.1).2.mono (by first|omega|decide)) h0) (zAP (p:=((r).1 - (p).1,(r).2 - (p).2)) (m:=(2*m+1)) ((QP.sub hq.2.2 hq.1).1.mono (by first|omega|decide)) ((QP.sub hq.2.2 hq.1).2.mono (by first|omega|decide)) h1) (QP.sub hq.2.1 hq.1) (QP.sub hq.2.2 hq.1) oO oO (hT.below (s.up hb))))<|oc (zH zE zUn (fun u0 W hb (h0:QNp (((q).1 - (p).1,(q).2 - (p).2).1*((r).1 - (p).1,(r).2 - (p).2).2 - ((q).1 - (p).1,(q).2 - (p).2).2*((r).1 - (p).1,(r).2 - (p).2).1) u0 W)=>zQA (wJ h0 (QB.mono (((QP.sub hq.2.1 hq.1).1.mul (QP.sub hq.2.2 hq.1).2).sub ((QP.sub hq.2.1 hq.1).2.mul (QP.sub hq.2.2 hq.1).1)) (m':=8*m+5) oO)) oO oO (hT.below (s.up hb))))<|oc zG<|zD) fun a w2 s=> ?_
 refine zA rfl ?_
 refine tY ?_
 exact wD s (t:=2) rfl iiz
theorem zQj {m:Nat} {W:Wi} {p q r:V2} {u v x:Wj} (h1:(fPV m p).p u W) (h2:(fPV m q).p v W) (h3:(fPV m r).p x W) (hm:m<=159) (hm0:0<m) (hT:Tab W):Calls prog 34 #[u,v,x] W (Ret W (fI (zBg p q r)).tS):=by
 refine yB [(fPV m p).tS,(fPV m q).tS,(fPV m r).tS] func34 rfl kH ⟨h1,h2,h3,trivial⟩ fun a s=> ?_
 replace s:=s.renew [(0, .u (fPV m p)),(1, .u (fPV m q)),(2, .u (fPV m r))] (fmz ⟨.inr ⟨_,rfl, .head _⟩,fmz ⟨.inr ⟨_,rfl,mz1⟩,fmz ⟨.inr ⟨_,rfl,mz2⟩,fnz⟩⟩⟩)
 refine tX ?_
 refine zB 0 [] hmix s kH
  zD fun a w1 s=> ?_
 refine yO (CU.agg (fPV m p)) rfl s kH (fun v W h=>yV h) fun b3 a w s=> ?_
 refine yO (CU.agg (fPV m q)) rfl s kH (fun v W h=>yV h) fun b4 a w s=> ?_
 refine yO (CU.agg (fPV m r)) rfl s kH (fun v W h=>yV h) fun b5 a w s=> ?_
 refine yU (uI 0) rfl s kH iiz fun a w s=> ?_
 refine zA rfl ?_
 refine tX ?_
 replace s:=s.drop [6]
 refine zB 6 ((7, .s ((fPV m p).tS))::(8, .s ((fPV m q).tS))::(9, .s ((fPV m r).tS))::(10, .s ((fTG (fPV m p) (fPV m q) (fPV m r)).tS))::(11, .s ((uI (zBg p q r)).tS))::(6, .u (uI (zBg p q r))):: []) hmix s kH
  (oc (zK (f:=fPV m p) 6 kH (hz:=zO _ _))<|oc (zK (f:=fPV m q) 6 kH (hz:=zO _ _))<|oc (zK (f:=fPV m r) 6 kH (hz:=zO _ _))<|oc (zBV (fun u v z W (hu:(fPV m p).p u W) (hv:(fPV m q).p v W) (hz:(fPV m r).p z W)=>zVQ hu hv hz))<|oc (zH zE zUA (fun u0 W hb (h0:(fTG (fPV m p) (fPV m q) (fPV m r)).p u0 W)=>zQf h0 hm hm0 (hT.below (s.up hb))))<|oc zG<|zD) fun a w2 s=> ?_
 refine zA rfl ?_
 refine tY ?_
 exact wD s (t:=6) rfl iiz
end Go.Proofs.Wd

namespace Go.Proofs.Wd
open Tryz
set_option maxRecDepth 100000
set_option maxHeartbeats 1000000
open Go.RowKit Lb
theorem zTt {m M:Nat} {a b p:V2} (ha:QB a.1 m/\QB a.2 m) (hb:QB b.1 m/\QB b.2 m) (hp:QB p.1 M/\QB p.2 M):QB (crs a b p) ((2*m+1+(M+m+1))+(2*m+1+(M+m+1))+1):=
 ((((hb.1.sub ha.1).mul (hp.2.sub ha.2)).sub ((hb.2.sub ha.2).mul (hp.1.sub ha.1))).mono oO)
theorem zA6 {m M:Nat} {p q:V2} (hp:QB p.1 M/\QB p.2 M) (hq:QB q.1 m/\QB q.2 m):QB (p.1 - q.1) (M+m+1)/\QB (p.2 - q.2) (M+m+1):=⟨hp.1.sub hq.1,hp.2.sub hq.2⟩
theorem zJJ {m M:Nat} {W:Wi} {u v:Wj} {p q:V2} (h1:(fPV M p).p u W) (h2:(fPV M q).p v W) (hp:QB p.1 m/\QB p.2 m) (hq:QB q.1 M/\QB q.2 M) (hmM:m<=M) (hm0:0<m) (hM:m+M<=990):Calls prog 86 #[u,v] W (Ret W (fQN (p.1*q.2 - p.2*q.1)).tS):=by
 refine yB [(fPV M p).tS,(fPV M q).tS] func86 rfl kH ⟨h1,h2,trivial⟩ fun a s=> ?_
 refine tX ?_
 refine zB 0 [] hmix s kH
  zD fun a w1 s=> ?_
 refine yO (CU.agg (fPV M p)) rfl s kH (fun v W h=>yV h) fun b2 a w s=> ?_
 refine yO (CU.agg (fPV M q)) rfl s kH (fun v W h=>yV h) fun b3 a w s=> ?_
 refine z7 (CU.len 3) (cs:=zR3) kH rfl s kH (fun W=>rfl) rfl fun b4 a w s=> ?_
 refine zA rfl ?_
 refine tX ?_
 refine z9 [] 13 ((5, .s (wB ((CU.agg (fPV M p)).cf.at 0)))::(6, .s ((fRV M ((p).1)).tS))::(7, .s (wB ((CU.agg (fPV M q)).cf.at 3)))::(8, .s ((fRV M ((q).2)).tS))::(9, .s (SF.row 3 (rvs M [(p).1,(q).2])))::(10, .s ((fQN ((p).1*(q).2)).tS))::(11, .s (wB ((CU.agg (fPV M p)).cf.at 3)))::(12, .s ((fRV M ((p).2)).tS))::(13, .s (wB ((CU.agg (fPV M q)).cf.at 0)))::(14, .s ((fRV M ((q).1)).tS))::(15, .s (SF.row 3 (rvs M [(p).2,(q).1])))::(16, .s ((fQN ((p).2*(q).1)).tS))::(17, .u (fQN (((p).1*(q).2) - ((p).2*(q).1)))):: []) hmix s kH
  (oc (zJ (C:=(CU.agg (fPV M p)).cf) 0 kH)<|oc (zP (C:=(CU.agg (fPV M p)).cf) (k:=0) 3 kH (h:=zC7))<|oc (zJ (C:=(CU.agg (fPV M q)).cf) 3 kH)<|oc (zP (C:=(CU.agg (fPV M q)).cf) (k:=3) 3 kH (h:=zC6))<|oc (yI (fun u v W (hu:RVp M ((p).1) u W) (hv:RVp M ((q).2) v W)=>zBT hu hv))<|oc (zH zE zHn (fun u0 W hb (h0:(SF.row 3 (rvs M [(p).1,(q).2])).p u0 W)=>zBI h0 (hp.1.mono hmM) hq.2 oO))<|oc (zJ (C:=(CU.agg (fPV M p)).cf) 3 kH)<|oc (zP (C:=(CU.agg (fPV M p)).cf) (k:=3) 3 kH (h:=zC6))<|oc (zJ (C:=(CU.agg (fPV M q)).cf) 0 kH)<|oc (zP (C:=(CU.agg (fPV M q)).cf) (k:=0) 3 kH (h:=zC7))<|oc (yI (fun u v W (hu:RVp M ((p).2) u W) (hv:RVp M ((q).1) v W)=>zBT hu hv))<|oc (zH zE zHn (fun u0 W hb (h0:(SF.row 3 (rvs M [(p).2,(q).1])).p u0 W)=>zBI h0 (hp.2.mono hmM) hq.1 oO))<|oc (zI zE zOx (fun u0 u1 W hb (h0:QNp ((p).1*(q).2) u0 W) (h1:QNp ((p).2*(q).1) u1 W)=>zFQ (wJ h0 (hp.1.mul hq.2)) (wJ h1 (hp.2.mul hq.1)) oO oO))<|zD) fun Q' hQ a w2 s=> ?_
 refine zR (CU.agg (fQN (((p).1*(q).2) - ((p).2*(q).1)))) ((fQN (((p).1*(q).2) - ((p).2*(q).1))).tS) rfl s kH rfl rfl rfl iiz iiz yP fun a w s=> ?_
 refine zA rfl (hQ _ _ ?_)
 refine tY ?_
 exact wE s (CU.agg (fQN (p.1*q.2 - p.2*q.1))) rfl kH rfl rfl (jE _) (fun cs W h=>h)
theorem QB.inv {q:Rat} {m:Nat} (h:QB q m):QB q⁻¹ m:=by
 by_cases e:q=0
 ·subst e
  rw [Rat.inv_zero];exact h
 ·have hn:q.num≠0:=fun h0=>e (zWL.1 h0)
  refine vD h.pos (X:=(q.den:Int)) (D:=q.num) ?_ hn (jG h.2) h.1
  have h1:(q.num:Rat)=q*((q.den:Nat):Rat):=zIY q
  rw [h1, <-Rat.mul_assoc,Rat.inv_mul_cancel q e,zWp]
  rfl
theorem QB.div {p q:Rat} {m n:Nat} (h:QB p m) (h':QB q n):QB (p / q) (m+n):=by
 rw [Rat.div_def]
 exact h.mul h'.inv
end Go.Proofs.Wd

namespace Go.Proofs.Wd
open Tryz
set_option maxRecDepth 100000
set_option maxHeartbeats 1000000
open Go.RowKit Lb
def zIe (p q:V2):Rat:=p.1*q.1+p.2*q.2
def onS (a b p:V2):Bool:=if ((crs a b p).num.sign !=0)=true then false else decide ((zIe (p.1 - a.1,p.2 - a.2) (p.1 - b.1,p.2 - b.2)).num.sign<=0)
theorem zT8 {a b p:V2} (h:((crs a b p).num.sign !=0)=true):onS a b p=false:=if_pos h
theorem zT9 {a b p:V2} (h:((crs a b p).num.sign !=0)=false):onS a b p=decide ((zIe (p.1 - a.1,p.2 - a.2) (p.1 - b.1,p.2 - b.2)).num.sign<=0):=if_neg (by rw [h];decide)
def zJA (f:Nat->Bool) (N:Nat):Nat:=match (List.range N).find? (fun k=> !(f k)) with|some k=>k|none=>N
theorem zKu {f:Nat->Bool} {N:Nat} (h: ∀j,j<N->f j=true):zJA f N=N:=by
 unfold zJA
 rw [List.find?_eq_none.2 (fun x hx=>by rw [h x (zWP.1 hx)];simp)]
theorem zM8 {f:Nat->Bool} {N k:Nat} (hk:k<N) (h: ∀j,j<k->f j=true) (e:f k=false):zJA f N=k:=by
 unfold zJA
 have:(List.range N).find? (fun k=> !(f k))=some k:=by
  rw [List.find?_range_eq_some]
  exact ⟨by rw [e];rfl,zWP.2 hk,fun j hj=>by rw [h j hj];rfl⟩
 rw [this]
def zMO (L:List V2) (p:V2):Nat:=zJA (fun k=>decide (yY (at_ L k) p<0)) L.length
def zFX (L:List V2) (p:V2):List V2:=if (decide (zMO L p<L.length)&&(yY (at_ L (zMO L p)) p==0))=true then L else L.take (zMO L p)++ [p]++L.drop (zMO L p)
theorem zSv {L:List V2} {p:V2} {k:Nat} (hk:zMO L p=k) (h:(decide ((k:Int)<((pns L).length:Int))&&(yY (at_ L k) p==0))=true):zFX L p=L:=by
 unfold zFX
 rw [hk]
 refine if_pos ?_
 rw [zWr] at h ⊢
 exact ⟨zWc (by have:=zGf h.1;simp at this;omega),h.2⟩
theorem zSw {L:List V2} {p:V2} {k:Nat} (hk:zMO L p=k) (h:(decide ((k:Int)<((pns L).length:Int))&&(yY (at_ L k) p==0))=false):zFX L p=L.take k++ [p]++L.drop k:=by
 unfold zFX
 rw [hk]
 refine if_neg fun h'=> ?_
 rw [zWr] at h'
 rw [Bool.and_eq_false_iff] at h
 rcases h with h|h
 ·have:=zWj h
  have:=zGf h'.1
  simp at*
  omega
 ·rw [h] at h';exact absurd h'.2 dA
theorem zQX (L:List V2) (p:V2):zMO L p<=L.length:=by
 unfold zMO zJA
 split
 ·rename_i k h
  have:=zWP.1 (List.mem_of_find?_eq_some h)
  omega
 ·exact zV3 _
theorem zNL (L:List V2) (p:V2):(zFX L p).length<=L.length+1:=by
 unfold zFX
 split
 ·omega
 ·have:=zQX L p
  simp
  omega
theorem zNK {L:List V2} {p x:V2} (h:x∈zFX L p):x=p∨x∈L:=by
 unfold zFX at h
 split at h
 ·exact .inr h
 ·rw [zWl,zWl,List.mem_singleton] at h
  rcases h with (h|h)|h
  ·exact .inr (List.mem_of_mem_take h)
  ·exact .inl h
  ·exact .inr (List.mem_of_mem_drop h)
def yQ (a b c d:V2):Nat->List V2
 |0=> []
 |i+1=>if (onS a b (at_ [a,b,c,d] i)&&onS c d (at_ [a,b,c,d] i))=true then zFX (yQ a b c d i) (at_ [a,b,c,d] i) else yQ a b c d i
theorem zRt {a b c d:V2} {i:Nat} (h:(onS a b (at_ [a,b,c,d] i)&&onS c d (at_ [a,b,c,d] i))=true):yQ a b c d (i+1)=zFX (yQ a b c d i) (at_ [a,b,c,d] i):=if_pos h
theorem zRu {a b c d:V2} {i:Nat} (h:(onS a b (at_ [a,b,c,d] i)&&onS c d (at_ [a,b,c,d] i))=false):yQ a b c d (i+1)=yQ a b c d i:=if_neg (by rw [h];decide)
theorem zEY (a b c d:V2): ∀i,(yQ a b c d i).length<=i
 |0=>zV3 _
 | i+1=>by
  have ih:=zEY a b c d i
  show (if _ then _ else _:List V2).length<=_
  split
  ·have:=zNL (yQ a b c d i) (at_ [a,b,c,d] i)
   omega
  ·omega
theorem zJe {m:Nat} {a b c d:V2} (h: ∀p,p∈ [a,b,c,d]->QB p.1 m/\QB p.2 m): ∀i,i<=4-> ∀p,p∈yQ a b c d i->QB p.1 m/\QB p.2 m
 |0,_,p,hp=>absurd hp List.not_mem_nil
 | i+1,hi,p,hp=>by
  have ih:=zJe h i oO
  have hp':p∈(if (onS a b (at_ [a,b,c,d] i)&&onS c d (at_ [a,b,c,d] i))=true then zFX (yQ a b c d i) (at_ [a,b,c,d] i) else yQ a b c d i):=hp
  split at hp'
  ·rcases zNK hp' with e|e
   ·rw [e];exact h _ (zBm (by simp;omega))
   ·exact ih p e
  ·exact ih p hp'
def fRW (W0:Wi) (z:Nat) (Cs:List CU):UF:=⟨⟨fun v _=>(SF.row z Cs).p v W0,fun _ _ _ h _=>h⟩,fun _ _ _ h _=>h⟩
section
variable {F:Fence} {m:Nat} {P:Wn} {w0:Wi} {ops:Array Oper} {G:Nat->SF} {d:Tmp} {ty:Wk} {pos:String} {aft:Array Edge}
theorem zCT {t e':Wk} {ie:TypeInfo} {z:Nat} (hu:P.underlying t=some (.slice e')) (hie:P.info? e'=some ie) (hsz:ie.size=z) (A:Wl Addr) (n c k:Nat) (hk:k<=n) (w:Wi):(Instr.sliceAt t (.slice A n c) (some (.int .i64 (k:Int))) none none).run P w= .ok (.slice (if c=k then A else A.map (·.add (k*z))) (n - k) (c - k)) w:=by
 simp [Instr.sliceAt,Instr.slice,Instr.sliceBounds,run_underlying hu,sizeOf,typeInfo,hie,hsz,go_sem,hk]
theorem zGL {t e':Wk} {ie:TypeInfo} (hu:P.underlying t=some (.slice e')) (hie:P.info? e'=some ie) (A:Wl Addr) (n c k:Nat) (hk:k<=c) (w:Wi):(Instr.sliceAt t (.slice A n c) none (some (.int .i64 (k:Int))) none).run P w= .ok (.slice A k c) w:=by
 simp [Instr.sliceAt,Instr.slice,Instr.sliceBounds,run_underlying hu,sizeOf,typeInfo,hie,go_sem,hk]
theorem zRM {x lo:Wm} {t:Wk} {z k:Nat} {Cs:List CU} (hz:jI P t=some z) (hk:k<=Cs.length) (hx: ∀v W,Below w0.heap.size w0 W->(fct G x).p v W->(SF.row z Cs).p v W) (hh: ∀v W,(fct G lo).p v W->v= .int .i64 (k:Int)) (hd: ∀v W,(SF.row z (Cs.drop k)).p v W->(G d).p v W:=by exact fun _ _ h=>h):qN F m P w0 ops G ⟨some d, .slice t x (some lo) none none,ty,pos,aft,none⟩:=
 qL (fun _ e=>by cases e) (fun _ e=>by cases e) fun b W hb hp=>by
  obtain ⟨A,c,e,h2,h3,h4,h5⟩:=hx _ _ hb (hp x (by simp [Op.operands]))
  have e2:=hh _ _ (hp lo (by simp [Op.operands]))
  unfold jI at hz
  split at hz<;>try cases hz
  rename_i e' hu
  obtain ⟨ie,hie,hsz⟩:=zWx.1 hz
  refine ⟨.slice (if c=k then A else A.map (·.add (k*z))) (Cs.length - k) (c - k),by simp [execOp,e,e2,zCT hu hie hsz A Cs.length c k hk],hd _ _ ⟨_,c - k,by rw [zWy],by rw [zWy];omega,by omega,fun hA=> ?_,fun i C hi=> ?_⟩⟩
  ·split at hA
   ·omega
   ·cases A with
    |none=>have:=h4 rfl;omega
    |some q=>cases hA
  ·rw [List.getElem?_drop] at hi
   have hlt:=(zDQ.1 hi).1
   obtain ⟨b',o,cs,rfl,h6,h7⟩:=h5 _ C hi
   rw [if_neg oO]
   refine ⟨b',o+k*z,cs,by simp [Addr.add_lit], ?_,h7⟩
   rwa [show o+(k+i)*z=o+k*z+i*z by rw [Nat.add_mul];omega] at h6
theorem zNY {x hi:Wm} {t:Wk} {z k:Nat} {Cs:List CU} (hz:jI P t=some z) (hk:k<=Cs.length) (hx: ∀v W,Below w0.heap.size w0 W->(fct G x).p v W->(SF.row z Cs).p v W) (hh: ∀v W,(fct G hi).p v W->v= .int .i64 (k:Int)) (hd: ∀v W,(SF.row z (Cs.take k)).p v W->(G d).p v W:=by exact fun _ _ h=>h):qN F m P w0 ops G ⟨some d, .slice t x none (some hi) none,ty,pos,aft,none⟩:=
 qL (fun _ e=>by cases e) (fun _ e=>by cases e) fun b W hb hp=>by
  obtain ⟨A,c,e,h2,h3,h4,h5⟩:=hx _ _ hb (hp x (by simp [Op.operands]))
  have e2:=hh _ _ (hp hi (by simp [Op.operands]))
  unfold jI at hz
  split at hz<;>try cases hz
  rename_i e' hu
  obtain ⟨ie,hie,hsz⟩:=zWx.1 hz
  have hkc:k<=c:=zV7 hk h2
  refine ⟨.slice A k c,by simp [execOp,e,e2,zGL hu hie A Cs.length c k hkc],hd _ _ ⟨A,c,by rw [List.length_take,Nat.min_eq_left hk],by rw [List.length_take];omega,h3,h4,fun i C hi=> ?_⟩⟩
  rw [List.getElem?_take] at hi
  split at hi
  ·exact h5 i C hi
  ·cases hi
theorem zHZ {W0:Wi} {l0:Wj} {x lo:Wm} {t:Wk} {z k:Nat} {Cs:List CU} (hz:jI P t=some z) (hk:k<=Cs.length) (hl:(SF.row z Cs).p l0 W0) (hx: ∀v W,(fct G x).p v W->v=l0) (hh: ∀v W,(fct G lo).p v W->v= .int .i64 (k:Int)) (hd: ∀v W,(SF.row z (Cs.drop k)).p v W0->(G d).p v W):qN F m P w0 ops G ⟨some d, .slice t x (some lo) none none,ty,pos,aft,none⟩:=
 qL (fun _ e=>by cases e) (fun _ e=>by cases e) fun b W hb hp=>by
  have e0:=hx _ _ (hp x (by simp [Op.operands]))
  obtain ⟨A,c,e,h2,h3,h4,h5⟩:=hl
  have e2:=hh _ _ (hp lo (by simp [Op.operands]))
  rw [e] at e0
  unfold jI at hz
  split at hz<;>try cases hz
  rename_i e' hu
  obtain ⟨ie,hie,hsz⟩:=zWx.1 hz
  refine ⟨.slice (if c=k then A else A.map (·.add (k*z))) (Cs.length - k) (c - k),by simp [execOp,e0,e2,zCT hu hie hsz A Cs.length c k hk],hd _ _ ⟨_,c - k,by rw [zWy],by rw [zWy];omega,by omega,fun hA=> ?_,fun i C hi=> ?_⟩⟩
  ·split at hA
   ·omega
   ·cases A with
    |none=>have:=h4 rfl;omega
    |some q=>cases hA
  ·rw [List.getElem?_drop] at hi
   have hlt:=(zDQ.1 hi).1
   obtain ⟨b',o,cs,rfl,h6,h7⟩:=h5 _ C hi
   rw [if_neg oO]
   refine ⟨b',o+k*z,cs,by simp [Addr.add_lit], ?_,h7⟩
   rwa [show o+(k+i)*z=o+k*z+i*z by rw [Nat.add_mul];omega] at h6
end
theorem zIa {P:Wn} {w0:Wi} {ops:Array Oper} {G:Nat->SF} {d:Tmp} {ty:Wk} {pos:String} {aft:Array Edge} {W0:Wi} {l0:Wj} {x lo:Wm} {t:Wk} {z k:Nat} {Cs:List CU} (hz:jI P t=some z) (hk:k<=Cs.length) (hl:(SF.row z Cs).p l0 W0) (hx: ∀v W,(fct G x).p v W->v=l0) (hh: ∀v W,(fct G lo).p v W->v= .int .i64 (k:Int)):zE8 P w0 ops G ⟨some d, .slice t x (some lo) none none,ty,pos,aft,none⟩:=
 zEW (fun _ e=>by cases e) fun b W _ hp=>by
  have e0:=hx _ _ (hp x (by simp [Op.operands]))
  obtain ⟨A,c,e,h2,h3,h4,h5⟩:=hl
  have e2:=hh _ _ (hp lo (by simp [Op.operands]))
  rw [e] at e0
  unfold jI at hz
  split at hz<;>try cases hz
  rename_i e' hu
  obtain ⟨ie,hie,hsz⟩:=zWx.1 hz
  exact ⟨.slice (if c=k then A else A.map (·.add (k*z))) (Cs.length - k) (c - k),fun W' _=>by simp [execOp,e0,e2,zCT hu hie hsz A Cs.length c k hk]⟩
section
variable {S:Nat->Prop} {F:Fence} {m:Nat} {P:Wn} {Q:Exit->Act->Wi->Prop} {w0:Wi} {K:List (Nat×KF)} {B:List Bx} {n:Nat} {ds:List Deferred} {a:Act} {w:Wi}
theorem zOZ {ops:Array Oper} {k d:Nat} {x:Wm} {ty:Wk} {pos:String} {aft:Array Edge} (f:UF) (ho:ops[k]?=some ⟨some d, .assign x,ty,pos,aft,none⟩) (h:StS S w0 K B n ds a w) (hf:j7 K B n d=true) (hx: ∀v W,(Wd.fct (jR K B) x).p v W->f.p v W)
  (fin: ∀a,StS S w0 ((d, .u f)::K) B n ds a w->zA4 F m P ops Q (k+1) a w):zA4 F m P ops Q k a w:=
 zAU ho rfl (zBJ (fun _ e=>by cases e) (fun _ e=>by cases e) (W':=w) (v:=a.eval x) rfl (fin _ (h.set hf (zV5 _ _) (hx _ _ (h.fct x)))))
end
theorem zNP (ps:List V2) (k:Nat):(pns ps).take k=pns (ps.take k):=by unfold pns;rw [List.map_take]
theorem zNQ (ps:List V2) (k:Nat):(pns ps).drop k=pns (ps.drop k):=by unfold pns;rw [List.map_drop]
theorem zLg (a b:List V2) (p:V2):pns a++pns [p]++pns b=pns (a++ [p]++b):=by simp [pns]
theorem zVs (a1 a2 a3 a4 a5 a6 b1 b2 b3 b4 b5 b6 c1 c2 c3 c4 c5 c6 d1 d2 d3 d4 d5 d6:Wj):z5 prog 22 4 [(0, .agg #[a1,a2,a3,a4,a5,a6]),(1, .agg #[b1,b2,b3,b4,b5,b6]),(2, .agg #[c1,c2,c3,c4,c5,c6]),(3, .agg #[d1,d2,d3,d4,d5,d6])]=some (30,#[a1,a2,a3,a4,a5,a6,b1,b2,b3,b4,b5,b6,c1,c2,c3,c4,c5,c6,d1,d2,d3,d4,d5,d6]):=by kernel_rfl
theorem zSO {cs:List Wj} (h:cs.length=6): ∃u0 u1 u2 u3 u4 u5,cs= [u0,u1,u2,u3,u4,u5]:=by
 match cs,h with
 | [u0,u1,u2,u3,u4,u5],_=>exact ⟨u0,u1,u2,u3,u4,u5,rfl⟩
theorem zIP {f g:UF} {v:Wj} {W:Wi} (h:(fPT f g).p v W): ∃u0 u1 u2 u3 u4 u5,v= .agg #[u0,u1,u2,u3,u4,u5]/\(CU.agg (fPT f g)).p [u0,u1,u2,u3,u4,u5] W:=by
 obtain ⟨vs,rfl,hl,_,_,hc⟩:=y5 v W h
 obtain ⟨u0,u1,u2,u3,u4,u5,rfl⟩:=zSO hl
 exact ⟨u0,u1,u2,u3,u4,u5,rfl,hc⟩
theorem zR7 {m:Nat} {p q r s:V2} {u v x y:Wj} {W:Wi} (hu:(fPV m p).p u W) (hv:(fPV m q).p v W) (hx:(fPV m r).p x W) (hy:(fPV m s).p y W): ∃e cs,z5 prog 22 4 [(0,u),(1,v),(2,x),(3,y)]=some (e,cs)/\(SF.row 6 (pvs m [p,q,r,s])).p (.slice (some ⟨W.heap.size,0,none⟩) 4 4) (W.alloc (.cells cs e)):=by
 obtain ⟨a1,a2,a3,a4,a5,a6,rfl,ha⟩:=zIP hu
 obtain ⟨b1,b2,b3,b4,b5,b6,rfl,hb⟩:=zIP hv
 obtain ⟨c1,c2,c3,c4,c5,c6,rfl,hc⟩:=zIP hx
 obtain ⟨d1,d2,d3,d4,d5,d6,rfl,hd⟩:=zIP hy
 refine ⟨_,_,zVs ..,zFM (Cs:=pvs m [p,q,r,s]) (cs:= [a1,a2,a3,a4,a5,a6,b1,b2,b3,b4,b5,b6,c1,c2,c3,c4,c5,c6,d1,d2,d3,d4,d5,d6]) (by simp) fun i C hi=> ?_⟩
 have hlt:=(zDQ.1 hi).1
 simp at hlt
 rcases (by omega:i=0∨i=1∨i=2∨i=3) with rfl|rfl|rfl|rfl
 ·obtain rfl:CU.agg (fPV m p)=C:=by simpa using hi
  exact ⟨_,fun j u hj=>by have:=(zDQ.1 hj).1;simp at this;rcases (by omega:j=0∨j=1∨j=2∨j=3∨j=4∨j=5) with rfl|rfl|rfl|rfl|rfl|rfl<;>simpa using hj,ha⟩
 ·obtain rfl:CU.agg (fPV m q)=C:=by simpa using hi
  exact ⟨_,fun j u hj=>by have:=(zDQ.1 hj).1;simp at this;rcases (by omega:j=0∨j=1∨j=2∨j=3∨j=4∨j=5) with rfl|rfl|rfl|rfl|rfl|rfl<;>simpa using hj,hb⟩
 ·obtain rfl:CU.agg (fPV m r)=C:=by simpa using hi
  exact ⟨_,fun j u hj=>by have:=(zDQ.1 hj).1;simp at this;rcases (by omega:j=0∨j=1∨j=2∨j=3∨j=4∨j=5) with rfl|rfl|rfl|rfl|rfl|rfl<;>simpa using hj,hc⟩
 ·obtain rfl:CU.agg (fPV m s)=C:=by simpa using hi
  exact ⟨_,fun j u hj=>by have:=(zDQ.1 hj).1;simp at this;rcases (by omega:j=0∨j=1∨j=2∨j=3∨j=4∨j=5) with rfl|rfl|rfl|rfl|rfl|rfl<;>simpa using hj,hd⟩
theorem zLo {F:Fence} {m:Nat} {P:Wn} {w0:Wi} {ops:Array Oper} {G:Nat->SF} {d:Tmp} {ty:Wk} {pos:String} {aft:Array Edge} {t:Wk} {x y z q:Wm} (h: ∀u v r s W,(fct G x).p u W->(fct G y).p v W->(fct G z).p r W->(fct G q).p s W-> ∃e cs,z5 P t 4 [(0,u),(1,v),(2,r),(3,s)]=some (e,cs)/\(G d).p (.slice (some ⟨W.heap.size,0,none⟩) 4 4) (W.alloc (.cells cs e))):qN F m P w0 ops G ⟨some d, .buildSlice t 4 #[(0,x),(1,y),(2,z),(3,q)],ty,pos,aft,none⟩:=
 zCE fun b W hb hh=>by
  obtain ⟨e,cs,h1,h2⟩:=h _ _ _ _ W (hh x (by simp)) (hh y (by simp)) (hh z (by simp)) (hh q (by simp))
  exact ⟨e,cs,by simpa using h1,h2⟩
theorem zQB {M:Nat} {W:Wi} {u v:Wj} {p q:V2} (h1:(fPV M p).p u W) (h2:(fPV M q).p v W) (hp:QB p.1 M/\QB p.2 M) (hq:QB q.1 M/\QB q.2 M) (hM:M<=495):Calls prog 129 #[u,v] W (Ret W (fQN (zIe p q)).tS):=by
 refine yB [(fPV M p).tS,(fPV M q).tS] func129 rfl kH ⟨h1,h2,trivial⟩ fun a s=> ?_
 refine tX ?_
 refine zB 0 [] hmix s kH
  zD fun a w1 s=> ?_
 refine yO (CU.agg (fPV M p)) rfl s kH (fun v W h=>yV h) fun b2 a w s=> ?_
 refine yO (CU.agg (fPV M q)) rfl s kH (fun v W h=>yV h) fun b3 a w s=> ?_
 refine z7 (CU.len 3) (cs:=zR3) kH rfl s kH (fun W=>rfl) rfl fun b4 a w s=> ?_
 refine zA rfl ?_
 refine tX ?_
 refine z9 [] 14 ((5, .s (wB ((CU.agg (fPV M p)).cf.at 0)))::(6, .s ((fRV M ((p).1)).tS))::(7, .s (wB ((CU.agg (fPV M q)).cf.at 0)))::(8, .s ((fRV M ((q).1)).tS))::(9, .s (SF.row 3 (rvs M [(p).1,(q).1])))::(10, .s ((fQN ((p).1*(q).1)).tS))::(11, .s (wB ((CU.agg (fPV M p)).cf.at 3)))::(12, .s ((fRV M ((p).2)).tS))::(13, .s (wB ((CU.agg (fPV M q)).cf.at 3)))::(14, .s ((fRV M ((q).2)).tS))::(15, .s (SF.row 3 (rvs M [(p).2,(q).2])))::(16, .s ((fQN ((p).2*(q).2)).tS))::(17, .s (SF.row 3 (rvs (M+M) [((p).1*(q).1),((p).2*(q).2)])))::(18, .u (fQN (((p).1*(q).1)+((p).2*(q).2)))):: []) hmix s kH
  (oc (zJ (C:=(CU.agg (fPV M p)).cf) 0 kH)<|oc (zP (C:=(CU.agg (fPV M p)).cf) (k:=0) 3 kH (h:=zC7))<|oc (zJ (C:=(CU.agg (fPV M q)).cf) 0 kH)<|oc (zP (C:=(CU.agg (fPV M q)).cf) (k:=0) 3 kH (h:=zC7))<|oc (yI (fun u v W (hu:RVp M ((p).1) u W) (hv:RVp M ((q).1) v W)=>zBT hu hv))<|oc (zH zE zHn (fun u0 W hb (h0:(SF.row 3 (rvs M [(p).1,(q).1])).p u0 W)=>zBI h0 hp.1 hq.1 oO))<|oc (zJ (C:=(CU.agg (fPV M p)).cf) 3 kH)<|oc (zP (C:=(CU.agg (fPV M p)).cf) (k:=3) 3 kH (h:=zC6))<|oc (zJ (C:=(CU.agg (fPV M q)).cf) 3 kH)<|oc (zP (C:=(CU.agg (fPV M q)).cf) (k:=3) 3 kH (h:=zC6))<|oc (yI (fun u v W (hu:RVp M ((p).2) u W) (hv:RVp M ((q).2) v W)=>zBT hu hv))<|oc (zH zE zHn (fun u0 W hb (h0:(SF.row 3 (rvs M [(p).2,(q).2])).p u0 W)=>zBI h0 hp.2 hq.2 oO))<|oc (yI (fun u v W (hu:QNp ((p).1*(q).1) u W) (hv:QNp ((p).2*(q).2) v W)=>zBT (wJ hu (hp.1.mul hq.1)) (wJ hv (hp.2.mul hq.2))))<|oc (zH zE zMk (fun u0 W hb (h0:(SF.row 3 (rvs (M+M) [((p).1*(q).1),((p).2*(q).2)])).p u0 W)=>zDg h0 (hp.1.mul hq.1) (hp.2.mul hq.2) oO))<|zD) fun Q' hQ a w2 s=> ?_
 refine zR (CU.agg (fQN (((p).1*(q).1)+((p).2*(q).2)))) ((fQN (((p).1*(q).1)+((p).2*(q).2))).tS) rfl s kH rfl rfl rfl iiz iiz yP fun a w s=> ?_
 refine zA rfl (hQ _ _ ?_)
 refine tY ?_
 exact wE s (CU.agg (fQN (p.1*q.1+p.2*q.2))) rfl kH rfl rfl (jE _) (fun cs W h=>h)
theorem zBH {m:Nat} {W:Wi} {u v:Wj} {p q:V2} (h1:(fPV m p).p u W) (h2:(fPV m q).p v W) (hm:m<=990) (hm0:0<m):Calls prog 20 #[u,v] W (Ret W (fB (yY p q==0)).tS):=by
 refine yB [(fPV m p).tS,(fPV m q).tS] func20 rfl kH ⟨h1,h2,trivial⟩ fun a s=> ?_
 refine tX ?_
 refine zB 0 [] hmix s kH
  zD fun a w1 s=> ?_
 refine yO (CU.agg (fPV m p)) rfl s kH (fun v W h=>yV h) fun b2 a w s=> ?_
 refine yO (CU.agg (fPV m q)) rfl s kH (fun v W h=>yV h) fun b3 a w s=> ?_
 refine yU (uB false) rfl s kH iiz fun a w s=> ?_
 refine zA rfl ?_
 refine tX ?_
 replace s:=s.drop [4]
 refine zB 5 ((5, .s ((fPV m p).tS))::(6, .s ((fPV m q).tS))::(7, .s ((uI (yY p q)).tS))::(8, .s ((uB (yY p q==0)).tS))::(4, .u (uB (yY p q==0))):: []) hmix s kH
  (oc (zK (f:=fPV m p) 6 kH (hz:=zO _ _))<|oc (zK (f:=fPV m q) 6 kH (hz:=zO _ _))<|oc (zI zE zRB (fun u0 u1 W hb (h0:(fPV m p).p u0 W) (h1:(fPV m q).p u1 W)=>zHR h0 h1 hm hm0))<|oc (zS .i64 (yY p q) 0 (yY p q==0) iiz iiz rfl rfl)<|oc zG<|zD) fun a w2 s=> ?_
 refine zA rfl ?_
 refine tY ?_
 exact wD s (t:=4) rfl iiz
theorem zFU {m M:Nat} {W:Wi} {u v x:Wj} {ca cb p:V2} (h1:(fPV m ca).p u W) (h2:(fPV m cb).p v W) (h3:(fPV M p).p x W) (hmM:m<=M) (hm0:0<m) (hM:M+m+1<=495) (hM2:3*m+M+2<=990):Calls prog 108 #[u,v,x] W (Ret W (fB (onS ca cb p)).tS):=by
 have hqa:=zDh hm0 h1
 have hqb:=zDh hm0 h2
 have hqp:=zDh oO h3
 refine yB [(fPV m ca).tS,(fPV m cb).tS,(fPV M p).tS] func108 rfl kH ⟨h1,h2,h3,trivial⟩ fun a s=> ?_
 refine tX ?_
 refine zB 0 [] hmix s kH
  zD fun a w1 s=> ?_
 refine yO (CU.agg (fPV m ca)) rfl s kH (fun v W h=>yV h) fun b3 a w s=> ?_
 refine yO (CU.agg (fPV m cb)) rfl s kH (fun v W h=>yV h) fun b4 a w s=> ?_
 refine yO (CU.agg (fPV M p)) rfl s kH (fun v W h=>yV h) fun b5 a w s=> ?_
 refine yU (uB false) rfl s kH iiz fun a w s=> ?_
 refine zA rfl ?_
 refine tX ?_
 refine tX ?_
 refine zB 9 ((7, .s ((fPV m cb).tS))::(8, .s ((fPV m ca).tS))::(9, .s ((fPN ((cb).1 - (ca).1,(cb).2 - (ca).2)).tS))::(10, .s ((fPV M p).tS))::(11, .s ((fPV m ca).tS))::(12, .s ((fPN ((p).1 - (ca).1,(p).2 - (ca).2)).tS))::(13, .s ((fQN (crs ca cb p)).tS))::(14, .s ((uI ((crs ca cb p).num.sign)).tS))::(15, .u (uB ((crs ca cb p).num.sign !=0))):: []) hmix s kH
  (oc (zK (f:=fPV m cb) 6 kH (hz:=zO _ _))<|oc (zK (f:=fPV m ca) 6 kH (hz:=zO _ _))<|oc (zI zE zFe (fun u0 u1 W hb (h0:(fPV m cb).p u0 W) (h1:(fPV m ca).p u1 W)=>zBM (m:=m) (p:=cb) (q:=ca) h0 h1 oO hm0))<|oc (zK (f:=fPV M p) 6 kH (hz:=zO _ _))<|oc (zK (f:=fPV m ca) 6 kH (hz:=zO _ _))<|oc (zI zE zFe (fun u0 u1 W hb (h0:(fPV M p).p u0 W) (h1:(fPV m ca).p u1 W)=>zBM (m:=M) (p:=p) (q:=ca) h0 (zEJ oO h1) oO oO))<|oc (zI zE zOv (fun u0 u1 W hb (h0:(fPN ((cb).1 - (ca).1,(cb).2 - (ca).2)).p u0 W) (h1:(fPN ((p).1 - (ca).1,(p).2 - (ca).2)).p u1 W)=>zJJ (m:=2*m+1) (M:=M+m+1) (p:=((cb).1 - (ca).1,(cb).2 - (ca).2)) (q:=((p).1 - (ca).1,(p).2 - (ca).2)) (zAP (p:=((cb).1 - (ca).1,(cb).2 - (ca).2)) (m:=(M+m+1)) ((zA5 hqb hqa).1.mono (by first|omega|decide)) ((zA5 hqb hqa).2.mono (by first|omega|decide)) h0) (zAP (p:=((p).1 - (ca).1,(p).2 - (ca).2)) (m:=(M+m+1)) ((zA6 hqp hqa).1.mono (by first|omega|decide)) ((zA6 hqp hqa).2.mono (by first|omega|decide)) h1) (zA5 hqb hqa) (zA6 hqp hqa) oO oO oO))<|oc (zH zE zRC (fun u0 W hb (h0:QNp (crs ca cb p) u0 W)=>zFR (m:=((2*m+1+(M+m+1))+(2*m+1+(M+m+1))+1)) (wJ h0 (zTt hqa hqb hqp)) oO))<|oc (zS .i64 ((crs ca cb p).num.sign) 0 ((crs ca cb p).num.sign !=0) iiz iiz rfl rfl)<|zD) fun a w2 s=> ?_
 refine zA rfl ?_
 refine StS.cond s ((crs ca cb p).num.sign !=0) iiz (fun e=> ?_) (fun e=> ?_)
 ·refine tX ?_
  replace s:=s.drop [6]
  refine zB 1 ((6, .u (uB false)):: []) hmix s kH
   (oc zG<|zD) fun a w3 s=> ?_
  refine zA rfl ?_
  refine tY ?_
  exact wD s (t:=6) rfl (fun v W h=>by rw [zT8 e];exact h)
 ·refine zV6 ?_
  refine tX ?_
  replace s:=s.drop [6]
  refine zB 10 ((16, .s ((fPV M p).tS))::(17, .s ((fPV m ca).tS))::(18, .s ((fPN ((p).1 - (ca).1,(p).2 - (ca).2)).tS))::(19, .s ((fPV M p).tS))::(20, .s ((fPV m cb).tS))::(21, .s ((fPN ((p).1 - (cb).1,(p).2 - (cb).2)).tS))::(22, .s ((fQN (zIe ((p).1 - (ca).1,(p).2 - (ca).2) ((p).1 - (cb).1,(p).2 - (cb).2))).tS))::(23, .s ((uI ((zIe ((p).1 - (ca).1,(p).2 - (ca).2) ((p).1 - (cb).1,(p).2 - (cb).2)).num.sign)).tS))::(24, .s ((uB (decide ((zIe ((p).1 - (ca).1,(p).2 - (ca).2) ((p).1 - (cb).1,(p).2 - (cb).2)).num.sign<=0))).tS))::(6, .u (uB (decide ((zIe ((p).1 - (ca).1,(p).2 - (ca).2) ((p).1 - (cb).1,(p).2 - (cb).2)).num.sign<=0)))):: []) hmix s kH
   (oc (zK (f:=fPV M p) 6 kH (hz:=zO _ _))<|oc (zK (f:=fPV m ca) 6 kH (hz:=zO _ _))<|oc (zI zE zFe (fun u0 u1 W hb (h0:(fPV M p).p u0 W) (h1:(fPV m ca).p u1 W)=>zBM (m:=M) (p:=p) (q:=ca) h0 (zEJ oO h1) oO oO))<|oc (zK (f:=fPV M p) 6 kH (hz:=zO _ _))<|oc (zK (f:=fPV m cb) 6 kH (hz:=zO _ _))<|oc (zI zE zFe (fun u0 u1 W hb (h0:(fPV M p).p u0 W) (h1:(fPV m cb).p u1 W)=>zBM (m:=M) (p:=p) (q:=cb) h0 (zEJ oO h1) oO oO))<|oc (zI zE zTj (fun u0 u1 W hb (h0:(fPN ((p).1 - (ca).1,(p).2 - (ca).2)).p u0 W) (h1:(fPN ((p).1 - (cb).1,(p).2 - (cb).2)).p u1 W)=>zQB (M:=M+m+1) (p:=((p).1 - (ca).1,(p).2 - (ca).2)) (q:=((p).1 - (cb).1,(p).2 - (cb).2)) (zAP (p:=((p).1 - (ca).1,(p).2 - (ca).2)) (m:=(M+m+1)) ((zA6 hqp hqa).1.mono (by first|omega|decide)) ((zA6 hqp hqa).2.mono (by first|omega|decide)) h0) (zAP (p:=((p).1 - (cb).1,(p).2 - (cb).2)) (m:=(M+m+1)) ((zA6 hqp hqb).1.mono (by first|omega|decide)) ((zA6 hqp hqb).2.mono (by first|omega|decide)) h1) (zA6 hqp hqa) (zA6 hqp hqb) oO))<|oc (zH zE zRC (fun u0 W hb (h0:QNp (zIe ((p).1 - (ca).1,(p).2 - (ca).2) ((p).1 - (cb).1,(p).2 - (cb).2)) u0 W)=>zFR (m:=((M+m+1)+(M+m+1)+((M+m+1)+(M+m+1))+1)) (wJ h0 (((zA6 hqp hqa).1.mul (zA6 hqp hqb).1).add ((zA6 hqp hqa).2.mul (zA6 hqp hqb).2))) oO))<|oc (zS .i64 ((zIe ((p).1 - (ca).1,(p).2 - (ca).2) ((p).1 - (cb).1,(p).2 - (cb).2)).num.sign) 0 (decide ((zIe ((p).1 - (ca).1,(p).2 - (ca).2) ((p).1 - (cb).1,(p).2 - (cb).2)).num.sign<=0)) iiz iiz rfl rfl)<|oc zG<|zD) fun a w4 s=> ?_
  refine zA rfl ?_
  refine tY ?_
  exact wD s (t:=6) rfl (fun v W h=>by rw [zT9 e];exact h)
theorem zND {m:Nat} {W:Wi} {l u:Wj} {L:List V2} {p:V2} (hl:(SF.row 6 (pns L)).p l W) (h1:(fPV m p).p u W) (hqL: ∀x,x∈L->QB x.1 m/\QB x.2 m) (hm:m<=990) (hm0:0<m) (hn:L.length<=1000000):Calls prog 128 #[l,u] W (Ret W (SF.row 6 (pns (zFX L p)))):=by
 refine yB [(UF.eq l).tS,(fPV m p).tS] func128 rfl kH ⟨rfl,h1,trivial⟩ fun a s=> ?_
 replace s:=s.renew [(0, .u (UF.eq l)),(1, .u (fPV m p))] (fmz ⟨.inr ⟨_,rfl, .head _⟩,fmz ⟨.inr ⟨_,rfl,mz1⟩,fnz⟩⟩)
 refine tX ?_
 refine zB 0 [] hmix s kH
  zD fun a w1 s=> ?_
 refine yO (CU.agg (fPV m p)) rfl s kH (fun v W h=>yV h) fun b3 a w s=> ?_
 refine yU (UF.eq (.slice none 0 0)) rfl s kH iiz fun a w s=> ?_
 refine zA rfl ?_
 refine tX ?_
 refine zB 1 ((5, .u (uI 0)):: []) hmix s kH
  (oc zG<|zD) fun a w2 s=> ?_
 refine zA rfl ?_
 refine tX ?_
 refine zWa ?_
 refine zAx (fun k=>k<=L.length/\ ∀j,j<k->decide (yY (at_ L j) p<0)=true) (fun k=> [(0, .u (UF.eq l)),(5, .u (uI (k:Int)))]) (fun k=>L.length - k) (0:Nat) (⟨zV4 _,fun j hj=>absurd hj (Nat.not_lt_zero _)⟩) (s.keepK _ (fmz ⟨mz2,fmz ⟨.head _,fnz⟩⟩)) fun k a w hx s=> ?_
 refine tX ?_
 refine tX ?_
 refine zB 13 ((7, .s ((uI (k:Int)).tS))::(8, .s ((UF.eq l).tS))::(9, .s ((uI ((pns L).length:Int)).tS))::(10, .s ((uB (decide ((k:Int)<((pns L).length:Int)))).tS))::(11, .s ((uB (decide ((k:Int)<((pns L).length:Int)))).tS))::(12, .s (SF.imp ((decide ((k:Int)<((pns L).length:Int)))=true) ((UF.eq l).tS)))::(13, .s (SF.imp ((decide ((k:Int)<((pns L).length:Int)))=true) ((uI (k:Int)).tS)))::(14, .s (SF.imp ((decide ((k:Int)<((pns L).length:Int)))=true) (wB (CU.agg (fPN (at_ L k))).cf)))::(15, .s (SF.imp ((decide ((k:Int)<((pns L).length:Int)))=true) ((fPN (at_ L k)).tS)))::(16, .s (SF.imp ((decide ((k:Int)<((pns L).length:Int)))=true) ((fPV m p).tS)))::(17, .s (SF.imp ((decide ((k:Int)<((pns L).length:Int)))=true) ((uI (yY (at_ L k) p)).tS)))::(18, .s (SF.imp ((decide ((k:Int)<((pns L).length:Int)))=true) ((uB (decide (yY (at_ L k) p<0))).tS)))::(19, .u (uB ((decide ((k:Int)<((pns L).length:Int)))&&(decide (yY (at_ L k) p<0))))):: []) hmix s kH
  (oc zC<|oc zC<|oc (y4 (z:=6) (Cs:=pns L) kH (fun v W hb h=>(yZ hl h (s.up hb))) (fun _=>rfl))<|oc (zS .i64 (k:Int) ((pns L).length:Int) (decide ((k:Int)<((pns L).length:Int))) iiz iiz rfl rfl)<|oc zC<|oc (zF 11 (decide ((k:Int)<((pns L).length:Int))) kH iiz (fun e=>z4 [] ((UF.eq l).tS) fnz (fun _ _ h _=>h) kH zC) (fun e W h=>absurd h e))<|oc (zF 11 (decide ((k:Int)<((pns L).length:Int))) kH iiz (fun e=>z4 [] ((uI (k:Int)).tS) fnz (fun _ _ h _=>h) kH zC) (fun e W h=>absurd h e))<|oc (zF 11 (decide ((k:Int)<((pns L).length:Int))) kH iiz (fun e=>z4 [(12,(UF.eq l).tS),(13,(uI (k:Int)).tS)] (wB (CU.agg (fPN (at_ L k))).cf) (fmz ⟨fun v W h=>zQ (c:=(decide ((k:Int)<((pns L).length:Int)))=true) (f:=(UF.eq l).tS) e h,fmz ⟨fun v W h=>zQ (c:=(decide ((k:Int)<((pns L).length:Int)))=true) (f:=(uI (k:Int)).tS) e h,fnz⟩⟩) (fun _ _ h _=>h) kH (yJ (z:=6) (Cs:=pns L) (i:=k) (C:=CU.agg (fPN (at_ L k))) kH (zCW (by have:=zGf e;simp at this;omega)) (fun v W hb h=>(yZ hl h (s.up hb))) iiz)) (fun e W h=>absurd h e))<|oc (zF 11 (decide ((k:Int)<((pns L).length:Int))) kH iiz (fun e=>z4 [(14,wB (CU.agg (fPN (at_ L k))).cf)] ((fPN (at_ L k)).tS) (fmz ⟨fun v W h=>zQ (c:=(decide ((k:Int)<((pns L).length:Int)))=true) (f:=wB (CU.agg (fPN (at_ L k))).cf) e h,fnz⟩) (fun _ _ h _=>h) kH (zK (f:=fPN (at_ L k)) 6 kH (hz:=zO _ _))) (fun e W h=>absurd h e))<|oc (zF 11 (decide ((k:Int)<((pns L).length:Int))) kH iiz (fun e=>z4 [] ((fPV m p).tS) fnz (fun _ _ h _=>h) kH (zK (f:=fPV m p) 6 kH (hz:=zO _ _))) (fun e W h=>absurd h e))<|oc (zF 11 (decide ((k:Int)<((pns L).length:Int))) kH iiz (fun e=>z4 [(15,(fPN (at_ L k)).tS),(16,(fPV m p).tS)] ((uI (yY (at_ L k) p)).tS) (fmz ⟨fun v W h=>zQ (c:=(decide ((k:Int)<((pns L).length:Int)))=true) (f:=(fPN (at_ L k)).tS) e h,fmz ⟨fun v W h=>zQ (c:=(decide ((k:Int)<((pns L).length:Int)))=true) (f:=(fPV m p).tS) e h,fnz⟩⟩) (fun _ _ h _=>h) kH (zI zE zRB (fun u0 u1 W hb (h0:(fPN (at_ L k)).p u0 W) (h1:(fPV m p).p u1 W)=>zHR (m:=m) (p:=at_ L k) (q:=p) (zAP (p:=at_ L k) (m:=m) (hqL _ (zBm (l:=L) (i:=k) (by have:=zGf e;simp at this;omega))).1 (hqL _ (zBm (l:=L) (i:=k) (by have:=zGf e;simp at this;omega))).2 h0) h1 hm hm0))) (fun e W h=>absurd h e))<|oc (zF 11 (decide ((k:Int)<((pns L).length:Int))) kH iiz (fun e=>z4 [(17,(uI (yY (at_ L k) p)).tS)] ((uB (decide (yY (at_ L k) p<0))).tS) (fmz ⟨fun v W h=>zQ (c:=(decide ((k:Int)<((pns L).length:Int)))=true) (f:=(uI (yY (at_ L k) p)).tS) e h,fnz⟩) (fun _ _ h _=>h) kH (zS .i64 (yY (at_ L k) p) 0 (decide (yY (at_ L k) p<0)) iiz iiz rfl rfl)) (fun e W h=>absurd h e))<|oc (y6 (decide ((k:Int)<((pns L).length:Int))) iiz (fun e v W h=>zBc (zQ e h) e) (fun e v W h=>zAy h e))<|zD) fun a w3 s=> ?_
 refine zA rfl ?_
 refine StS.cond s ((decide ((k:Int)<((pns L).length:Int)))&&(decide (yY (at_ L k) p<0))) iiz (fun e=> ?_) (fun e=> ?_)
 ·rw [zWr] at e
  have hk:k<L.length:=by have:=zGf e.1;simp at this;omega
  have hlt:=e.2
  refine zV6 ?_
  refine zWa ?_
  refine zY 2 ((20, .s ((uI (k:Int)).tS))::(21, .u (uI ((k+1:Nat):Int))):: []) s kH
   (oc zC<|oc (yR .i64 (k:Int) 1 ((k+1:Nat):Int) iiz iiz (wrap64 _ _ oO oO))<|zD) fun a w4 s=> ?_
  replace s:=s.drop [5]
  refine yU (uI ((k+1:Nat):Int)) rfl s kH iiz fun a w s=> ?_
  refine zA rfl ?_
  exact ⟨k+1,⟨hk,fun j hj=>by rcases zWN (Nat.le_of_lt_succ hj) with h|h;exact hx.2 j h;rw [h];exact hlt⟩,(by show L.length - (k+1)<L.length - k;omega),s.keepK _ (fmz ⟨mz3,fmz ⟨.head _,fnz⟩⟩)⟩
 ·have hkl:=hx.1
  have hpos:zMO L p=k:=by
   rw [Bool.and_eq_false_iff] at e
   rcases zWN hkl with h|h
   ·exact zM8 h hx.2 (by rcases e with e|e;exact absurd (show (k:Int)<((pns L).length:Int) by simp;omega) (zWj e);exact e)
   ·unfold zMO;rw [h];exact zKu (by rw [<-h];exact hx.2)
  clear e
  refine zWk ?_
  refine tX ?_
  refine tX ?_
  refine zB 12 ((22, .s ((uI (k:Int)).tS))::(23, .s ((UF.eq l).tS))::(24, .s ((uI ((pns L).length:Int)).tS))::(25, .s ((uB (decide ((k:Int)<((pns L).length:Int)))).tS))::(26, .s ((uB (decide ((k:Int)<((pns L).length:Int)))).tS))::(27, .s (SF.imp ((decide ((k:Int)<((pns L).length:Int)))=true) ((UF.eq l).tS)))::(28, .s (SF.imp ((decide ((k:Int)<((pns L).length:Int)))=true) ((uI (k:Int)).tS)))::(29, .s (SF.imp ((decide ((k:Int)<((pns L).length:Int)))=true) (wB (CU.agg (fPN (at_ L k))).cf)))::(30, .s (SF.imp ((decide ((k:Int)<((pns L).length:Int)))=true) ((fPN (at_ L k)).tS)))::(31, .s (SF.imp ((decide ((k:Int)<((pns L).length:Int)))=true) ((fPV m p).tS)))::(32, .s (SF.imp ((decide ((k:Int)<((pns L).length:Int)))=true) ((uB (yY (at_ L k) p==0)).tS)))::(33, .u (uB ((decide ((k:Int)<((pns L).length:Int)))&&(yY (at_ L k) p==0)))):: []) hmix s kH
   (oc zC<|oc zC<|oc (y4 (z:=6) (Cs:=pns L) kH (fun v W hb h=>(yZ hl h (s.up hb))) (fun _=>rfl))<|oc (zS .i64 (k:Int) ((pns L).length:Int) (decide ((k:Int)<((pns L).length:Int))) iiz iiz rfl rfl)<|oc zC<|oc (zF 26 (decide ((k:Int)<((pns L).length:Int))) kH iiz (fun e=>z4 [] ((UF.eq l).tS) fnz (fun _ _ h _=>h) kH zC) (fun e W h=>absurd h e))<|oc (zF 26 (decide ((k:Int)<((pns L).length:Int))) kH iiz (fun e=>z4 [] ((uI (k:Int)).tS) fnz (fun _ _ h _=>h) kH zC) (fun e W h=>absurd h e))<|oc (zF 26 (decide ((k:Int)<((pns L).length:Int))) kH iiz (fun e=>z4 [(27,(UF.eq l).tS),(28,(uI (k:Int)).tS)] (wB (CU.agg (fPN (at_ L k))).cf) (fmz ⟨fun v W h=>zQ (c:=(decide ((k:Int)<((pns L).length:Int)))=true) (f:=(UF.eq l).tS) e h,fmz ⟨fun v W h=>zQ (c:=(decide ((k:Int)<((pns L).length:Int)))=true) (f:=(uI (k:Int)).tS) e h,fnz⟩⟩) (fun _ _ h _=>h) kH (yJ (z:=6) (Cs:=pns L) (i:=k) (C:=CU.agg (fPN (at_ L k))) kH (zCW (by have:=zGf e;simp at this;omega)) (fun v W hb h=>(yZ hl h (s.up hb))) iiz)) (fun e W h=>absurd h e))<|oc (zF 26 (decide ((k:Int)<((pns L).length:Int))) kH iiz (fun e=>z4 [(29,wB (CU.agg (fPN (at_ L k))).cf)] ((fPN (at_ L k)).tS) (fmz ⟨fun v W h=>zQ (c:=(decide ((k:Int)<((pns L).length:Int)))=true) (f:=wB (CU.agg (fPN (at_ L k))).cf) e h,fnz⟩) (fun _ _ h _=>h) kH (zK (f:=fPN (at_ L k)) 6 kH (hz:=zO _ _))) (fun e W h=>absurd h e))<|oc (zF 26 (decide ((k:Int)<((pns L).length:Int))) kH iiz (fun e=>z4 [] ((fPV m p).tS) fnz (fun _ _ h _=>h) kH (zK (f:=fPV m p) 6 kH (hz:=zO _ _))) (fun e W h=>absurd h e))<|oc (zF 26 (decide ((k:Int)<((pns L).length:Int))) kH iiz (fun e=>z4 [(30,(fPN (at_ L k)).tS),(31,(fPV m p).tS)] ((uB (yY (at_ L k) p==0)).tS) (fmz ⟨fun v W h=>zQ (c:=(decide ((k:Int)<((pns L).length:Int)))=true) (f:=(fPN (at_ L k)).tS) e h,fmz ⟨fun v W h=>zQ (c:=(decide ((k:Int)<((pns L).length:Int)))=true) (f:=(fPV m p).tS) e h,fnz⟩⟩) (fun _ _ h _=>h) kH (zI zE zHo (fun u0 u1 W hb (h0:(fPN (at_ L k)).p u0 W) (h1:(fPV m p).p u1 W)=>zBH (m:=m) (p:=at_ L k) (q:=p) (zAP (p:=at_ L k) (m:=m) (hqL _ (zBm (l:=L) (i:=k) (by have:=zGf e;simp at this;omega))).1 (hqL _ (zBm (l:=L) (i:=k) (by have:=zGf e;simp at this;omega))).2 h0) h1 hm hm0))) (fun e W h=>absurd h e))<|oc (y6 (decide ((k:Int)<((pns L).length:Int))) iiz (fun e v W h=>zBc (zQ e h) e) (fun e v W h=>zAy h e))<|zD) fun a w5 s=> ?_
  refine zA rfl ?_
  refine StS.cond s ((decide ((k:Int)<((pns L).length:Int)))&&(yY (at_ L k) p==0)) iiz (fun e=> ?_) (fun e=> ?_)
  ·refine tX ?_
   refine zB 2 ((34, .s ((UF.eq l).tS))::(4, .u (UF.eq l)):: []) hmix s kH
    (oc zC<|oc zG<|zD) fun a w6 s=> ?_
   refine zA rfl ?_
   refine tY ?_
   exact StS.resN s (zV5 _ _) (t:=4) rfl (by rw [s.val (.head _),zSv hpos e];exact (SF.row 6 _).st _ _ _ hl s.below)
  ·refine zV6 ?_
   refine tX ?_
   have hbX:=s.below
   have hlX:=(SF.row 6 _).st _ _ _ hl hbX
   have hX3:b3<w5.heap.size:=s.old _ (.head _)
   replace s:StS _ _ _ [⟨3,30,CU.agg (fPV m p),b3,true⟩] _ _ _ _:=s.freeze
   replace s:=s.reb rfl [(33, .u (uB ((decide ((k:Int)<((pns L).length:Int)))&&(yY (at_ L k) p==0)))),(19, .u (uB ((decide ((k:Int)<((pns L).length:Int)))&&(decide (yY (at_ L k) p<0))))),(0, .u (UF.eq l)),(5, .u (uI (k:Int)))] (fmz ⟨.inl (.head _),fmz ⟨.inl mz1,fmz ⟨.inl mz2,fmz ⟨.inl mz3,fnz⟩⟩⟩⟩)
   refine qM 5 ((35, .s (vC w5 30))::(36, .s ((UF.eq l).tS))::(37, .s ((uI (k:Int)).tS))::(38, .s (SF.row 6 (pns (L.take k))))::(39, .s (wI w5 30 6 (pns (L.take k)))):: []) hmix s kH
    (oc (zLp (z:=6) kH)<|oc zC<|oc zC<|oc (zNY (z:=6) (k:=k) (Cs:=pns L) kH (by simp;omega) (fun v W hb h=>(yZ hlX h (s.up hb))) iiz (fun v W h=>by rw [zNP] at h;exact h))<|oc (zQ3 (pns (L.take k)) kH iiz (fun v W hb h=>h) (zLh _) (by simp;omega))<|zD) fun a w7 s hr=> ?_
   obtain ⟨v39,e39⟩: ∃v,a.tmps.getD 39 undef=v:=⟨_,rfl⟩
   have hv39:zAR w7 w5.heap.size 30 6 v39 (pns (L.take k)):=e39▸(hr (_,_) mz4)
   replace s:=s.learn 39 v39 e39
   refine zOZ (UF.eq v39) rfl s kH iiz fun a s=> ?_
   refine zA rfl ?_
   refine tX ?_
   have sb:=s;have so: ∀q,q∈ [(⟨3,30,CU.agg (fPV m p),b3,true⟩:Bx)]->q.b<w5.heap.size:=fun q hq=>by rcases zWz.1 hq with rfl|hq;exact hX3;cases hq
   have sg:w5.heap.size<=w5.heap.size:=zV3 _
   have hwX:=s.below
   refine zKP (GW w5) hmix s fun w8 hw8 s=> ?_
   have hwb:=hwX.trans (hw8.mono hwX.size)
   have hz:=hwb.size
   refine zFN [5,6,7] [0,1,2,3,5,6,7] ((40, .u (UF.eq v39))::(41, .s ((fPV m p).tS))::(42, .s (SF.row 6 [CU.agg (fPV m p)]))::(43, .s (SF.row 6 (pns [p])))::(45, .s ((UF.eq l).tS))::(46, .s ((uI (k:Int)).tS))::(47, .u (fRW w5 6 (pns (L.drop k)))):: []) (zL3 hwb) s kH
    (oc zC<|oc (zK (f:=fPV m p) 6 kH (hz:=zO _ _))<|oc (zAW (fun u W (hu:(fPV m p).p u W)=>zKz hu))<|oc (zH zE zTe (fun u0 W hb h0=>(zNv (m:=m) (ps:= [p]) h0 oO (by simp)).mono (wG zBv)))<|oc zC<|oc zC<|oc (zHZ (W0:=w5) (l0:=l) (z:=6) (k:=k) (Cs:=pns L) kH (by simp;omega) hlX iiz iiz (fun v W h=>by rw [zNQ] at h;exact h))<|zD)
    (zAZ rfl (zE8.c zEX hwb) (zAZ rfl (zE8.c zEX hwb) (zAZ rfl (zE8.c (zIa (x:= .tmp 45) (lo:= .tmp 46) (l0:=l) (z:=6) (k:=k) (Cs:=pns L) kH (by simp;omega) hlX iiz iiz) hwb) zGk))) fun a w9 hbw s hr=> ?_
   replace hwb:=hwb.trans (hbw.mono hwb.size)
   have hN:=hv39.below (hw8.trans (hbw.mono hw8.size))
   refine zII (i:=4) (x:= .tmp 40) (y:= .tmp 43) (pns [p]) hwb s sg hN rfl (zCR rfl) kH kH kH (s.fct (.tmp 40)) (hr (_,_) mz3) (zLh _) (by simp;omega) so fun v44 a w10 hwb hN44 s=> ?_
   have hR44:=hN44.row
   refine zII (i:=8) (x:= .tmp 44) (y:= .tmp 47) (pns (L.drop k)) hwb s sg hN44 rfl (zCR rfl) kH kH kH (s.fct (.tmp 44)) ((SF.row 6 _).st _ _ _ (s.sl (47, .u (fRW w5 6 (pns (L.drop k)))) mz2) hwb) (zLh _) (by simp;omega) so fun v48 a w11 hwb hN48 s=> ?_
   have hR48:=hN48.row
   have hR:(SF.row 6 (pns (zFX L p))).p v48 w11:=by have:=hR48;rw [zLg, <-zSw hpos e] at this;exact this
   replace s:=s.drop [4]
   refine zFN [] [9] ((4, .u (UF.eq v48)):: []) (zL3 hwb) s kH (zIX zG<|zD) zGk fun a w12 hbw s hr=> ?_
   refine zIH kH ?_
   refine tY ?_
   exact StS.resN s hbX (t:=4) rfl (by rw [s.val (.head _)];exact (SF.row 6 _).st _ _ _ hR hbw)
def PRp (u v:UF) (x:Wj) (w:Wi):Prop:= ∃a b:List Wj,x= .agg (a++b).toArray/\(CU.agg u).p a w/\(CU.agg v).p b w
def fPR (u v:UF):UF:= .mk' (PRp u v) fun _ _ _ ⟨a,b,e,h1,h2⟩ k=>⟨a,b,e,(CU.agg u).us _ _ _ h1 k,(CU.agg v).us _ _ _ h2 k⟩
section
variable {f g f' g':UF}
theorem zBb {cs:List Wj} {W:Wi} (h:(CU.agg (fPR (fPT f g) (fPT f' g'))).p cs W): ∃a b:List Wj,cs=a++b/\a.length=6/\b.length=6/\(CU.agg (fPT f g)).p a W/\(CU.agg (fPT f' g')).p b W:=by
 obtain ⟨a,b,e,h1,h2⟩:=h
 have:=zWe Array.toList (jH e)
 have this:cs=a++b:=this
 exact ⟨a,b,this,(zDK _ _ a W h1).1,(zDK _ _ b W h2).1,h1,h2⟩
theorem zJP:CU.ok 12 (CU.agg (fPR (fPT f g) (fPT f' g'))):=fun cs W h=>by
 obtain ⟨a,b,rfl,l1,l2,h1,h2⟩:=zBb h
 have o1:=zDK _ _ a W h1;have o2:=zDK _ _ b W h2
 refine ⟨by simp [l1,l2],by rw [List.all_append,o1.2.1,o2.2.1];rfl,fun u hu=> ?_⟩
 rcases zWl.1 hu with hu|hu
 ·exact o1.2.2 u hu
 ·exact o2.2.2 u hu
theorem zCl: ∀cs:List Wj, ∀W,(fPR (fPT f g) (fPT f' g')).p (.agg cs.toArray) W->cs.length=12:=fun cs W h=>(zJP cs W h).1
theorem zLe {v:Wj} {W:Wi} (h:(fPR (fPT f g) (fPT f' g')).p v W):(CU.agg (fPR (fPT f g) (fPT f' g'))).p v.cells.toList W/\v.cells.toList.all yA=true:=by
 obtain ⟨a,b,rfl,h1⟩:=id h
 exact ⟨h,(zJP _ W h).2.1⟩
theorem zBq (v:Wj) (W:Wi) (h:(fPR (fPT f g) (fPT f' g')).p v W): ∃vs:List Wj,v= .agg vs.toArray/\vs.length=12/\(∀u,u∈vs->u.oneCell'=true)/\vs.all yA=true/\(CU.agg (fPR (fPT f g) (fPT f' g'))).p vs W:=by
 obtain ⟨a,b,rfl,h1⟩:=id h
 have:=zJP _ W h
 exact ⟨_,rfl,this.1,this.2.2,this.2.1,h⟩
theorem zDj (cs:List Wj) (W:Wi) (h:(CU.agg (fPR (fPT f g) (fPT f' g'))).p cs W):0+6<=cs.length/\(fPT f g).p (.agg ((cs.drop 0).take 6).toArray) W:=by
 obtain ⟨a,b,rfl,l1,l2,h1,_⟩:=zBb h
 refine ⟨by simp [l1,l2], ?_⟩
 rw [zWO,zWu oO,zWm oO]
 exact h1
theorem zDY (cs:List Wj) (W:Wi) (h:(CU.agg (fPR (fPT f g) (fPT f' g'))).p cs W):6+6<=cs.length/\(fPT f' g').p (.agg ((cs.drop 6).take 6).toArray) W:=by
 obtain ⟨a,b,rfl,l1,l2,_,h2⟩:=zBb h
 refine ⟨by simp [l1,l2], ?_⟩
 rw [zWv oO,zWw oO,zWd,zWm oO]
 exact h2
theorem zQV (cs:List Wj) (W:Wi) (h:(CU.agg (fPR (fPT f g) (fPT f' g'))).p cs W):3+3<=cs.length/\g.p (.agg ((cs.drop 3).take 3).toArray) W:=by
 obtain ⟨a,b,rfl,l1,l2,h1,_⟩:=zBb h
 refine ⟨by simp [l1,l2], ?_⟩
 have:=(zC6 a W h1).2
 rwa [zWv oO,zWu (by simp;omega)]
theorem zNN (cs:List Wj) (W:Wi) (h:(CU.agg (fPR (fPT f g) (fPT f' g'))).p cs W):9+3<=cs.length/\g'.p (.agg ((cs.drop 9).take 3).toArray) W:=by
 obtain ⟨a,b,rfl,l1,l2,_,h2⟩:=zBb h
 refine ⟨by simp [l1,l2], ?_⟩
 have:=(zC6 b W h2).2
 rwa [show 9=a.length+3 by omega,List.drop_append,zWw oO,zWd,Nat.add_sub_cancel_left]
end
section
variable {F:Fence} {m:Nat} {P:Wn} {u w0:Wi} {ops:Array Oper} {G:Nat->SF} {d:Tmp} {ty:Wk} {pos:String} {aft:Array Edge}
variable {l:Wj} {x y:Wm} {t:Wk} {z:Nat} {Cs:List CU} {i:Nat} {C:CU}
theorem zG7 (hz:jI P t=some z) (hi:Cs[i]?=some C) (hl:(SF.row z Cs).p l u) (hx: ∀v W,(fct G x).p v W->v=l) (hy: ∀v W,(fct G y).p v W->v= .int .i64 (i:Int)) (hd: ∀v W,(fOp u C).p v W->(G d).p v W:=by exact fun _ _ h=>h):qN F m P w0 ops G ⟨some d, .indexAddr t x y,ty,pos,aft,none⟩:=
 qL (fun _ e=>by cases e) (fun _ e=>by cases e) fun b W hb hh=>by
  have e1:=hx _ _ (hh x (by simp [Op.operands]))
  have e2:=hy _ _ (hh y (by simp [Op.operands]))
  obtain ⟨A,c,rfl,h2,h3,h4,h5⟩:=hl
  obtain ⟨b',o,cs,rfl,h6,h7⟩:=h5 i C hi
  refine ⟨.pointer (some ⟨b',o+i*z,none⟩), ?_,hd _ _ ⟨b',o+i*z,cs,rfl,h7,h6⟩⟩
  simp [execOp,e1,e2,zFk hz (zDQ.1 hi).1]
theorem zIT (hu:Below u.heap.size u w0) (f:UF) (k:Nat) (hk:jZ P t=some k) (hx: ∀v W,(fct G x).p v W->(fOp u C).p v W) (h: ∀cs W,C.p cs W->0+k<=cs.length/\f.p (.agg ((cs.drop 0).take k).toArray) W) (hd: ∀v W,f.p v W->(G d).p v W:=by exact fun _ _ h=>h):qN F m P w0 ops G ⟨some d, .load t x,ty,pos,aft,none⟩:=
 qL (fun _ e=>by cases e) (fun _ e=>by cases e) fun b W hb hh=>by
  have hb:=hu.trans (hb.mono hu.size)
  obtain ⟨a,q,cs,e,h2,h3⟩:=hx _ _ (hh x (by simp [Op.operands]))
  obtain ⟨h4,h5⟩:=h cs W (C.us _ _ _ h2 (zU hb))
  rw [zWO] at h5
  exact ⟨_,by simp [execOp,Instr.loadAt,e,Instr.sureAddr,zAf hk (h3.below hb) oO],hd _ _ h5⟩
end
section
variable {S:Nat->Prop} {w0:Wi} {K:List (Nat×KF)} {B:List Bx} {n:Nat} {ds:List Deferred} {a:Act} {w:Wi}
theorem StS.own (h:St w0 K B n ds a w) {c:Nat} {y:Bx} (hB:zE6 B c=some y) (hro:y.r=false):w0.heap.size<=y.b:=by
 obtain ⟨hy,_⟩:=zAG hB
 obtain ⟨_,_,h2,_⟩:=h.bx.mem y hy
 rcases h2 with e|e|e
 ·rw [hro] at e;cases e
 ·exact e
 ·exact e.elim
theorem zPu {wb:Wi} (h:Below wb.heap.size wb w) {b:Nat} (hb:wb.heap.size<=b) (vs:Array Wj):Gr (GW wb) (w.setRow b vs):=zL3 (zJ8 h hb)
end
theorem zKI (m:Nat) (W:Wi):RVp m 0 (.agg #[.bool false, .slice none 0 0, .slice none 0 0]) W:=⟨iv false [],0,⟨_,_,_,rfl,⟨false,none,0,0, [],rfl,wK W,zBC,zV4 _,rfl⟩,⟨none,0,0, [],rfl,wK W,zBC,zV4 _,rfl⟩⟩,zWn _⟩
abbrev ptZ:List Wj:= [.bool false, .slice none 0 0, .slice none 0 0, .bool false, .slice none 0 0, .slice none 0 0]
theorem zFY (m:Nat) (W:Wi):(CU.agg (fPV m (0,0))).p ptZ W:=⟨false,none,0,0,none,0,0,false,none,0,0,none,0,0,rfl,zKI m W,zKI m W⟩
section
variable {S:Nat->Prop} {w0:Wi} {K:List (Nat×KF)} {B:List Bx} {n:Nat} {a:Act} {w:Wi} {P:Wn} {Q:Exit->Act->Wi->Prop}
end
def zE7 (f:Nat->Bool):Nat->Nat
 |0=>0
 |k+1=>zE7 f k+(if f k=true then 1 else 0)
theorem zMu (f:Nat->Bool): ∀k,zE7 f k<=k
 |0=>zV3 _
 |k+1=>by
  have:=zMu f k
  show zE7 f k+_<=_
  split<;>omega
theorem zPO {f:Nat->Bool} {k:Nat} (h:f k=true):zE7 f (k+1)=zE7 f k+1:=by show _+(if f k=true then 1 else 0)=_;rw [if_pos h]
theorem zMv {f:Nat->Bool} {k:Nat} (h:f k=false):zE7 f (k+1)=zE7 f k:=by show _+(if f k=true then 1 else 0)=_;rw [if_neg (by simp [h])];rfl
section
variable {f g f' g' f'' g'':UF}
end
section
variable {F:Fence} {m:Nat} {P:Wn} {w0:Wi} {ops:Array Oper} {G:Nat->SF} {d:Tmp} {ty:Wk} {pos:String} {aft:Array Edge}
end
theorem zHN (z:Nat) (W:Wi):(SF.row z []).p (.slice none 0 0) W:=⟨none,0,rfl,zV3 _,by decide,fun _=>rfl,fun i C hi=>by simp at hi⟩
abbrev T3L:List V2:= [(((0:Int):Rat),((0:Int):Rat)),(((2:Int):Rat),((0:Int):Rat)),(((0:Int):Rat),((2:Int):Rat))]
abbrev hlf (x:Int):Rat:=((x:Rat)+((0:Int):Rat)) / 2
theorem zPd:QB (hlf 1) 1:=⟨by unfold Bd BB;decide+kernel,by unfold BB;decide+kernel⟩
theorem zTU: ∀p,p∈T3L->QB p.1 1/\QB p.2 1:=fun p hp=>by
 have h0:=qbz (z:=0) dA
 have h2:=qbz (z:=2) dA
 simp only [zWz,List.not_mem_nil,or_false] at hp
 rcases hp with rfl|rfl|rfl
 ·exact ⟨h0,h0⟩
 ·exact ⟨h2,h0⟩
 ·exact ⟨h0,h2⟩
end Go.Proofs.Wd
