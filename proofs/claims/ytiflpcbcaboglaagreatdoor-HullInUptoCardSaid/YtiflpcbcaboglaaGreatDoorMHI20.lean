/- Natural numbers as values; the walks of gcd's Reduce, Lcm, Coprime; Th and what it needs. -/
import Derived.Test.YtiflpcbcaboglaaGreatDoorMHI18
import Derived.Test.YtiflpcbcaboglaaGreatDoorMHI13
import Derived.Test.YtiflpcbcaboglaaGreatDoorMHI7
import Derived.Test.YtiflpcbcaboglaaGreatDoorMHI19
import Derived.Test.YtiflpcbcaboglaaGreatDoorMHI17
import Derived.Test.YtiflpcbcaboglaaGreatDoorMHI6
import Derived.Test.YtiflpcbcaboglaaGreatDoorMHI1
import Derived.Test.YtiflpcbcaboglaaGreatDoorMHI9
import Derived.Test.YtiflpcbcaboglaaGreatDoorMHI16
theorem kH {P:Prop} (h:P:=by kernel_rfl):P:=h
theorem oO {P:Prop} (h:P:=by omega):P:=h
theorem dA {P:Prop} (h:P:=by decide):P:=h
theorem fL {c:Prop} {α:Sort _} {R:α->Prop} (e:¬c) (w:α) (h:c):R w:=absurd h e
theorem fM {β γ:Sort _} {p q:β->γ->Prop} (b:β) (c:γ) (h:p b c) (_:q b c):p b c:=h
theorem fN {P:Prop} (h:P:=by simp):P:=h
abbrev zXg:=@Go.wpIn_seq
abbrev zXh:=@Go.wpIn_ret
abbrev zXi:=@List.getElem?_eq_some_iff
abbrev zXj:=@Nat.lt_of_le_of_lt
abbrev zXk:=@of_decide_eq_true
abbrev zXl:=@Go.RowKit.Below.refl
abbrev zXm:=@Nat.le_refl
abbrev zXn:=@Nat.zero_le
abbrev zXo:=@Go.wpIn_skip
abbrev zXp:=@Nat.le_trans
abbrev zXq:=@Nat.lt_of_lt_of_le
abbrev zXr:=@Nat.div_le_self
abbrev zXs:=@Go.wpIn_block
abbrev zXt:=@Nat.pow_le_pow_right
abbrev zXu:=@of_decide_eq_false
abbrev zXv:=@congrArg
abbrev zXw:=@decide_eq_true
abbrev zXx:=@List.nil_append
abbrev zXy:=@Nat.eq_zero_or_pos
abbrev zXz:=@decide_eq_false
abbrev zXA:=@Option.some.inj
abbrev zXB:=@Go.KeepsOthers.setCell
abbrev zXC:=@List.length_map
abbrev zXD:=@Bool.and_eq_true
abbrev zXE:=@Go.wpIn_exit
abbrev zXF:=@List.mem_append
abbrev zXG:=@List.take_of_length_le
abbrev zXH:=@Rat.mkRat_zero
abbrev zXI:=@Nat.le_of_lt
abbrev zXJ:=@Rat.one_mul
abbrev zXK:=@List.take_add_one
abbrev zXL:=@Nat.mul_assoc
abbrev zXM:=@List.take_append_of_le_length
abbrev zXN:=@List.drop_append_of_le_length
abbrev zXO:=@List.drop_of_length_le
abbrev zXP:=@Option.map_eq_some_iff
abbrev zXQ:=@List.length_drop
abbrev zXR:=@Go.World.block_lt_of_cell?
abbrev zXS:=@List.size_toArray
abbrev zXT:=@List.length_cons
abbrev zXU:=@List.length_nil
abbrev zXV:=@Array.replicate_succ
abbrev zXW:=@Array.replicate_zero
abbrev zXX:=@List.push_toArray
abbrev zXY:=@List.append_toArray
abbrev zXZ:=@List.cons_append
abbrev zX0:=@List.getElem?_eq_getElem
abbrev zX1:=@Bool.and_eq_false_iff
abbrev zX2:=@Classical.byContradiction
abbrev zX3:=@Int.tdiv_eq_ediv_of_nonneg
abbrev zX4:=@Rat.num_eq_zero
abbrev zX5:=@Nat.add_assoc
abbrev zX6:=@List.drop_zero
abbrev zX7:=@List.mem_range
abbrev zX8:=@Nat.gcd_pos_of_pos_right
abbrev zX9:=@Int.sign_eq_neg_one_of_neg
abbrev Wi:=Go.World
abbrev Wj:=Go.Value
abbrev Wk:=Go.TypeId
abbrev Wl:=Option
abbrev Wm:=Go.Operand
abbrev Wn:=Go.Program
namespace Go.Proofs.Wd
open Tryz
variable {W w w':Wi} {B a b b' d m m' n n' x:Nat} {f u v v':Wj} {g:FuncId} {cs cs':List Wj} {k:Int} {q q':Rat} {A:Wl Addr} {qs:List Rat} {p:V2} {y:Wm} {ats:Array Wk} {op:Rat->Rat->Rat}
set_option maxHeartbeats 2000000
open Go.RowKit Lb
theorem zU6 (h:LV W m v a) (h':LV W m v' b) (hm:m<=2000) (hT:Tab W):Calls prog 150 #[v,v'] W (zNm W (Nat.gcd a b)):=by
 obtain ⟨A,n,c,l,rfl,h1,h2,h3,rfl⟩:=h
 obtain ⟨A',n',c',l',rfl,h1',h2',h3',rfl⟩:=h'
 exact (zR6 A n c l A' n' c' l' W h1 h1' h2 h2' oO oO hT).mono fun _ _=>jM.v
theorem zQe (ha:a<BB^m) (hb:b<BB^m):Nat.gcd a b<BB^m:=by
 rcases zXy a with rfl|h
 ·rwa [Nat.gcd_zero_left]
 ·exact zXj (Nat.gcd_le_left b h) ha
theorem zM9 {vg:Wj} {g:Nat} (h:LV W m v a) (hg:LV W m vg g) (hm:m<=2000) (hg0:0<g) (hc:W.cell? ⟨B,0,none⟩=some vg):
  Calls prog 159 #[v,pO B 0] W (zNm W (a / g)):=by
 obtain ⟨A,n,c,l,rfl,h1,h2,h3,h4⟩:=h
 obtain ⟨A',n',c',l',rfl,h1',h2',h3',h4'⟩:=hg
 have hd:=zJg a g hg0 A n c l A' n' c' l' W h1 h2 h1' h2' h4 h4' oO oO
 have H4:=hid h4;have H4':=hid h4'
 clear h4 h4'
 go_enter func159,ntmps159
 go_wp2_with fail
 refine hd.mono ?_
 rintro e w4 ⟨A4,n4,c4,l4,A5,n5,c5,l5,rfl,hi4,hr4,hi5,hr5,hb5⟩
 go_wp2_with fail
 go_ret
 exact ⟨_,rfl,⟨A4,n4,c4,l4,rfl,hi4,hr4⟩,hb5⟩
theorem zUh (A:Wl Addr) (n c:Nat) (w:Wi):
  Calls prog 151 #[.slice A n c] w fun e w'=>e= .returned (.func (.func 159) #[] #[pO w.heap.size 0])/\w'=w.alloc (.cells #[.slice A n c] 24):=by
 go_enter func151,ntmps151
 go_wp2
 go_ret
 exact ⟨rfl,rfl⟩
theorem zN2 (h:LV W m v a) (h':LV W m v' b) (hm:m<=2000) (hT:Tab W):Calls prog 142 #[v,v'] W (zV1 W (a / Nat.gcd a b) (b / Nat.gcd a b)):=by
 have hgc:=zU6 h h' hm hT
 have hgl:=zQe h.bound h'.bound
 have hen: ∀args w,(callFunc 159 args).run prog w= .ok (.enter 159 args) w:=enters_of func159 kH rfl
 obtain ⟨g,hg⟩: ∃g,Nat.gcd a b=g:=⟨_,rfl⟩
 rw [hg] at hgc hgl ⊢
 rcases zXy g with h0|h0
 ·have HZ:=hid h0
  go_enter func142,ntmps142
  go_wp2_with fail
  refine hgc.mono ?_
  rintro e w4 ⟨v4,rfl,⟨A4,n4,c4,l4,rfl,hi4,hr4⟩,hb4⟩
  obtain rfl:n4=0:=by rw [<-hr4.len];exact hi4.zero_iff.1 HZ.out
  go_wp2_with fail
  go_ret2
  exact ⟨_,_,rfl,⟨none,0,0, [],rfl,by rw [HZ.out,Nat.div_zero];exact Is.nil,wN _⟩,⟨none,0,0, [],rfl,by rw [HZ.out,Nat.div_zero];exact Is.nil,wN _⟩,hb4⟩
 ·clear hg
  go_enter func142,ntmps142
  go_wp2_with fail
  refine hgc.mono ?_
  rintro e w4 ⟨v4,rfl,⟨A4,n4,c4,l4,rfl,hi4,hr4⟩,hb4⟩
  have hn4:0<n4:=by rw [<-hr4.len];exact hi4.pos_iff.1 h0
  have hb5:=hb4.trans ((zXl _ w4).alloc (zXm _) (.cells #[.slice A4 n4 c4] 24)|>.mono hb4.size)
  have x5:=Boxed.new w4 24 (.slice A4 n4 c4)
  obtain ⟨W5,hW5⟩: ∃W5,w4.alloc (.cells #[.slice A4 n4 c4] 24)=W5:=⟨_,rfl⟩
  rw [hW5] at hb5 x5
  have hg5:LV W5 m (.slice A4 n4 c4) g:=by rw [<-hW5];exact (qR.lv ⟨A4,n4,c4,l4,rfl,hi4,hr4⟩ hgl).below ((zXl _ w4).alloc (zXm _) _)
  have hby:=zUh A4 n4 c4 w4
  rw [hW5] at hby
  clear hW5
  go_wp2_with fail
  refine hby.mono ?_
  rintro e w6 ⟨rfl,rfl⟩
  go_wp2_with fail
  refine (zM9 (h.below hb5) hg5 hm h0 x5.cell).mono ?_
  rintro e w7 ⟨v7,rfl,hv7,hb7⟩
  go_wp2_with fail
  refine (zM9 ((h'.below hb5).below hb7) (hg5.below hb7) hm h0 ((hb7.cell (p:=⟨w4.heap.size,0,none⟩) (z4 x5.cell)).trans x5.cell)).mono ?_
  rintro e w8 ⟨v8,rfl,hv8,hb8⟩
  go_wp2_with fail
  go_ret2
  have t1:=hb5.trans (hb7.mono hb5.size)
  exact ⟨_,_,rfl,hv7.below hb8,hv8,t1.trans (hb8.mono t1.size)⟩
set_option maxRecDepth 100000
theorem zPD (h:LV W m v x) (hm:m<=100000):Calls prog 134 #[v] W (zNm W x):=by
 obtain ⟨A,n,c,l,rfl,h1,h2,h3,rfl⟩:=h
 exact (qZ A n c l W h1 h2 oO).mono fun _ _=>jM.v
theorem Tab.bls {te:Wk} (hT:Tab W) (hb:W.heap[b]?=some (.cells cs.toArray te (0,0))) (h0: ∃s,cs[0]?=some (.bool s)) (hg:BlS (fun k=>k=b) W w):Tab w:=fun j hj=>by
 have h1:=hT j hj
 have hne:(0:Nat)≠b:=fun e=>by
  have h2:=hT 0 dA
  obtain ⟨s,hs⟩:=h0
  unfold World.cell? at h2
  rw [show ((⟨0,0,none⟩:Addr).block)=b from e,hb] at h2
  simp [hs] at h2
 exact (World.cell?_of_block (a:=⟨0,j,none⟩) (hg.block _ (z4 h1) hne)).trans h1
theorem zIk (h:QVp m k d (.agg cs.toArray) W): ∃s,cs[0]?=some (.bool s):=by
 obtain ⟨u,h1,s,rfl⟩:=zS8 cs W h
 exact ⟨s,h1⟩
theorem zBX (h:QVp m k d (.agg cs.toArray) W):cs.all yA=true:=by
 have:=(zE7 (v:= .agg cs.toArray) h).2
 simpa [Value.cells] using this
theorem zF0 (h:qR W v x):Calls prog 104 #[v] W (Ret W (fNV (x:Int)).tS):=by
 refine z7 [(jA x).tS] func104 rfl kH ⟨h,trivial⟩ fun a s=> ?_
 refine zXg ?_
 refine zB 0 [] hmix s kH
  zD fun a w1 s=> ?_
 refine zZ (CU.len 2) (cs:= [.bool false, sN]) kH rfl s kH (fun W=>rfl) rfl fun b2 a w s=> ?_
 refine zA rfl ?_
 refine zXg ?_
 refine zB 2 ((3,.Z (jA x))::(4,.u (fNV (x:Int))):: []) hmix s kH
  (oc zC<|oc (zFf (fun u W (hu:qR W u x)=>zNc hu))<|zD) fun a w2 s=> ?_
 refine zS (wC (fNV (x:Int))) ((fNV (x:Int)).tS) rfl s kH rfl rfl rfl iiz iiz zGv fun a w s=> ?_
 refine zA rfl ?_
 refine zXh ?_
 exact wH s (wC (fNV (x:Int))) rfl kH rfl rfl (zP4 _) (fun cs W h=>h)
theorem zN1 (z:Int) (hz: -9223372036854775808<=z/\z<=9223372036854775807):Calls prog 73 #[.int .i64 z] W (Ret W (fQN (z:Rat)).tS):=by
 refine z7 [(fI z).tS] func73 rfl kH ⟨rfl,trivial⟩ fun a s=> ?_
 refine zXg ?_
 refine zB 0 [] hmix s kH
  zD fun a w1 s=> ?_
 refine zZ (CU.len 3) (cs:=zR3) kH rfl s kH (fun W=>rfl) rfl fun b2 a w s=> ?_
 refine zA rfl ?_
 refine zXg ?_
 refine zB 4 ((3,.Z (uI z))::(4,.Z (fNV z))::(5,.Z (jA 1))::(6,.u (fQN (z:Rat))):: []) hmix s kH
  (oc zC<|oc (zH zE zVd (fun u0 W hb (h0:u0= .int .i64 z)=>by subst h0;exact zWv z hz))<|oc (zAb (fun u W (hu:u= .int .u32 1)=>zPJ hu))<|oc (y6 (fun u v W (hu:NV W u z) (hv:qR W v 1)=>zHU (q:=(z:Rat)) hu hv))<|zD) fun a w2 s=> ?_
 refine zS (wC (fQN (z:Rat))) ((fQN (z:Rat)).tS) rfl s kH rfl rfl rfl iiz iiz yN fun a w s=> ?_
 refine zA rfl ?_
 refine zXh ?_
 exact wH s (wC (fQN (z:Rat))) rfl kH rfl rfl (jC _) (fun cs W h=>h)
theorem zRd (hh:W.heap[b]?=some (.cells cs.toArray 127 (0,0))) (hc:QVp m k d (.agg cs.toArray) W) (hm:m<=2000) (hd:d=0):Calls prog 122 #[pO b 0] W (zKD W b 127 (wC (fQN ((0:Int):Rat))) (uB false).tS):=by
 have hz:true=decide (d=0):=(zXw hd).symm
 refine zE0 b [(0,wB (pO b 0))] [⟨0,127,wC (fQV m k d),b,false⟩] func122 rfl kH (fun q hq=>by simp at hq;subst hq;exact ⟨by simp,rfl⟩) ⟨⟨cs,rfl,.inr (.inr rfl),hh,hc,zBX hc,fun y hy=>by cases hy⟩,trivial⟩ (fun x hx=>by simp at hx;subst hx;simp) fun a s=> ?_
 refine zXg ?_
 refine zB 1 ((2,.u (uB false)):: []) hmix s kH
  (oc zG<|zD) fun a w1 s=> ?_
 refine zA rfl ?_
 refine zXg ?_
 refine zXg ?_
 refine zB 8 ((3,.s (wL b (cg (fQV m k d))))::(4,.Y (fQV m k d))::(5,.X (fQV m k d) 0)::(6,.X (fQV m k d) 2)::(7,.Z (fLV m d))::(8,.Z (jA d))::(9,.s (zQo d))::(10,.u (uB true)):: []) hmix s kH
  (oc zC<|oc (qC (C:=cg (fQV m k d)))<|oc (zL (C:=cg (fQV m k d)) 0 kH)<|oc (qB (C:=cg (fQV m k d)) 0 2 kH)<|oc (jE (C:=cg (fQV m k d)) (k:=2) kH (h:=zHk))<|oc (zH zE zQq (fun u0 W hb (h0:LV W m u0 d)=>zPD h0 oO))<|oc (zEe kH iiz)<|oc (zEf hz)<|zD) fun a w2 s=> ?_
 refine zA rfl ?_
 refine StS.cond s true iiz (fun e=> ?_) (fun e=>by cases e)
 refine zXg ?_
 refine zB 4 ((11,.Z (wB (pO b 0)))::(12,.u (fQN ((0:Int):Rat)))::(13,.Z (wB (pO b 0)))::(14,.u (wB (pO b 0))):: []) hmix s kH
  (oc (zC (fun _ _ _ h=>h.1))<|oc (zH zE zSd (fun u0 W hb (h0:u0= .int .i64 0)=>by subst h0;exact zN1 0 dA))<|oc (jZ (a:=⟨b,0,none⟩) iiz)<|oc (y9 (b:=b) (o:=0) 0 kH iiz)<|zD) fun a w3 s=> ?_
 refine q6 (c:=0) (o:=0) (kk:=3) (wC (fQN ((0:Int):Rat))) ((fQN ((0:Int):Rat)).tS) rfl s kH rfl rfl iiz iiz zNO fun a w s=> ?_
 refine zA rfl ?_
 refine zXg ?_
 replace s:=s.drop [2]
 refine zB 1 ((2,.u (uB false)):: []) hmix s kH
  (oc zG<|zD) fun a w4 s=> ?_
 refine zA rfl ?_
 refine zXh ?_
 exact vJ s (c:=0) (C:=wC (fQN ((0:Int):Rat))) rfl rfl rfl rfl iiz
theorem zRe (hh:W.heap[b]?=some (.cells cs.toArray 127 (0,0))) (hc:QVp m k d (.agg cs.toArray) W) (hm:m<=2000) (hd0:0<d) (hT:Tab W):Calls prog 122 #[pO b 0] W (zKD W b 127 (wC (fQN (mkRat k d))) (uB true).tS):=by
 have hz:false=decide (d=0):=(zXz oO).symm
 have bk:k.natAbs<BB^m:=by obtain ⟨_,_,_,_,h1,_⟩:=hc;exact h1.bound
 have hred: ∀W u0 u1,Tab W->LV W m u0 k.natAbs->LV W m u1 d->Calls prog 142 #[u0,u1] W (Ret W (wY (jA (k.natAbs / Nat.gcd k.natAbs d)).tS (jA (d / Nat.gcd k.natAbs d)).tS)):=fun W u0 u1 hT h0 h1=>(zN2 h0 h1 hm hT).mono fun e w' ⟨v,v',e1,h1,h2,hb⟩=>⟨_,e1,⟨v,v',rfl,h1,h2⟩,hb⟩
 refine zE0 b [(0,wB (pO b 0))] [⟨0,127,wC (fQV m k d),b,false⟩] func122 rfl kH (fun q hq=>by simp at hq;subst hq;exact ⟨by simp,rfl⟩) ⟨⟨cs,rfl,.inr (.inr rfl),hh,hc,zBX hc,fun y hy=>by cases hy⟩,trivial⟩ (fun x hx=>by simp at hx;subst hx;simp) fun a s=> ?_
 refine zXg ?_
 refine zB 1 ((2,.u (uB false)):: []) hmix s kH
  (oc zG<|zD) fun a w1 s=> ?_
 refine zA rfl ?_
 refine zXg ?_
 refine zXg ?_
 refine zB 8 ((3,.s (wL b (cg (fQV m k d))))::(4,.Y (fQV m k d))::(5,.X (fQV m k d) 0)::(6,.X (fQV m k d) 2)::(7,.Z (fLV m d))::(8,.Z (jA d))::(9,.s (zQo d))::(10,.u (uB false)):: []) hmix s kH
  (oc zC<|oc (qC (C:=cg (fQV m k d)))<|oc (zL (C:=cg (fQV m k d)) 0 kH)<|oc (qB (C:=cg (fQV m k d)) 0 2 kH)<|oc (jE (C:=cg (fQV m k d)) (k:=2) kH (h:=zHk))<|oc (zH zE zQq (fun u0 W hb (h0:LV W m u0 d)=>zPD h0 oO))<|oc (zEe kH iiz)<|oc (zEf hz)<|zD) fun a w2 s=> ?_
 refine zA rfl ?_
 refine StS.cond s false iiz (fun e=>by cases e) (fun e=> ?_)
 refine zXo ?_
 refine zXg ?_
 refine zB 10 ((15,.Z (wB (pO b 0)))::(16,.s (wL b (cg (fQV m k d))))::(17,.Y (fQV m k d))::(18,.X (fQV m k d) 0)::(19,.X (fQV m k d) 0)::(20,.Z (fUV m k))::(21,.u (fNV k))::(22,.Z (wB (pO b 0)))::(23,.Z (wB (pO b 0)))::(24,.u (wB (pO b 0))):: []) hmix s kH
  (oc (zC (fun _ _ _ h=>h.1))<|oc zC<|oc (qC (C:=cg (fQV m k d)))<|oc (zL (C:=cg (fQV m k d)) 0 kH)<|oc (qB (C:=cg (fQV m k d)) 0 0 kH)<|oc (zT (C:=cg (fQV m k d)) (k:=0) 2 kH (h:=zLJ))<|oc (zH zE zT4 (fun u0 W hb (h0:UV W m u0 k)=>zTt h0 oO))<|oc (jZ (a:=⟨b,0,none⟩) iiz)<|oc (y9 (b:=b) (o:=0) 0 kH iiz)<|oc (y9 (b:=b) (o:=0) 0 kH iiz)<|zD) fun a w3 s=> ?_
 refine q6 (c:=0) (o:=0) (kk:=2) (wC (fQM m k d)) ((fNV k).tS) rfl s kH rfl rfl iiz iiz zQ4 fun a w s=> ?_
 refine zA rfl ?_
 refine zXg ?_
 refine z9 [0,1,2,8] 15 ((26,.u (wB (pO b 0)))::(27,.u (wB (pO b 0)))::(28,.s (wL b (cg (fQM m k d))))::(29,.Y (fQM m k d))::(30,.X (fQM m k d) 0)::(31,.X (fQM m k d) 0)::(32,.X (fQM m k d) 1)::(33,.Z (jA (k.natAbs)))::(34,.s (wL b (cg (fQM m k d))))::(35,.Y (fQM m k d))::(36,.X (fQM m k d) 0)::(37,.X (fQM m k d) 2)::(38,.Z (fLV m d))::(39,.Z (zAw (jA (k.natAbs / Nat.gcd k.natAbs d)) (jA (d / Nat.gcd k.natAbs d))))::(25,.u (zAw (jA (k.natAbs / Nat.gcd k.natAbs d)) (jA (d / Nat.gcd k.natAbs d)))):: []) hmix s kH
  (oc (zC (fun _ _ _ h=>h.1))<|oc (zC (fun _ _ _ h=>h.1))<|oc zC<|oc (qC (C:=cg (fQM m k d)))<|oc (zL (C:=cg (fQM m k d)) 0 kH)<|oc (qB (C:=cg (fQM m k d)) 0 0 kH)<|oc (qB (C:=cg (fQM m k d)) 0 1 kH)<|oc (jE (C:=cg (fQM m k d)) (k:=1) kH (h:=zTc))<|oc zC<|oc (qC (C:=cg (fQM m k d)))<|oc (zL (C:=cg (fQM m k d)) 0 kH)<|oc (qB (C:=cg (fQM m k d)) 0 2 kH)<|oc (jE (C:=cg (fQM m k d)) (k:=2) kH (h:=zTb))<|oc (zI zE zT1 (fun u0 u1 W hb (h0:qR W u0 (k.natAbs)) (h1:LV W m u1 d)=>hred W u0 u1 (hT.bls hh (zIk hc) (s.gr.trans hb)) (qR.lv h0 bk) h1))<|oc zC<|zD) fun Q' hQ a w4 s=> ?_
 refine zAS (jA (k.natAbs / Nat.gcd k.natAbs d)) rfl s kH (zAK (A:=(jA (k.natAbs / Nat.gcd k.natAbs d)).tS) (B:=(jA (d / Nat.gcd k.natAbs d)).tS) iiz) kH fun a w s=> ?_
 refine zAS (jA (d / Nat.gcd k.natAbs d)) rfl s kH (zAJ (A:=(jA (k.natAbs / Nat.gcd k.natAbs d)).tS) (B:=(jA (d / Nat.gcd k.natAbs d)).tS) iiz) kH fun a w s=> ?_
 refine zAS (wB (pO b 0)) rfl s kH (jZ (a:=⟨b,0,none⟩) iiz) kH fun a w s=> ?_
 refine zAS (wB (pO b 0)) rfl s kH (y9 (b:=b) (o:=0) 0 kH iiz) kH fun a w s=> ?_
 refine zAS (wB (pO b 0)) rfl s kH (y9 (b:=b) (o:=0) 0 kH iiz) kH fun a w s=> ?_
 refine zAS (wB (pO b 1)) rfl s kH (y9 (b:=b) (o:=0) 1 kH iiz) kH fun a w s=> ?_
 refine q6 (c:=0) (o:=1) (kk:=1) (wC (fQA m (decide (k<0)) (k.natAbs / Nat.gcd k.natAbs d) d)) ((jA (k.natAbs / Nat.gcd k.natAbs d)).tS) rfl s kH rfl rfl iiz iiz zSN fun a w s=> ?_
 refine zAS (wB (pO b 0)) rfl s kH (jZ (a:=⟨b,0,none⟩) iiz) kH fun a w s=> ?_
 refine zAS (wB (pO b 0)) rfl s kH (y9 (b:=b) (o:=0) 0 kH iiz) kH fun a w s=> ?_
 refine zAS (wB (pO b 2)) rfl s kH (y9 (b:=b) (o:=0) 2 kH iiz) kH fun a w s=> ?_
 refine q6 (c:=0) (o:=2) (kk:=1) (wC (fQN (mkRat k d))) ((jA (d / Nat.gcd k.natAbs d)).tS) rfl s kH rfl rfl iiz iiz (zSK (zCc k d hd0).symm (zDL k d hd0).symm (zCA k d hd0).symm) fun a w s=> ?_
 refine zA rfl (hQ _ _ ?_)
 refine zXg ?_
 replace s:=s.drop [2]
 refine zB 1 ((2,.u (uB true)):: []) hmix s kH
  (oc zG<|zD) fun a w5 s=> ?_
 refine zA rfl ?_
 refine zXh ?_
 exact vJ s (c:=0) (C:=wC (fQN (mkRat k d))) rfl rfl rfl rfl iiz
theorem zE3 (hh:W.heap[b]?=some (.cells cs.toArray 127 (0,0))) (hc:QVp m k d (.agg cs.toArray) W) (hm:m<=2000) (hT:Tab W):Calls prog 122 #[pO b 0] W (zKD W b 127 (wC (fQN (mkRat k d))) (uB (decide (0<d))).tS):=by
 rcases zXy d with h|h
 ·have:=zRd hh hc hm h
  rw [h,zXH,zXz oO]
  exact this
 ·rw [zXw h]
  exact zRe hh hc hm h hT
theorem zUR (h:QVp m k d v W) (hm:m<=2000) (hT:Tab W):Calls prog 101 #[v] W (Ret W (wM W 127 (wC (fQN (mkRat k d))))):=by
 refine z7 [(fQV m k d).tS] func101 rfl kH ⟨h,trivial⟩ fun a s=> ?_
 refine zXg ?_
 refine zB 0 [] hmix s kH
  zD fun a w1 s=> ?_
 refine yG (wC (fQV m k d)) rfl s kH (fun v W h=>zE7 h) fun b1 a w s=> ?_
 refine yP (wB (.pointer none)) rfl s kH iiz fun a w s=> ?_
 refine zA rfl ?_
 refine zXg ?_
 refine zB 2 ((4,.Z (fQV m k d))::(5,.u (fQV m k d)):: []) hmix s kH
  (oc (zJ (f:=fQV m k d) 3 kH (hz:=zPR _ _ _))<|oc (zFf (fun u W (hu:QVp m k d u W)=>zUj hu))<|zD) fun a w2 s=> ?_
 refine yG (wC (fQV m k d)) rfl s kH (fun v W h=>zE7 h) fun b6 a w s=> ?_
 refine zUI rfl s kH fun a w s=> ?_
 refine zA rfl ?_
 refine zXg ?_
 refine zB 1 ((7,.u (wB (pO b6 0))):: []) hmix s kH
  (oc (zC (fun _ _ _ h=>h.1))<|zD) fun a w3 s=> ?_
 refine zF4 (c:=3) (wC (fQN (mkRat k d))) (UF.any) rfl zE zMX s kH rfl rfl iiz (fun cs h1 h2=> ?_) fun a w s=> ?_
 ·exact (zE3 h1 h2 hm (hT.below s.gr.below)).mono fun e w' ⟨v,g1,_,g2⟩=>⟨v,g1,trivial,g2⟩
 refine zA rfl ?_
 refine zXg ?_
 replace s:=s.drop [2]
 refine zB 2 ((9,.s (wL b6 (cg (fQN (mkRat k d)))))::(2,.u (wB (pO b6 0))):: []) hmix s kH
  (oc zC<|oc (zG (fun _ _ _ h=>h.1))<|zD) fun a w4 s=> ?_
 refine zA rfl ?_
 refine zXh ?_
 exact vO s (t:=2) (c:=3) rfl rfl rfl iiz
theorem zOC (hh:W.heap[b]?=some (.cells cs.toArray 127 (0,0))) (hc:QNp q (.agg cs.toArray) W) (hh':W.heap[b']?=some (.cells cs'.toArray 127 (0,0))) (hc':QNp q' (.agg cs'.toArray) W) (hne:b'≠b) (hq:QB q m) (hq':QB q' m') (hm:m+m'+1<=2000) (hT:Tab W):Calls prog 100 #[pO b 0,pO b' 0] W (zKD W b 127 (wC (fQN (q+q'))) SF.any):=by
 have bk:Bd (((q).num*((q').den:Int))+((q').num*((q).den:Int))) (m+m'+1):=hq.num_add hq'
 rw [Rat.add_def']
 refine zE0 b [(0,wB (pO b 0)),(1,wB (pO b' 0))] [⟨0,127,wC (fQN q),b,false⟩,⟨1,127,wC (fQN q'),b',true⟩] func100 rfl kH (fun x hx=>by simp at hx;rcases hx with rfl|rfl<;>exact ⟨by simp,rfl⟩) ⟨⟨cs,rfl,.inr (.inr rfl),hh,hc,zBX (zIm hc hq),fun y hy=>by simp at hy;subst hy;exact .inl hne⟩,⟨cs',rfl,.inl rfl,hh',hc',zBX (zIm hc' hq'),fun y hy=>by cases hy⟩,trivial⟩ (fun x hx=>by simp at hx;rcases hx with rfl|rfl<;>simp) fun a s=> ?_
 refine zXg ?_
 refine z9 [0,1,6,14,19] 32 ((4,.Z (wB (pO b 0)))::(5,.s (wL b (cg (fQN q))))::(6,.Y (fQN q))::(7,.X (fQN q) 0)::(8,.X (fQN q) 0)::(9,.Z (fNV ((q).num)))::(10,.s (wL b' (cg (fQN q'))))::(11,.Y (fQN q'))::(12,.X (fQN q') 0)::(13,.X (fQN q') 2)::(14,.Z (jA ((q').den)))::(15,.Z (fNV ((q').den:Int)))::(16,.s (zKu (m+m') [(q).num,((q').den:Int)]))::(17,.Z (fNV ((q).num*((q').den:Int))))::(18,.s (wL b' (cg (fQN q'))))::(19,.Y (fQN q'))::(20,.X (fQN q') 0)::(21,.X (fQN q') 0)::(22,.Z (fNV ((q').num)))::(23,.s (wL b (cg (fQN q))))::(24,.Y (fQN q))::(25,.X (fQN q) 0)::(26,.X (fQN q) 2)::(27,.Z (jA ((q).den)))::(28,.Z (fNV ((q).den:Int)))::(29,.s (zKu (m+m') [(q').num,((q).den:Int)]))::(30,.Z (fNV ((q').num*((q).den:Int))))::(31,.s (zKu (m+m') [((q).num*((q').den:Int)),((q').num*((q).den:Int))]))::(32,.u (fNV (((q).num*((q').den:Int))+((q').num*((q).den:Int)))))::(33,.Z (wB (pO b 0)))::(34,.Z (wB (pO b 0)))::(35,.u (wB (pO b 0))):: []) hmix s kH
  (oc (zC (fun _ _ _ h=>h.1))<|oc zC<|oc (qC (C:=cg (fQN q)))<|oc (zL (C:=cg (fQN q)) 0 kH)<|oc (qB (C:=cg (fQN q)) 0 0 kH)<|oc (zT (C:=cg (fQN q)) (k:=0) 2 kH (h:=zBn))<|oc zC<|oc (qC (C:=cg (fQN q')))<|oc (zL (C:=cg (fQN q')) 0 kH)<|oc (qB (C:=cg (fQN q')) 0 2 kH)<|oc (jE (C:=cg (fQN q')) (k:=2) kH (h:=zA5))<|oc (zH zE zJJ (fun u0 W hb (h0:qR W u0 ((q').den))=>zF0 h0))<|oc (yI (fun u v W (hu:NV W u ((q).num)) (hv:NV W v ((q').den:Int))=>zBa (NV.uv' hu (Bd.mono (hq).1 (m':=(m+m')) (by first|omega|decide))) (NV.uv' hv (Bd.mono (q7 hq'.2) (m':=(m+m')) (by first|omega|decide)))))<|oc (zH zE zHO (fun u0 W hb (h0:ISV W (m+m') u0 [(q).num,((q').den:Int)])=>zMb (k:=((q).num*((q').den:Int))) h0 (by show (m+m')*2+(m+m')+1<=40000;omega) fN fN))<|oc zC<|oc (qC (C:=cg (fQN q')))<|oc (zL (C:=cg (fQN q')) 0 kH)<|oc (qB (C:=cg (fQN q')) 0 0 kH)<|oc (zT (C:=cg (fQN q')) (k:=0) 2 kH (h:=zBn))<|oc zC<|oc (qC (C:=cg (fQN q)))<|oc (zL (C:=cg (fQN q)) 0 kH)<|oc (qB (C:=cg (fQN q)) 0 2 kH)<|oc (jE (C:=cg (fQN q)) (k:=2) kH (h:=zA5))<|oc (zH zE zJJ (fun u0 W hb (h0:qR W u0 ((q).den))=>zF0 h0))<|oc (yI (fun u v W (hu:NV W u ((q').num)) (hv:NV W v ((q).den:Int))=>zBa (NV.uv' hu (Bd.mono (hq').1 (m':=(m+m')) (by first|omega|decide))) (NV.uv' hv (Bd.mono (q7 hq.2) (m':=(m+m')) (by first|omega|decide)))))<|oc (zH zE zHO (fun u0 W hb (h0:ISV W (m+m') u0 [(q').num,((q).den:Int)])=>zMb (k:=((q').num*((q).den:Int))) h0 (by show (m+m')*2+(m+m')+1<=40000;omega) fN fN))<|oc (yI (fun u v W (hu:NV W u ((q).num*((q').den:Int))) (hv:NV W v ((q').num*((q).den:Int)))=>zBa (NV.uv' hu (Bd.mono (Bd.mul (hq).1 (q7 hq'.2)) oO)) (NV.uv' hv (Bd.mono (Bd.mul (hq').1 (q7 hq.2)) oO))))<|oc (zH zE zT7 (fun u0 W hb (h0:ISV W (m+m') u0 [((q).num*((q').den:Int)),((q').num*((q).den:Int))])=>zVX (k:=(((q).num*((q').den:Int))+((q').num*((q).den:Int)))) h0 oO fN fN))<|oc (jZ (a:=⟨b,0,none⟩) iiz)<|oc (y9 (b:=b) (o:=0) 0 kH iiz)<|oc (y9 (b:=b) (o:=0) 0 kH iiz)<|zD) fun Q' hQ a w1 s=> ?_
 refine q6 (c:=0) (o:=0) (kk:=2) (wC (fQK (((q).num*((q').den:Int))+((q').num*((q).den:Int))) ((q).den))) ((fNV (((q).num*((q').den:Int))+((q').num*((q).den:Int)))).tS) rfl s kH rfl rfl iiz iiz (zIa (k0:=q.num) (d:=q.den)) fun a w s=> ?_
 refine zA rfl (hQ _ _ ?_)
 refine zXg ?_
 refine z9 [0,1,6] 15 ((36,.Z (wB (pO b 0)))::(37,.s (wL b (cg (fQK (((q).num*((q').den:Int))+((q').num*((q).den:Int))) ((q).den)))))::(38,.Y (fQK (((q).num*((q').den:Int))+((q').num*((q).den:Int))) ((q).den)))::(39,.X (fQK (((q).num*((q').den:Int))+((q').num*((q).den:Int))) ((q).den)) 0)::(40,.X (fQK (((q).num*((q').den:Int))+((q').num*((q).den:Int))) ((q).den)) 2)::(41,.Z (jA ((q).den)))::(42,.s (wL b' (cg (fQN q'))))::(43,.Y (fQN q'))::(44,.X (fQN q') 0)::(45,.X (fQN q') 2)::(46,.Z (jA ((q').den)))::(47,.u (jA (((q).den)*((q').den))))::(48,.Z (wB (pO b 0)))::(49,.Z (wB (pO b 0)))::(50,.u (wB (pO b 2))):: []) hmix s kH
  (oc (zC (fun _ _ _ h=>h.1))<|oc zC<|oc (qC (C:=cg (fQK (((q).num*((q').den:Int))+((q').num*((q).den:Int))) ((q).den))))<|oc (zL (C:=cg (fQK (((q).num*((q').den:Int))+((q').num*((q).den:Int))) ((q).den))) 0 kH)<|oc (qB (C:=cg (fQK (((q).num*((q').den:Int))+((q').num*((q).den:Int))) ((q).den))) 0 2 kH)<|oc (jE (C:=cg (fQK (((q).num*((q').den:Int))+((q').num*((q).den:Int))) ((q).den))) (k:=2) kH (h:=zTe))<|oc zC<|oc (qC (C:=cg (fQN q')))<|oc (zL (C:=cg (fQN q')) 0 kH)<|oc (qB (C:=cg (fQN q')) 0 2 kH)<|oc (jE (C:=cg (fQN q')) (k:=2) kH (h:=zA5))<|oc (zI zE zQr (fun u0 u1 W hb (h0:qR W u0 ((q).den)) (h1:qR W u1 ((q').den))=>zTv (LV.mono (qR.lv h0 hq.2) (m':=(m+m')) oO) (LV.mono (qR.lv h1 hq'.2) (m':=(m+m')) oO) oO))<|oc (jZ (a:=⟨b,0,none⟩) iiz)<|oc (y9 (b:=b) (o:=0) 0 kH iiz)<|oc (y9 (b:=b) (o:=0) 2 kH iiz)<|zD) fun Q' hQ a w2 s=> ?_
 refine q6 (c:=0) (o:=2) (kk:=1) (wC (fQK (((q).num*((q').den:Int))+((q').num*((q).den:Int))) (((q).den)*((q').den)))) ((jA (((q).den)*((q').den))).tS) rfl s kH rfl rfl iiz iiz zKY fun a w s=> ?_
 refine zA rfl (hQ _ _ ?_)
 refine zB 1 ((51,.u (wB (pO b 0))):: []) hmix s kH
  (oc (zC (fun _ _ _ h=>h.1))<|zD) fun a w3 s=> ?_
 refine zF4 (c:=0) (wC (fQN (mkRat (((q).num*((q').den:Int))+((q').num*((q).den:Int))) ((q).den*(q').den)))) (UF.any) rfl zE zMX s kH rfl rfl iiz (fun cs h1 h2=> ?_) fun a w s=> ?_
 ·exact (zE3 (m:=m+m'+1) h1 (zTd h2 bk (zXq (hq.den_mul hq') (zXt y7 oO))) oO (hT.bls hh (zIk (zIm hc hq)) s.gr)).mono fun e w' ⟨v,g1,_,g2⟩=>⟨v,g1,trivial,g2⟩
 refine zA rfl ?_
 exact vF s (c:=0) (C:=wC (fQN (mkRat (((q).num*((q').den:Int))+((q').num*((q).den:Int))) ((q).den*(q').den)))) rfl rfl rfl rfl (fun _=>trivial)
theorem zOB (hh:W.heap[b]?=some (.cells cs.toArray 127 (0,0))) (hc:QNp q (.agg cs.toArray) W) (hh':W.heap[b']?=some (.cells cs'.toArray 127 (0,0))) (hc':QNp q' (.agg cs'.toArray) W) (hne:b'≠b) (hq:QB q m) (hq':QB q' m') (hm:m+m'+1<=2000) (hT:Tab W):Calls prog 130 #[pO b 0,pO b' 0] W (zKD W b 127 (wC (fQN (q*q'))) SF.any):=by
 have bk:Bd ((q).num*(q').num) (m+m'+1):=(hq.1.mul hq'.1).mono oO
 rw [Rat.mul_def']
 refine zE0 b [(0,wB (pO b 0)),(1,wB (pO b' 0))] [⟨0,127,wC (fQN q),b,false⟩,⟨1,127,wC (fQN q'),b',true⟩] func130 rfl kH (fun x hx=>by simp at hx;rcases hx with rfl|rfl<;>exact ⟨by simp,rfl⟩) ⟨⟨cs,rfl,.inr (.inr rfl),hh,hc,zBX (zIm hc hq),fun y hy=>by simp at hy;subst hy;exact .inl hne⟩,⟨cs',rfl,.inl rfl,hh',hc',zBX (zIm hc' hq'),fun y hy=>by cases hy⟩,trivial⟩ (fun x hx=>by simp at hx;rcases hx with rfl|rfl<;>simp) fun a s=> ?_
 refine zXg ?_
 refine z9 [0,1,2,7,14,19] 28 ((4,.Z (wB (pO b 0)))::(5,.u (wB (pO b 0)))::(6,.s (wL b (cg (fQN q))))::(7,.Y (fQN q))::(8,.X (fQN q) 0)::(9,.X (fQN q) 0)::(10,.Z (fNV ((q).num)))::(11,.s (wL b' (cg (fQN q'))))::(12,.Y (fQN q'))::(13,.X (fQN q') 0)::(14,.X (fQN q') 0)::(15,.Z (fNV ((q').num)))::(16,.s (zKu (m+m') [(q).num,(q').num]))::(17,.u (fNV ((q).num*(q').num)))::(18,.s (wL b (cg (fQN q))))::(19,.Y (fQN q))::(20,.X (fQN q) 0)::(21,.X (fQN q) 2)::(22,.Z (jA ((q).den)))::(23,.s (wL b' (cg (fQN q'))))::(24,.Y (fQN q'))::(25,.X (fQN q') 0)::(26,.X (fQN q') 2)::(27,.Z (jA ((q').den)))::(28,.u (jA (((q).den)*((q').den))))::(29,.Z (wB (pO b 0)))::(30,.Z (wB (pO b 0)))::(31,.u (wB (pO b 0))):: []) hmix s kH
  (oc (zC (fun _ _ _ h=>h.1))<|oc (zC (fun _ _ _ h=>h.1))<|oc zC<|oc (qC (C:=cg (fQN q)))<|oc (zL (C:=cg (fQN q)) 0 kH)<|oc (qB (C:=cg (fQN q)) 0 0 kH)<|oc (zT (C:=cg (fQN q)) (k:=0) 2 kH (h:=zBn))<|oc zC<|oc (qC (C:=cg (fQN q')))<|oc (zL (C:=cg (fQN q')) 0 kH)<|oc (qB (C:=cg (fQN q')) 0 0 kH)<|oc (zT (C:=cg (fQN q')) (k:=0) 2 kH (h:=zBn))<|oc (yI (fun u v W (hu:NV W u ((q).num)) (hv:NV W v ((q').num))=>zBa (NV.uv' hu (Bd.mono (hq).1 (m':=(m+m')) (by first|omega|decide))) (NV.uv' hv (Bd.mono (hq').1 (m':=(m+m')) (by first|omega|decide)))))<|oc (zH zE zHO (fun u0 W hb (h0:ISV W (m+m') u0 [(q).num,(q').num])=>zMb (k:=((q).num*(q').num)) h0 (by show (m+m')*2+(m+m')+1<=40000;omega) fN fN))<|oc zC<|oc (qC (C:=cg (fQN q)))<|oc (zL (C:=cg (fQN q)) 0 kH)<|oc (qB (C:=cg (fQN q)) 0 2 kH)<|oc (jE (C:=cg (fQN q)) (k:=2) kH (h:=zA5))<|oc zC<|oc (qC (C:=cg (fQN q')))<|oc (zL (C:=cg (fQN q')) 0 kH)<|oc (qB (C:=cg (fQN q')) 0 2 kH)<|oc (jE (C:=cg (fQN q')) (k:=2) kH (h:=zA5))<|oc (zI zE zQr (fun u0 u1 W hb (h0:qR W u0 ((q).den)) (h1:qR W u1 ((q').den))=>zTv (LV.mono (qR.lv h0 hq.2) (m':=(m+m')) oO) (LV.mono (qR.lv h1 hq'.2) (m':=(m+m')) oO) oO))<|oc (jZ (a:=⟨b,0,none⟩) iiz)<|oc (y9 (b:=b) (o:=0) 0 kH iiz)<|oc (y9 (b:=b) (o:=0) 0 kH iiz)<|zD) fun Q' hQ a w1 s=> ?_
 refine q6 (c:=0) (o:=0) (kk:=2) (wC (fQK ((q).num*(q').num) ((q).den))) ((fNV ((q).num*(q').num)).tS) rfl s kH rfl rfl iiz iiz (zIa (k0:=q.num) (d:=q.den)) fun a w s=> ?_
 refine zAS (wB (pO b 0)) rfl s kH (jZ (a:=⟨b,0,none⟩) iiz) kH fun a w s=> ?_
 refine zAS (wB (pO b 0)) rfl s kH (y9 (b:=b) (o:=0) 0 kH iiz) kH fun a w s=> ?_
 refine zAS (wB (pO b 2)) rfl s kH (y9 (b:=b) (o:=0) 2 kH iiz) kH fun a w s=> ?_
 refine q6 (c:=0) (o:=2) (kk:=1) (wC (fQK ((q).num*(q').num) (((q).den)*((q').den)))) ((jA (((q).den)*((q').den))).tS) rfl s kH rfl rfl iiz iiz zKY fun a w s=> ?_
 refine zA rfl (hQ _ _ ?_)
 refine zB 1 ((35,.u (wB (pO b 0))):: []) hmix s kH
  (oc (zC (fun _ _ _ h=>h.1))<|zD) fun a w2 s=> ?_
 refine zF4 (c:=0) (wC (fQN (mkRat ((q).num*(q').num) ((q).den*(q').den)))) (UF.any) rfl zE zMX s kH rfl rfl iiz (fun cs h1 h2=> ?_) fun a w s=> ?_
 ·exact (zE3 (m:=m+m'+1) h1 (zTd h2 bk (zXq (hq.den_mul hq') (zXt y7 oO))) oO (hT.bls hh (zIk (zIm hc hq)) s.gr)).mono fun e w' ⟨v,g1,_,g2⟩=>⟨v,g1,trivial,g2⟩
 refine zA rfl ?_
 exact vF s (c:=0) (C:=wC (fQN (mkRat ((q).num*(q').num) ((q).den*(q').den)))) rfl rfl rfl rfl (fun _=>trivial)
theorem zJ6 (h:RVp m q v W) (hm:m<=2000) (hT:Tab W):Calls prog 101 #[v] W (Ret W (wM W 127 (wC (fQN q)))):=by
 obtain ⟨k,d,h1,rfl⟩:=h
 exact zUR h1 hm hT
theorem zLl (h:RVp m q v W) (hm:m<=2000) (hm0:0<m) (hT:Tab W):Calls prog 81 #[v] W (Ret W (fQN q).tS):=by
 have hq:QB q m:=h.qb hm0
 refine z7 [(fRV m q).tS] func81 rfl kH ⟨h,trivial⟩ fun a s=> ?_
 refine zXg ?_
 refine zB 0 [] hmix s kH
  zD fun a w1 s=> ?_
 refine yG (wC (fRV m q)) rfl s kH (fun v W h=>jW h) fun b1 a w s=> ?_
 refine zZ (CU.len 3) (cs:=zR3) kH rfl s kH (fun W=>rfl) rfl fun b2 a w s=> ?_
 refine zA rfl ?_
 refine zXg ?_
 refine zB 5 ((3,.Z (fRV m q))::(4,.s (wM w 127 (wC (fQN q))))::(5,.Y (fQN q))::(6,.X (fQN q) 0)::(7,.u (fQN q)):: []) hmix s kH
  (oc (zJ (f:=fRV m q) 3 kH (hz:=qM _ _))<|oc (zH zE zHP (fun u0 W hb (h0:RVp m q u0 W)=>(zJ6 h0 oO (hT.below (s.up hb))).mono (wI (zBZ hb.size))))<|oc (qC (C:=cg (fQN q)) zFS)<|oc (zL (C:=cg (fQN q)) 0 kH)<|oc (zT (C:=cg (fQN q)) (k:=0) 3 kH (h:=zJf))<|zD) fun a w2 s=> ?_
 refine zS (wC (fQN q)) ((fQN q).tS) rfl s kH rfl rfl rfl iiz iiz yN fun a w s=> ?_
 refine zA rfl ?_
 refine zXh ?_
 exact wH s (wC (fQN q)) rfl kH rfl rfl (jC _) (fun cs W h=>h)
theorem zRl (h:RVp m q v W) (hm:m<=2000) (hm0:0<m) (hT:Tab W):Calls prog 87 #[v] W (Ret W (fI q.num.sign).tS):=by
 have hq:QB q m:=h.qb hm0
 refine z7 [(fRV m q).tS] func87 rfl kH ⟨h,trivial⟩ fun a s=> ?_
 refine zXg ?_
 refine zB 0 [] hmix s kH
  zD fun a w1 s=> ?_
 refine yG (wC (fRV m q)) rfl s kH (fun v W h=>jW h) fun b1 a w s=> ?_
 refine yP (uI 0) rfl s kH iiz fun a w s=> ?_
 refine zA rfl ?_
 refine zXg ?_
 replace s:=s.drop [2]
 refine zB 8 ((3,.Z (fRV m q))::(4,.s (wM w 127 (wC (fQN q))))::(5,.Y (fQN q))::(6,.X (fQN q) 0)::(7,.X (fQN q) 0)::(8,.Z (fNV ((q).num)))::(9,.Z (uI (q.num.sign)))::(2,.u (uI (q.num.sign))):: []) hmix s kH
  (oc (zJ (f:=fRV m q) 3 kH (hz:=qM _ _))<|oc (zH zE zHP (fun u0 W hb (h0:RVp m q u0 W)=>(zJ6 h0 oO (hT.below (s.up hb))).mono (wI (zBZ hb.size))))<|oc (qC (C:=cg (fQN q)) zFS)<|oc (zL (C:=cg (fQN q)) 0 kH)<|oc (qB (C:=cg (fQN q)) 0 0 kH)<|oc (zT (C:=cg (fQN q)) (k:=0) 2 kH (h:=zBn))<|oc (zH zE zT9 (fun u0 W hb (h0:NV W u0 ((q).num))=>zEM (zSU (NV.uv' h0 (hq).1) oO)))<|oc zG<|zD) fun a w2 s=> ?_
 refine zA rfl ?_
 refine zXh ?_
 exact wG s (t:=2) rfl iiz
theorem zEn (h:RVp m q v W) (h':RVp m q' v' W) (hm:m<=2000) (hm0:0<m) (hT:Tab W):Calls prog 80 #[v,v'] W (Ret W (fI (qsg q q')).tS):=by
 have hq:QB q m:=h.qb hm0
 have hq':QB q' m:=h'.qb hm0
 refine z7 [(fRV m q).tS,(fRV m q').tS] func80 rfl kH ⟨h,h',trivial⟩ fun a s=> ?_
 refine zXg ?_
 refine zB 0 [] hmix s kH
  zD fun a w1 s=> ?_
 refine yG (wC (fRV m q)) rfl s kH (fun v W h=>jW h) fun b2 a w s=> ?_
 refine yG (wC (fRV m q')) rfl s kH (fun v W h=>jW h) fun b3 a w s=> ?_
 refine yP (uI 0) rfl s kH iiz fun a w s=> ?_
 refine zA rfl ?_
 refine zXg ?_
 have so:=s.old;have sg:=s.gr
 refine qS 6 ((7,.Z (fRV m q))::(8,.s (wM w 127 (wC (fQN q))))::(9,.Z (fRV m q'))::(10,.s (wM w 127 (wC (fQN q'))))::(5,.s (wM w 127 (wC (fQN q))))::(6,.s (wM w 127 (wC (fQN q')))):: []) hmix s kH
  (oc (zJ (f:=fRV m q) 3 kH (hz:=qM _ _))<|oc (zH zE zHP (fun u0 W hb (h0:RVp m q u0 W)=>(zJ6 h0 oO (hT.below (s.up hb))).mono (wI (zBZ hb.size))))<|oc (zJ (f:=fRV m q') 3 kH (hz:=qM _ _))<|oc (zH zE zHP (fun u0 W hb (h0:RVp m q' u0 W)=>(zJ6 h0 oO (hT.below (s.up hb))).mono (wI (zBZ hb.size))))<|oc zG<|oc zG<|zD) fun a w2 s hr=> ?_
 obtain ⟨b5,_,s⟩:=s.adopt true 5 (hr (_,_) mz4) sg (fun y hy=> .inl (so y hy))
 obtain ⟨b6,_,s⟩:=s.adopt true 6 (hr (_,_) mz5) sg (fun y hy=>by rcases List.mem_cons.1 hy with rfl|hy;exact .inr ⟨rfl,rfl⟩;exact .inl (so y hy))
 refine zA rfl ?_
 refine zXg ?_
 replace s:=s.drop [4]
 refine zB 28 ((11,.s (wL b5 (cg (fQN q))))::(12,.Y (fQN q))::(13,.X (fQN q) 0)::(14,.X (fQN q) 0)::(15,.Z (fNV ((q).num)))::(16,.s (wL b6 (cg (fQN q'))))::(17,.Y (fQN q'))::(18,.X (fQN q') 0)::(19,.X (fQN q') 2)::(20,.Z (jA ((q').den)))::(21,.Z (fNV ((q').den:Int)))::(22,.s (zKu (m+m) [(q).num,((q').den:Int)]))::(23,.Z (fNV ((q).num*((q').den:Int))))::(24,.s (wL b6 (cg (fQN q'))))::(25,.Y (fQN q'))::(26,.X (fQN q') 0)::(27,.X (fQN q') 0)::(28,.Z (fNV ((q').num)))::(29,.s (wL b5 (cg (fQN q))))::(30,.Y (fQN q))::(31,.X (fQN q) 0)::(32,.X (fQN q) 2)::(33,.Z (jA ((q).den)))::(34,.Z (fNV ((q).den:Int)))::(35,.s (zKu (m+m) [(q').num,((q).den:Int)]))::(36,.Z (fNV ((q').num*((q).den:Int))))::(37,.Z (uI (qsg q q')))::(4,.u (uI (qsg q q'))):: []) hmix s kH
  (oc zC<|oc (qC (C:=cg (fQN q)))<|oc (zL (C:=cg (fQN q)) 0 kH)<|oc (qB (C:=cg (fQN q)) 0 0 kH)<|oc (zT (C:=cg (fQN q)) (k:=0) 2 kH (h:=zBn))<|oc zC<|oc (qC (C:=cg (fQN q')))<|oc (zL (C:=cg (fQN q')) 0 kH)<|oc (qB (C:=cg (fQN q')) 0 2 kH)<|oc (jE (C:=cg (fQN q')) (k:=2) kH (h:=zA5))<|oc (zH zE zJJ (fun u0 W hb (h0:qR W u0 ((q').den))=>zF0 h0))<|oc (yI (fun u v W (hu:NV W u ((q).num)) (hv:NV W v ((q').den:Int))=>zBa (NV.uv' hu (Bd.mono (hq).1 (m':=(m+m)) (by first|omega|decide))) (NV.uv' hv (Bd.mono (q7 hq'.2) (m':=(m+m)) (by first|omega|decide)))))<|oc (zH zE zHO (fun u0 W hb (h0:ISV W (m+m) u0 [(q).num,((q').den:Int)])=>zMb (k:=((q).num*((q').den:Int))) h0 (by show (m+m)*2+(m+m)+1<=40000;omega) fN fN))<|oc zC<|oc (qC (C:=cg (fQN q')))<|oc (zL (C:=cg (fQN q')) 0 kH)<|oc (qB (C:=cg (fQN q')) 0 0 kH)<|oc (zT (C:=cg (fQN q')) (k:=0) 2 kH (h:=zBn))<|oc zC<|oc (qC (C:=cg (fQN q)))<|oc (zL (C:=cg (fQN q)) 0 kH)<|oc (qB (C:=cg (fQN q)) 0 2 kH)<|oc (jE (C:=cg (fQN q)) (k:=2) kH (h:=zA5))<|oc (zH zE zJJ (fun u0 W hb (h0:qR W u0 ((q).den))=>zF0 h0))<|oc (yI (fun u v W (hu:NV W u ((q').num)) (hv:NV W v ((q).den:Int))=>zBa (NV.uv' hu (Bd.mono (hq').1 (m':=(m+m)) (by first|omega|decide))) (NV.uv' hv (Bd.mono (q7 hq.2) (m':=(m+m)) (by first|omega|decide)))))<|oc (zH zE zHO (fun u0 W hb (h0:ISV W (m+m) u0 [(q').num,((q).den:Int)])=>zMb (k:=((q').num*((q).den:Int))) h0 (by show (m+m)*2+(m+m)+1<=40000;omega) fN fN))<|oc (zI zE zUc (fun u0 u1 W hb (h0:NV W u0 ((q).num*((q').den:Int))) (h1:NV W u1 ((q').num*((q).den:Int)))=>zEM (zVS (NV.uv' h0 (Bd.mul (hq).1 (q7 hq'.2))) (NV.uv' h1 (Bd.mul (hq').1 (q7 hq.2))) oO)))<|oc zG<|zD) fun a w3 s=> ?_
 refine zA rfl ?_
 refine zXh ?_
 exact wG s (t:=4) rfl iiz
theorem zS3 (h:RVp m q v W) (hm:m<=2000) (hm0:0<m) (hT:Tab W):Calls prog 97 #[v] W (Ret W (fQN (-q)).tS):=by
 have hq:QB q m:=h.qb hm0
 refine z7 [(fRV m q).tS] func97 rfl kH ⟨h,trivial⟩ fun a s=> ?_
 refine zXg ?_
 refine zB 0 [] hmix s kH
  zD fun a w1 s=> ?_
 refine yG (wC (fRV m q)) rfl s kH (fun v W h=>jW h) fun b1 a w s=> ?_
 refine zZ (CU.len 3) (cs:=zR3) kH rfl s kH (fun W=>rfl) rfl fun b2 a w s=> ?_
 refine zA rfl ?_
 refine zXg ?_
 have so:=s.old;have sg:=s.gr
 refine qS 3 ((4,.Z (fRV m q))::(5,.s (wM w 127 (wC (fQN q))))::(3,.s (wM w 127 (wC (fQN q)))):: []) hmix s kH
  (oc (zJ (f:=fRV m q) 3 kH (hz:=qM _ _))<|oc (zH zE zHP (fun u0 W hb (h0:RVp m q u0 W)=>(zJ6 h0 oO (hT.below (s.up hb))).mono (wI (zBZ hb.size))))<|oc zG<|zD) fun a w2 s hr=> ?_
 obtain ⟨b3,_,s⟩:=s.adopt false 3 (hr (_,_) mz2) sg (fun y hy=> .inl (so y hy))
 refine zA rfl ?_
 refine zXg ?_
 refine zB 10 ((6,.Z (wB (pO b3 0)))::(7,.s (wL b3 (cg (fQN q))))::(8,.Y (fQN q))::(9,.X (fQN q) 0)::(10,.X (fQN q) 0)::(11,.Z (fNV ((q).num)))::(12,.u (fNV (-(q).num)))::(13,.Z (wB (pO b3 0)))::(14,.Z (wB (pO b3 0)))::(15,.u (wB (pO b3 0))):: []) hmix s kH
  (oc (zC (fun _ _ _ h=>h.1))<|oc zC<|oc (qC (C:=cg (fQN q)))<|oc (zL (C:=cg (fQN q)) 0 kH)<|oc (qB (C:=cg (fQN q)) 0 0 kH)<|oc (zT (C:=cg (fQN q)) (k:=0) 2 kH (h:=zBn))<|oc (zH zE zT8 (fun u0 W hb (h0:NV W u0 ((q).num))=>zU4 (NV.uv' h0 (hq).1) oO))<|oc (jZ (a:=⟨b3,0,none⟩) iiz)<|oc (y9 (b:=b3) (o:=0) 0 kH iiz)<|oc (y9 (b:=b3) (o:=0) 0 kH iiz)<|zD) fun a w3 s=> ?_
 refine q6 (c:=3) (o:=0) (kk:=2) (wC (fQN (-q))) ((fNV (-(q).num)).tS) rfl s kH rfl rfl iiz iiz (zIa (k0:=q.num) (d:=q.den)) fun a w s=> ?_
 refine zA rfl ?_
 refine zXg ?_
 refine zB 4 ((16,.s (wL b3 (cg (fQN (-q)))))::(17,.Y (fQN (-q)))::(18,.X (fQN (-q)) 0)::(19,.u (fQN (-q))):: []) hmix s kH
  (oc zC<|oc (qC (C:=cg (fQN (-q))))<|oc (zL (C:=cg (fQN (-q))) 0 kH)<|oc (zT (C:=cg (fQN (-q))) (k:=0) 3 kH (h:=zJf))<|zD) fun a w4 s=> ?_
 refine zS (wC (fQN (-q))) ((fQN (-q)).tS) rfl s kH rfl rfl rfl iiz iiz yN fun a w s=> ?_
 refine zA rfl ?_
 refine zXh ?_
 exact wH s (wC (fQN (-q))) rfl kH rfl rfl (jC _) (fun cs W h=>h)
attribute [local go_sem] Oper.semAt_some qG yH
structure QRd (m:Nat) (w:World) (A:Option Addr) (n:Nat) (qs:List Rat):Prop where
 len:qs.length=n
 cells: ∀i,i<n-> ∃b o c0 c1 c2 q,A=some ⟨b,o,none⟩/\w.cell? ⟨b,o+i*3,none⟩=some c0/\w.cell? ⟨b,o+i*3+1,none⟩=some c1/\w.cell? ⟨b,o+i*3+2,none⟩=some c2/\qs[i]?=some q/\RVp m q (.agg #[c0,c1,c2]) w
theorem RVp.keep (h:RVp m q v w) (hk: ∀p:Addr,p.block<w.heap.size->w'.cell? p=w.cell? p):RVp m q v w':=by
 obtain ⟨k,d,⟨b,s,t,e,⟨sg,A,n,c,l,e1,h1,h2⟩,A',n',c',l',e2,h1',h2'⟩,h3⟩:=h
 exact ⟨k,d,⟨b,s,t,e,⟨sg,A,n,c,l,e1,h1.keep hk,h2⟩,A',n',c',l',e2,h1'.keep hk,h2'⟩,h3⟩
theorem QRd.keep (h:QRd m w A n qs) (hk: ∀p:Addr,p.block<w.heap.size->w'.cell? p=w.cell? p):QRd m w' A n qs:=
 ⟨h.len,fun i hi=>by
  obtain ⟨b,o,c0,c1,c2,q,e,g0,g1,g2,h1,h2⟩:=h.cells i hi
  exact ⟨b,o,c0,c1,c2,q,e,(hk _ (zXR w _ g0)).trans g0,(hk _ (zXR w _ g1)).trans g1,(hk _ (zXR w _ g2)).trans g2,h1,h2.keep hk⟩⟩
theorem QRd.below (h:QRd m w A n qs) (hb:bW w w'):QRd m w' A n qs:=h.keep fun _ hp=>hb.cell hp
theorem RVp.below (h:RVp m q v w) (hb:bW w w'):RVp m q v w':=h.keep fun _ hp=>hb.cell hp
def qAt (qs:List Rat) (k:Nat):Rat:=(qs[k]?).getD 0
def zQK (W:Wi) (B:Nat) (q:Rat):Prop:= ∃cs:List Wj,W.heap[B]?=some (.cells cs.toArray 127 (0,0))/\QNp q (.agg cs.toArray) W
theorem QNp.keepU (h:QNp q v w) (hk:jK w w'):QNp q v w':=(fQN q).us _ _ _ h hk
def zWT (N0:Nat) (qs:List Rat) (k:Nat) (xs:Array Wj) (W:Wi):Prop:= ∃B,xs=#[pO B 0]/\N0<=B/\zQK W B (qAt qs k)
theorem zJh (A:Wl Addr) (n c:Nat) (w:Wi):
  Calls prog 99 #[.slice A n c] w fun e w'=>e= .returned (.func (.func 119) #[] #[pO w.heap.size 0])/\w'=w.alloc (.cells #[.slice A n c] 55):=by
 go_enter func99,ntmps99
 go_wp2
 go_ret
 exact ⟨rfl,rfl⟩
theorem zUS {c0 c1 c2:Wj} (h:RVp m q (.agg #[c0,c1,c2]) W) (hm:m<=2000) (hT:Tab W):Calls prog 101 #[.agg #[c0,c1,c2]] W fun e w'=> ∃B,e= .returned (pO B 0)/\W.heap.size<=B/\zQK w' B q/\bW W w':=
 (zJ6 h hm hT).mono fun _ _ ⟨_,e1,⟨B,cs,e2,h1,h2,h3,_⟩,hb⟩=>⟨B,by rw [e1,e2],h1,⟨cs,h2,h3⟩,hb⟩
theorem zFP (m:Nat) (hm:m<=2000) (A:Wl Addr) (n c:Nat) (qs:List Rat) (b1:Nat) (w w0:Wi) (h:QRd m w A n qs) (hT:Tab w) (hw0:bW w w0) (hn:n<=c) (hc:c<=9223372036854775807)
  (hc1:w0.cell? ⟨b1,0,none⟩=some (.slice A n c)) {S:Nat->Prop} (hS: ∀b,S b->b<w0.heap.size) (_hS1:S b1) (hSA: ∀b,b<w.heap.size->S b):
  zPx prog 119 #[pO b1 0] (zWT w0.heap.size qs) n (zFv S) Mk (fun _=>True) w0:=by
 intro lp J W hW hJ hY h0
 have hl1:=z4 hc1
 have hw1:=(hW.cell (p:=⟨b1,0,none⟩) hl1).trans hc1
 refine zBt func119 rfl ?_
 simp only [ntmps119,zXS,zXT,zXU,Nat.reduceAdd,Nat.reduceSub,zXV,zXW,zXX,zXY,zXx,zXZ]
 gi_wp2
 gi_loopw [7] (fun i wr=> ∃k:Nat,k<=n/\i= .int .i64 k/\J k wr/\yY S w0 wr/\w0.heap.size<=wr.heap.size) (fun i _=>n - (intOf i).toNat)
 case atStart=>exact ⟨0,zXn _,rfl,h0,wT hW hS,hW.size⟩
 case round=>
  obtain ⟨k,hk,rfl,hj,hb,hz⟩:=hrel
  by_cases hkn:k<n
  ·have hkeep: ∀p:Addr,p.block<w.heap.size->wr.cell? p=w.cell? p:=fun p hp=>(hb.cell (hSA _ hp)).trans (hw0.cell hp)
   obtain ⟨b,o,c0,c1,c2,q,rfl,p0,p1,p2,hi,hr⟩:=(h.keep (w':=wr) hkeep).cells k hkn
   have hTr:Tab wr:=fun j hj=>(hkeep ⟨0,j,none⟩ (z4 (hT j hj))).trans (hT j hj)
   have hid1:qAt qs k=q:=by simp [qAt,hi]
   have hjk:=hJ k wr
   have hHI:=hid hi
   clear hi
   obtain ⟨sg,A1,n1,d1,A2,n2,d2,rfl,rfl,rfl⟩: ∃sg A1 n1 d1 A2 n2 d2,c0= .bool sg/\c1= .slice A1 n1 d1/\c2= .slice A2 n2 d2:=by
    obtain ⟨k',d',hq,_⟩:=hr
    obtain ⟨sg,A1,n1,d1,A2,n2,d2,e⟩:=zBR hq
    have:=zXv Array.toList (jH e)
    simp at this
    exact ⟨sg,A1,n1,d1,A2,n2,d2,this.1,this.2.1,this.2.2⟩
   gi_wp2_with (first|(gi_at_call 101;refine CallsIn.mono (callsIn_wide.2 (zUS (hr.below (zCg _ _)) hm (hTr.below (zCg _ _)))) ?_;rintro e w2 ⟨B2,rfl,hB2,hn2,hb2⟩;have hmk:Mk wr w2:=((zXl _ wr).alloc lr _).trans (hb2.mono fN);obtain ⟨fn,tmps,assign,body,hy,hR⟩:=hY k w2 #[pO B2 0] hkn (hjk _ hj hmk) ⟨B2,rfl,zXp hz (zXp fN hB2),by rw [hid1];exact hn2⟩)|(refine hR.mono ?_;rintro e W3 ⟨rfl,hJ3,hk3⟩))
   refine ⟨⟨k+1,by omega,rfl,hJ3,(hb.trans (wT hmk fun b hb=>zXq (hS b hb) hz)).trans hk3.1,zXp hz (zXp hmk.size hk3.2)⟩, ?_⟩
   simp [intOf]
   omega
  ·obtain rfl:k=n:=by omega
   gi_wp2
   go_end0
   exact ⟨⟨_,rfl⟩,hj,trivial⟩
def zDp (qs:List Rat):Nat->Rat
 |0=>0
 |k+1=>zDp qs k+qAt qs k
def jB (qs:List Rat):Nat->Rat
 |0=>1
 |k+1=>jB qs k*qAt qs k
def zSs (w:Wi) (B0 P:Nat) (f:Nat->Rat) (k:Nat) (W:Wi):Prop:=
 zQK W B0 (f k)/\Boxed W P 125 (pO B0 0)/\q9 W w.heap.size 28 #[.bool false, sN, sN]/\bW w W/\P+2<=W.heap.size/\w.heap.size<B0
theorem zQK.abide {W':Wi} {C:Nat} {row:Wl Nat} (h:zQK W B q) (hg:W.grownBy W' row) (hr: ∀r,row=some r->C<=r/\ ∃o,W.heap[r]?=some o/\o.isCells=false):zQK W' B q:=by
 obtain ⟨cs,h1,h2⟩:=h
 have hk:jK W W':=fun p x hp=>zFV hp hg hr
 refine ⟨cs,(hg.block _ (Array.getElem?_eq_some_iff.1 h1).1 fun e=> ?_).trans h1,h2.keepU hk⟩
 obtain ⟨_,o,ho,hc⟩:=hr _ e.symm
 rw [h1] at ho
 cases ho
 cases hc
theorem zDw (w:Wi) (B0 P:Nat) (f:Nat->Rat) {C:Nat} (hC:w.heap.size<=C):OwnFrom C (zSs w B0 P f):=by
 rintro k W W' row ⟨h1,h2,h3,h4,h5,h6⟩ hg hr
 exact ⟨h1.abide hg hr,qT h2 hg hr,h3.abide hg hr,zAn h4 hg lr hC hr,zXp h5 hg.size,h6⟩
theorem zN6 (m M:Nat) (A:Wl Addr) (n c:Nat) (qs:List Rat) (w:Wi) (h:QRd m w A n qs) (hn:n<=c) (hc:c<=9223372036854775807) (hm:m<=2000) (hm0:0<m) (hM:M+m+1<=2000) (hp: ∀k,k<=n->QB (zDp qs k) M) (hT:Tab w):
  Calls prog 77 #[.slice A n c] w (Ret w (fQN (zDp qs n)).tS):=by
 refine q8 func77 rfl ?_
 simp only [ntmps77,zXS,zXT,zXU,Nat.reduceAdd,Nat.reduceSub,zXV,zXW,zXX,zXY,zXx,zXZ]
 go_wp2_with (first|(go_at_call 73;refine (zN1 0 dA).mono ?_;rintro e w1 ⟨v1,rfl,hv1,hb1⟩;obtain ⟨A1,n1,c1,A2,n2,c2,rfl⟩:=zCu hv1)|(go_at_call 99;refine (zJh A n c _).mono ?_;rintro e w3 ⟨rfl,rfl⟩))
 have hv2:QNp 0 (.agg #[.bool false,.slice A1 n1 c1,.slice A2 n2 c2]) w1:=hv1
 obtain ⟨W0,hW0⟩: ∃W0,(((w1.alloc (.cells #[.bool false,.slice A1 n1 c1,.slice A2 n2 c2] 127)).alloc (.cells #[pO w1.heap.size 0] 125)).alloc (.cells #[.slice A n c] 55))=W0:=⟨_,rfl⟩
 have hsz:W0.heap.size=w1.heap.size+3:=by rw [<-hW0];simp
 have hbw1:bW w w1:=((zXl _ w).alloc lr _).trans (hb1.mono fN)
 have hsz1:w.heap.size<w1.heap.size:=zXq fN hb1.size
 have hb01:bW w1 W0:=by rw [<-hW0];exact (((zXl _ w1).alloc lr _).alloc fN _).alloc (by simp;omega) _
 have hB1:bW w W0:=hbw1.trans (hb01.mono hbw1.size)
 have x0:zQK W0 w1.heap.size 0:=⟨[_,_,_],(by rw [<-hW0];exact ((q9.new w1 _ #[.bool false,.slice A1 n1 c1,.slice A2 n2 c2]).alloc _).alloc _),hv2.keepU (zV hb01)⟩
 have x1:Boxed W0 (w1.heap.size+1) 125 (pO w1.heap.size 0):=by rw [<-hW0];exact (zAs _ _ _ fN).alloc _
 have x2:Boxed W0 (w1.heap.size+1+1) 55 (.slice A n c):=by rw [<-hW0];exact zAs _ _ _ fN
 have x3:q9 W0 w.heap.size 28 #[.bool false, sN, sN]:=(q9.kept (q9.kept (q9.new w _ _) hb1) hb01)
 rw [hW0]
 clear hW0
 have hSb: ∀b,(b<w.heap.size∨b=w1.heap.size+1+1)->b<W0.heap.size:=fun b hb=>by have:=hbw1.size;omega
 refine zCl (gf:=119) rfl (enters_of func119 kH rfl) (zFP m hm A n c qs (w1.heap.size+1+1) w W0 h hT hB1 hn hc x2.cell (S:=fun b=>b<w.heap.size∨b=w1.heap.size+1+1) hSb (.inr rfl) (fun b hb=> .inl hb)) ?hE ?hps zFv.trans (zGB hSb)
  (zSs w w1.heap.size (w1.heap.size+1) (zDp qs)) (zDw w _ _ _ hB1.size) (zBu (zDw w _ _ _ lr)) wS (fun _ _ _ _ _ _ _ _=>trivial) ⟨x0,x1,x3,hB1,by omega,hsz1⟩
  (fun xs=>{ tmps:=#[.slice A n c,undef,pO w.heap.size 0,.pointer (some ⟨w1.heap.size+1,0,none⟩),xs.getD 0 undef,.agg #[.bool false,.slice A1 n1 c1,.slice A2 n2 c2],.agg #[.bool false,.slice A1 n1 c1,.slice A2 n2 c2],pO w1.heap.size 0,.slice A n c,.func (.func 119) #[] #[.pointer (some ⟨w1.heap.size+1+1,0,none⟩)],xs.getD 0 undef,undef,undef,undef,undef,undef,undef,undef],defers:= [] }) ?assign ?body ?done
 case hE=>
  rintro k xs W l o o' ⟨B,rfl,h1,h2⟩ ho hc
  exact ⟨B,rfl,h1,h2.abide (C:=0) (grownBy_putObj' W l o') (fun r e=>by cases e;exact ⟨zXn _,o,ho,hc⟩)⟩
 case hps=>
  rintro k xs W ⟨B,rfl,_⟩
  rfl
 case assign=>
  rintro lp k xs W K ⟨B,rfl,h1,h2⟩ hK
  gi_wp2
  exact hK
 case body=>
  rintro lp k xs W hk ⟨h1,h2,h3,h4,h5,h6⟩ ⟨B,rfl,hB,hnb⟩
  have hc2:=h2.cell
  have hne:B≠w1.heap.size:=by omega
  have hbd:=hp k (zXI hk)
  have hbd2:QB (qAt qs k) m:=by
   obtain ⟨_,_,_,_,_,q,_,_,_,_,e,hr⟩:=h.cells k hk
   rw [show qAt qs k=q from by simp [qAt,e]]
   exact hr.qb hm0
  have hTW:Tab W:=hT.below h4
  gi_wp2_with (gi_at_call 100;refine CallsIn.mono (callsIn_wide.2 (by
   obtain ⟨cs,g1,g2⟩:=h1
   obtain ⟨cs',g1',g2'⟩:=hnb
   exact zOC g1 g2 g1' g2' hne hbd hbd2 oO hTW)) ?_;rintro e w3 ⟨u,rfl,_,hg3,cs3,hh3,hc3,_⟩)
  refine ⟨(KeepsOthers.of_grownBy hg3 (fun j o e ho=>by cases e;obtain ⟨cs,g1,_⟩:=h1;rw [g1] at ho;cases ho;rfl)).from _,⟨(yY.refl _ _).grown hg3 (fun b hb=>⟨by have:=h4.size;rcases hb with hb|hb<;>omega,fun e=>by have:=zXA e;omega⟩),hg3.size⟩,⟨cs3,hh3,hc3⟩,h2.kept hg3 (fun e=>by have:=zXA e;omega),(hg3.block _ h3.lt (fun e=>by have:=zXA e;omega)).trans h3,zAM h4 hg3 h4.size oO,zXp h5 hg3.size,h6⟩
 case done=>
  rintro D W hD ⟨h1,h2,h3,h4,h5,h6⟩ _ hd
  obtain ⟨cs,hh,hq⟩:=h1
  obtain ⟨A3,n3,c3,A4,n4,c4,ecs⟩:=zCu hq
  have ecs:=zXv Array.toList (jH ecs)
  simp at ecs
  subst ecs
  obtain ⟨g0,g1,g2⟩:W.cell? ⟨w1.heap.size,0,none⟩=some (.bool (decide ((zDp qs n).num<0)))/\W.cell? ⟨w1.heap.size,0+1,none⟩=some (.slice A3 n3 c3)/\W.cell? ⟨w1.heap.size,0+2,none⟩=some (.slice A4 n4 c4):=⟨zA0 hh 0 _ rfl,zA0 hh 1 _ rfl,zA0 hh 2 _ rfl⟩
  simp only [Nat.zero_add] at g1 g2
  have hc2:=h2.cell
  have q0:W.cell? ⟨w.heap.size,0,none⟩=some (.bool false):=h3.cell 0
  have q1:W.cell? ⟨w.heap.size,1,none⟩=some (sN):=h3.cell 1
  have q2:W.cell? ⟨w.heap.size,2,none⟩=some (sN):=h3.cell 2
  have q3:=h3.frozen 0;have q4:=h3.frozen 1;have q5:=h3.frozen 2
  go_wp2
  have hb5:q9 (((W.setCell ⟨w.heap.size,0,none⟩ (.bool (decide ((zDp qs n).num<0)))).setCell ⟨w.heap.size,1,none⟩ (.slice A3 n3 c3)).setCell ⟨w.heap.size,2,none⟩ (.slice A4 n4 c4)) w.heap.size 28 #[.bool (decide ((zDp qs n).num<0)),.slice A3 n3 c3,.slice A4 n4 c4]:=((h3.set 0 _).set 1 _).set 2 _
  have hM2:Marks w.heap.size (((W.setCell ⟨w.heap.size,0,none⟩ (.bool (decide ((zDp qs n).num<0)))).setCell ⟨w.heap.size,1,none⟩ (.slice A3 n3 c3)).setCell ⟨w.heap.size,2,none⟩ (.slice A4 n4 c4)) [mark D] [D]:=((Marks.nil w.heap.size W).more (D:=D) fN (by have:=hB1.size;omega) hd).others (((zXB _ _ _).trans (zXB _ _ _)).trans (zXB _ _ _))
  have hrow: ∀(W':Wi) (i:Nat) (v u:Wj),W'.cell? ⟨w.heap.size,i,none⟩=some u->yA u=true->jK W' (W'.setCell ⟨w.heap.size,i,none⟩ v):=fun W' i v u hu hn p x hp=>(World.cell?_setCell_other _ _ _ _ (fun e=>by rw [<-e] at hp;rw [hu] at hp;cases hp;cases hn)).trans hp
  have hk3:jK W (((W.setCell ⟨w.heap.size,0,none⟩ (.bool (decide ((zDp qs n).num<0)))).setCell ⟨w.heap.size,1,none⟩ (.slice A3 n3 c3)).setCell ⟨w.heap.size,2,none⟩ (.slice A4 n4 c4)):=((hrow _ _ _ _ q0 rfl).trans (hrow _ _ _ _ ((h3.set 0 _).cell 1) rfl)).trans (hrow _ _ _ _ (((h3.set 0 _).set 1 _).cell 2) rfl)
  have hq3:=hq.keepU hk3
  have hb3:bW w (((W.setCell ⟨w.heap.size,0,none⟩ (.bool (decide ((zDp qs n).num<0)))).setCell ⟨w.heap.size,1,none⟩ (.slice A3 n3 c3)).setCell ⟨w.heap.size,2,none⟩ (.slice A4 n4 c4)):=((h4.setCell lr _).setCell lr _).setCell lr _
  generalize ((W.setCell ⟨w.heap.size,0,none⟩ (.bool (decide ((zDp qs n).num<0)))).setCell ⟨w.heap.size,1,none⟩ (.slice A3 n3 c3)).setCell ⟨w.heap.size,2,none⟩ (.slice A4 n4 c4)=W9 at*
  refine qD _ (v:= .agg #[.bool (decide ((zDp qs n).num<0)),.slice A3 n3 c3,.slice A4 n4 c4]) (fun w' ho'=> ?_) [D] _ _ hM2 (Oth.refl _ _) ?_
  ·have h7:=hb5.oth ho'
   have:=zGa (P:=prog) (w:=w') (t:=28) (k:=3) kH (vs:= [.bool (decide ((zDp qs n).num<0)),.slice A3 n3 c3,.slice A4 n4 c4]) rfl h7
   simp [results,results77,asAddr,this]
  ·intro w' ho
   exact ⟨_,rfl,hq3.keepU (fun p x hp=>(ho.cell p).trans hp),zAd hb3 ho lr⟩
theorem zN5 (m M:Nat) (A:Wl Addr) (n c:Nat) (qs:List Rat) (w:Wi) (h:QRd m w A n qs) (hn:n<=c) (hc:c<=9223372036854775807) (hm:m<=2000) (hm0:0<m) (hM:M+m+1<=2000) (hp: ∀k,k<=n->QB (jB qs k) M) (hT:Tab w):
  Calls prog 109 #[.slice A n c] w (Ret w (fQN (jB qs n)).tS):=by
 refine q8 func109 rfl ?_
 simp only [ntmps109,zXS,zXT,zXU,Nat.reduceAdd,Nat.reduceSub,zXV,zXW,zXX,zXY,zXx,zXZ]
 go_wp2_with (first|(go_at_call 73;refine (zN1 1 dA).mono ?_;rintro e w1 ⟨v1,rfl,hv1,hb1⟩;obtain ⟨A1,n1,c1,A2,n2,c2,rfl⟩:=zCu hv1)|(go_at_call 99;refine (zJh A n c _).mono ?_;rintro e w3 ⟨rfl,rfl⟩))
 have hv2:QNp 1 (.agg #[.bool false,.slice A1 n1 c1,.slice A2 n2 c2]) w1:=hv1
 obtain ⟨W0,hW0⟩: ∃W0,(((w1.alloc (.cells #[.bool false,.slice A1 n1 c1,.slice A2 n2 c2] 127)).alloc (.cells #[pO w1.heap.size 0] 125)).alloc (.cells #[.slice A n c] 55))=W0:=⟨_,rfl⟩
 have hsz:W0.heap.size=w1.heap.size+3:=by rw [<-hW0];simp
 have hbw1:bW w w1:=((zXl _ w).alloc lr _).trans (hb1.mono fN)
 have hsz1:w.heap.size<w1.heap.size:=zXq fN hb1.size
 have hb01:bW w1 W0:=by rw [<-hW0];exact (((zXl _ w1).alloc lr _).alloc fN _).alloc (by simp;omega) _
 have hB1:bW w W0:=hbw1.trans (hb01.mono hbw1.size)
 have x0:zQK W0 w1.heap.size 1:=⟨[_,_,_],(by rw [<-hW0];exact ((q9.new w1 _ #[.bool false,.slice A1 n1 c1,.slice A2 n2 c2]).alloc _).alloc _),hv2.keepU (zV hb01)⟩
 have x1:Boxed W0 (w1.heap.size+1) 125 (pO w1.heap.size 0):=by rw [<-hW0];exact (zAs _ _ _ fN).alloc _
 have x2:Boxed W0 (w1.heap.size+1+1) 55 (.slice A n c):=by rw [<-hW0];exact zAs _ _ _ fN
 have x3:q9 W0 w.heap.size 28 #[.bool false, sN, sN]:=(q9.kept (q9.kept (q9.new w _ _) hb1) hb01)
 rw [hW0]
 clear hW0
 have hSb: ∀b,(b<w.heap.size∨b=w1.heap.size+1+1)->b<W0.heap.size:=fun b hb=>by have:=hbw1.size;omega
 refine zCl (gf:=119) rfl (enters_of func119 kH rfl) (zFP m hm A n c qs (w1.heap.size+1+1) w W0 h hT hB1 hn hc x2.cell (S:=fun b=>b<w.heap.size∨b=w1.heap.size+1+1) hSb (.inr rfl) (fun b hb=> .inl hb)) ?hE ?hps zFv.trans (zGB hSb)
  (zSs w w1.heap.size (w1.heap.size+1) (jB qs)) (zDw w _ _ _ hB1.size) (zBu (zDw w _ _ _ lr)) wS (fun _ _ _ _ _ _ _ _=>trivial) ⟨x0,x1,x3,hB1,by omega,hsz1⟩
  (fun xs=>{ tmps:=#[.slice A n c,undef,pO w.heap.size 0,.pointer (some ⟨w1.heap.size+1,0,none⟩),xs.getD 0 undef,.agg #[.bool false,.slice A1 n1 c1,.slice A2 n2 c2],.agg #[.bool false,.slice A1 n1 c1,.slice A2 n2 c2],pO w1.heap.size 0,.slice A n c,.func (.func 119) #[] #[.pointer (some ⟨w1.heap.size+1+1,0,none⟩)],xs.getD 0 undef,undef,undef,undef,undef,undef,undef,undef],defers:= [] }) ?assign ?body ?done
 case hE=>
  rintro k xs W l o o' ⟨B,rfl,h1,h2⟩ ho hc
  exact ⟨B,rfl,h1,h2.abide (C:=0) (grownBy_putObj' W l o') (fun r e=>by cases e;exact ⟨zXn _,o,ho,hc⟩)⟩
 case hps=>
  rintro k xs W ⟨B,rfl,_⟩
  rfl
 case assign=>
  rintro lp k xs W K ⟨B,rfl,h1,h2⟩ hK
  gi_wp2
  exact hK
 case body=>
  rintro lp k xs W hk ⟨h1,h2,h3,h4,h5,h6⟩ ⟨B,rfl,hB,hnb⟩
  have hc2:=h2.cell
  have hne:B≠w1.heap.size:=by omega
  have hbd:=hp k (zXI hk)
  have hbd2:QB (qAt qs k) m:=by
   obtain ⟨_,_,_,_,_,q,_,_,_,_,e,hr⟩:=h.cells k hk
   rw [show qAt qs k=q from by simp [qAt,e]]
   exact hr.qb hm0
  have hTW:Tab W:=hT.below h4
  gi_wp2_with (gi_at_call 130;refine CallsIn.mono (callsIn_wide.2 (by
   obtain ⟨cs,g1,g2⟩:=h1
   obtain ⟨cs',g1',g2'⟩:=hnb
   exact zOB g1 g2 g1' g2' hne hbd hbd2 oO hTW)) ?_;rintro e w3 ⟨u,rfl,_,hg3,cs3,hh3,hc3,_⟩)
  refine ⟨(KeepsOthers.of_grownBy hg3 (fun j o e ho=>by cases e;obtain ⟨cs,g1,_⟩:=h1;rw [g1] at ho;cases ho;rfl)).from _,⟨(yY.refl _ _).grown hg3 (fun b hb=>⟨by have:=h4.size;rcases hb with hb|hb<;>omega,fun e=>by have:=zXA e;omega⟩),hg3.size⟩,⟨cs3,hh3,hc3⟩,h2.kept hg3 (fun e=>by have:=zXA e;omega),(hg3.block _ h3.lt (fun e=>by have:=zXA e;omega)).trans h3,zAM h4 hg3 h4.size oO,zXp h5 hg3.size,h6⟩
 case done=>
  rintro D W hD ⟨h1,h2,h3,h4,h5,h6⟩ _ hd
  obtain ⟨cs,hh,hq⟩:=h1
  obtain ⟨A3,n3,c3,A4,n4,c4,ecs⟩:=zCu hq
  have ecs:=zXv Array.toList (jH ecs)
  simp at ecs
  subst ecs
  obtain ⟨g0,g1,g2⟩:W.cell? ⟨w1.heap.size,0,none⟩=some (.bool (decide ((jB qs n).num<0)))/\W.cell? ⟨w1.heap.size,0+1,none⟩=some (.slice A3 n3 c3)/\W.cell? ⟨w1.heap.size,0+2,none⟩=some (.slice A4 n4 c4):=⟨zA0 hh 0 _ rfl,zA0 hh 1 _ rfl,zA0 hh 2 _ rfl⟩
  simp only [Nat.zero_add] at g1 g2
  have hc2:=h2.cell
  have q0:W.cell? ⟨w.heap.size,0,none⟩=some (.bool false):=h3.cell 0
  have q1:W.cell? ⟨w.heap.size,1,none⟩=some (sN):=h3.cell 1
  have q2:W.cell? ⟨w.heap.size,2,none⟩=some (sN):=h3.cell 2
  have q3:=h3.frozen 0;have q4:=h3.frozen 1;have q5:=h3.frozen 2
  go_wp2
  have hb5:q9 (((W.setCell ⟨w.heap.size,0,none⟩ (.bool (decide ((jB qs n).num<0)))).setCell ⟨w.heap.size,1,none⟩ (.slice A3 n3 c3)).setCell ⟨w.heap.size,2,none⟩ (.slice A4 n4 c4)) w.heap.size 28 #[.bool (decide ((jB qs n).num<0)),.slice A3 n3 c3,.slice A4 n4 c4]:=((h3.set 0 _).set 1 _).set 2 _
  have hM2:Marks w.heap.size (((W.setCell ⟨w.heap.size,0,none⟩ (.bool (decide ((jB qs n).num<0)))).setCell ⟨w.heap.size,1,none⟩ (.slice A3 n3 c3)).setCell ⟨w.heap.size,2,none⟩ (.slice A4 n4 c4)) [mark D] [D]:=((Marks.nil w.heap.size W).more (D:=D) fN (by have:=hB1.size;omega) hd).others (((zXB _ _ _).trans (zXB _ _ _)).trans (zXB _ _ _))
  have hrow: ∀(W':Wi) (i:Nat) (v u:Wj),W'.cell? ⟨w.heap.size,i,none⟩=some u->yA u=true->jK W' (W'.setCell ⟨w.heap.size,i,none⟩ v):=fun W' i v u hu hn p x hp=>(World.cell?_setCell_other _ _ _ _ (fun e=>by rw [<-e] at hp;rw [hu] at hp;cases hp;cases hn)).trans hp
  have hk3:jK W (((W.setCell ⟨w.heap.size,0,none⟩ (.bool (decide ((jB qs n).num<0)))).setCell ⟨w.heap.size,1,none⟩ (.slice A3 n3 c3)).setCell ⟨w.heap.size,2,none⟩ (.slice A4 n4 c4)):=((hrow _ _ _ _ q0 rfl).trans (hrow _ _ _ _ ((h3.set 0 _).cell 1) rfl)).trans (hrow _ _ _ _ (((h3.set 0 _).set 1 _).cell 2) rfl)
  have hq3:=hq.keepU hk3
  have hb3:bW w (((W.setCell ⟨w.heap.size,0,none⟩ (.bool (decide ((jB qs n).num<0)))).setCell ⟨w.heap.size,1,none⟩ (.slice A3 n3 c3)).setCell ⟨w.heap.size,2,none⟩ (.slice A4 n4 c4)):=((h4.setCell lr _).setCell lr _).setCell lr _
  generalize ((W.setCell ⟨w.heap.size,0,none⟩ (.bool (decide ((jB qs n).num<0)))).setCell ⟨w.heap.size,1,none⟩ (.slice A3 n3 c3)).setCell ⟨w.heap.size,2,none⟩ (.slice A4 n4 c4)=W9 at*
  refine qD _ (v:= .agg #[.bool (decide ((jB qs n).num<0)),.slice A3 n3 c3,.slice A4 n4 c4]) (fun w' ho'=> ?_) [D] _ _ hM2 (Oth.refl _ _) ?_
  ·have h7:=hb5.oth ho'
   have:=zGa (P:=prog) (w:=w') (t:=28) (k:=3) kH (vs:= [.bool (decide ((jB qs n).num<0)),.slice A3 n3 c3,.slice A4 n4 c4]) rfl h7
   simp [results,results109,asAddr,this]
  ·intro w' ho
   exact ⟨_,rfl,hq3.keepU (fun p x hp=>(ho.cell p).trans hp),zAd hb3 ho lr⟩
def fQS (m:Nat) (qs:List Rat):SF:=⟨fun v W=> ∃A c,v= .slice A qs.length c/\qs.length<=c/\c<=9223372036854775807/\QRd m W A qs.length qs,fun _ _ _ ⟨A,c,h1,h2,h3,h4⟩ hb=>⟨A,c,h1,h2,h3,h4.below hb⟩⟩
theorem zPK (s s':Bool) (A A' D D':Wl Addr) (n n' c c' i i' j j':Nat):z5 prog 55 2 [(0,.agg #[.bool s,.slice A n c,.slice D i j]),(1,.agg #[.bool s',.slice A' n' c',.slice D' i' j'])]=some (28,#[.bool s,.slice A n c,.slice D i j,.bool s',.slice A' n' c',.slice D' i' j']):=by kernel_rfl
theorem zF6 {p:Rat} (hu:RVp m p u W) (hv:RVp m q v W): ∃e cs,z5 prog 55 2 [(0,u),(1,v)]=some (e,cs)/\(fQS m [p,q]).p (.slice (some ⟨W.heap.size,0,none⟩) 2 2) (W.alloc (.cells cs e)):=by
 obtain ⟨k,d,h1,h2⟩:=id hu
 obtain ⟨k',d',h1',h2'⟩:=id hv
 obtain ⟨s,A,n,c,D,i,j,rfl⟩:=zBR h1
 obtain ⟨s',A',n',c',D',i',j',rfl⟩:=zBR h1'
 refine ⟨_,_,zPK s s' A A' D D' n n' c c' i i' j j',some ⟨W.heap.size,0,none⟩,2,rfl,zXm _,by decide,rfl,fun x hx=> ?_⟩
 have hb:=zCg W (.cells #[.bool s,.slice A n c,.slice D i j,.bool s',.slice A' n' c',.slice D' i' j'] 28)
 rcases (by simp at hx;omega:x=0∨x=1) with rfl|rfl
 ·exact ⟨_,0,_,_,_,p,rfl,zBz W _ _ 0 _ rfl,zBz W _ _ 1 _ rfl,zBz W _ _ 2 _ rfl,rfl,hu.below hb⟩
 ·exact ⟨_,0,_,_,_,q,rfl,zBz W _ _ 3 _ rfl,zBz W _ _ 4 _ rfl,zBz W _ _ 5 _ rfl,rfl,hv.below hb⟩
theorem zS2 (M:Nat) (h:(fQS m qs).p v W) (hm0:0<m) (hM:M+m+1<=2000) (hp: ∀k,k<=qs.length->QB (zDp qs k) M) (hT:Tab W):Calls prog 77 #[v] W (Ret W (fQN (zDp qs qs.length)).tS):=by
 obtain ⟨A,c,rfl,h1,h2,h3⟩:=h
 exact zN6 m M A qs.length c qs W h3 h1 h2 oO hm0 hM hp hT
theorem zRf (M:Nat) (h:(fQS m qs).p v W) (hm0:0<m) (hM:M+m+1<=2000) (hp: ∀k,k<=qs.length->QB (jB qs k) M) (hT:Tab W):Calls prog 109 #[v] W (Ret W (fQN (jB qs qs.length)).tS):=by
 obtain ⟨A,c,rfl,h1,h2,h3⟩:=h
 exact zN5 m M A qs.length c qs W h3 h1 h2 oO hm0 hM hp hT
theorem QB.zero (hm:0<m):QB 0 m:=⟨Nat.pow_pos y7,zDE hm⟩
theorem QB.one (hm:0<m):QB 1 m:=⟨zDE hm,zDE hm⟩
theorem zRB (p q:Rat):zDp [p,q] 2=p+q:=by
 show (0+p)+q=_
 rw [Rat.zero_add]
theorem zLK (p q:Rat):jB [p,q] 2=p*q:=by
 show (1*p)*q=_
 rw [zXJ]
theorem zLk {p:Rat} (h:(fQS m [p,q]).p v W) (hp:QB p m) (hq:QB q m) (hm:3*m+2<=2000) (hT:Tab W):Calls prog 77 #[v] W (Ret W (fQN (p+q)).tS):=by
 have:=zS2 (m+m+1) h hp.pos oO (fun k hk=>by
  rcases (by simp at hk;omega:k=0∨k=1∨k=2) with rfl|rfl|rfl
  ·exact QB.zero oO
  ·show QB (0+p) _
   rw [Rat.zero_add]
   exact hp.mono oO
  ·rw [zRB]
   exact hp.add hq) hT
 rw [show ([p,q]:List Rat).length=2 from rfl,zRB] at this
 exact this
theorem zLf {p:Rat} (h:(fQS m [p,q]).p v W) (hp:QB p m) (hq:QB q m) (hm:3*m+2<=2000) (hT:Tab W):Calls prog 109 #[v] W (Ret W (fQN (p*q)).tS):=by
 have:=zRf (m+m) h hp.pos oO (fun k hk=>by
  have:=hp.pos
  rcases (by simp at hk;omega:k=0∨k=1∨k=2) with rfl|rfl|rfl
  ·exact QB.one oO
  ·show QB (1*p) _
   rw [zXJ]
   exact hp.mono oO
  ·rw [zLK]
   exact hp.mul hq) hT
 rw [show ([p,q]:List Rat).length=2 from rfl,zLK] at this
 exact this
theorem zRh (p q:Rat):mkRat ((p).num*(if decide ((q).num<0) then -((q).den:Int) else ((q).den:Int))) ((p).den*(q).num.natAbs)=p / q:=by
 have hp:p=(p.num:Rat) / (p.den:Rat):=by
  have:=Rat.mkRat_self p
  rw [Rat.mkRat_eq_div] at this
  exact this.symm
 have hq:q⁻¹=mkRat (if decide (q.num<0) then -(q.den:Int) else (q.den:Int)) q.num.natAbs:=by
  rw [Rat.inv_def]
  by_cases h:q.num<0
  ·rw [zXw h,if_pos rfl, <-Rat.divInt_ofNat, <-Rat.divInt_neg']
   congr 1
   omega
  ·rw [zXz h,if_neg dA, <-Rat.divInt_ofNat]
   congr 1
   omega
 rw [Rat.div_def,hq]
 conv=>rhs;rw [<-Rat.mkRat_self p]
 rw [Rat.mkRat_mul_mkRat]
theorem zPO (h:RVp m q v W) (h':RVp m q' v' W) (hm:m<=650) (hm0:0<m) (hT:Tab W):Calls prog 75 #[v,v'] W (Ret W (fQN (q - q')).tS):=by
 have hq:QB q m:=h.qb hm0
 have hq':QB q' m:=h'.qb hm0
 refine z7 [(fRV m q).tS,(fRV m q').tS] func75 rfl kH ⟨h,h',trivial⟩ fun a s=> ?_
 refine zXg ?_
 refine zB 0 [] hmix s kH
  zD fun a w1 s=> ?_
 refine yG (wC (fRV m q)) rfl s kH (fun v W h=>jW h) fun b2 a w s=> ?_
 refine yG (wC (fRV m q')) rfl s kH (fun v W h=>jW h) fun b3 a w s=> ?_
 refine zZ (CU.len 3) (cs:=zR3) kH rfl s kH (fun W=>rfl) rfl fun b4 a w s=> ?_
 refine zA rfl ?_
 refine zXg ?_
 refine z9 [] 5 ((5,.Z (fRV m q))::(6,.Z (fRV m q'))::(7,.Z (fQN (-q')))::(8,.s (fQS m [q,(-q')]))::(9,.u (fQN (q+ -q'))):: []) hmix s kH
  (oc (zJ (f:=fRV m q) 3 kH (hz:=qM _ _))<|oc (zJ (f:=fRV m q') 3 kH (hz:=qM _ _))<|oc (zH zE zVc (fun u0 W hb (h0:RVp m q' u0 W)=>zS3 h0 oO hm0 (hT.below (s.up hb))))<|oc (yI (fun u v W (hu:RVp m q u W) (hv:QNp (-q') v W)=>zF6 hu (wK hv hq'.neg)))<|oc (zH zE zVn (fun u0 W hb (h0:(fQS m [q,(-q')]).p u0 W)=>zLk h0 hq hq'.neg oO (hT.below (s.up hb))))<|zD) fun Q' hQ a w2 s=> ?_
 refine zS (wC (fQN (q+ -q'))) ((fQN (q+ -q')).tS) rfl s kH rfl rfl rfl iiz iiz yN fun a w s=> ?_
 refine zA rfl (hQ _ _ ?_)
 refine zXh ?_
 exact wH s (wC (fQN (q+ -q'))) rfl kH rfl rfl (jC _) (fun cs W h=>by rw [Rat.sub_eq_add_neg];exact h)
def UVx (n:Nat) (k:Int) (v:Wj) (w:Wi):Prop:= ∃s A c l,v= .agg #[.bool s,.slice A n c]/\Rd w A n c l/\Lt l/\iv s l=k
def LVx (n x:Nat) (v:Wj) (w:Wi):Prop:= ∃A c l,v= .slice A n c/\Rd w A n c l/\Lt l/\val l=x
def QXp (n n':Nat) (k:Int) (d:Nat) (v:Wj) (w:Wi):Prop:= ∃b s t,v= .agg #[b,s,t]/\UVx n k (.agg #[b,s]) w/\LVx n' d t w
def fQX (n n':Nat) (k:Int) (d:Nat):UF:= .mk' (QXp n n' k d) fun _ _ _ ⟨b,s,t,e,⟨sg,A,c,l,e1,h1,h2⟩,A',c',l',e2,h1',h2'⟩ u=>⟨b,s,t,e,⟨sg,A,c,l,e1,h1.keepU u,h2⟩,A',c',l',e2,h1'.keepU u,h2'⟩
theorem zUV (h:QXp n n' k d v W) (h1:n<=m) (h2:n'<=m):QVp m k d v W:=by
 obtain ⟨b,s,t,e,⟨sg,A,c,l,e1,g1,g2,g3⟩,A',c',l',e2,g1',g2',g3'⟩:=h
 exact ⟨b,s,t,e,⟨sg,A,n,c,l,e1,g1,g2,h1,g3⟩,A',n',c',l',e2,g1',g2',h2,g3'⟩
theorem zLI (cs:List Wj) (W:Wi) (h:(wC (fQX n n' k d)).p cs W): ∃u,cs[1]?=some u/\ ∃A c,u= .slice A n c:=by
 obtain ⟨b,s,t,e,⟨sg,A,c,l,e1,_⟩,_⟩:=h
 rw [zAB e]
 have:=zXv Array.toList (jH e1)
 simp at this
 exact ⟨s,rfl,A,c,this.2⟩
theorem zLH (cs:List Wj) (W:Wi) (h:(wC (fQX n n' k d)).p cs W): ∃u,cs[2]?=some u/\ ∃A c,u= .slice A n' c:=by
 obtain ⟨b,s,t,e,_,A,c,l,e1,_⟩:=h
 rw [zAB e]
 exact ⟨t,rfl,A,c,e1⟩
theorem zPQ (n n':Nat) (k:Int) (d:Nat): ∀cs:List Wj, ∀W,(fQX n n' k d).p (.agg cs.toArray) W->cs.length=3:=fun cs W ⟨b,s,t,e,_⟩=>by rw [zAB e];rfl
def fSl (n:Nat):UF:= .mk' (fun v _=> ∃A c,v= .slice A n c) fun _ _ _ h _=>h
structure QX where
 n:Nat
 n':Nat
 k:Int
 d:Nat
variable {L:List QX}
abbrev QX.cu (x:QX):CU:=wC (fQX x.n x.n' x.k x.d)
def zAT (L:List QX) (k:Nat):Nat:=((L.take k).map fun x=>min (x.n+x.n') 1000).sum
theorem zCQ {k:Nat} {x:QX} (h:L[k]?=some x):zAT L (k+1)=zAT L k+min (x.n+x.n') 1000:=by
 unfold zAT
 rw [zXK,h]
 simp
theorem zOg (L:List QX) (k:Nat):zAT L k<=1000*k:=by
 induction k with
 |zero=>simp [zAT]
 | succ k ih=>
  cases h:L[k]? with
  |none=>
   have:zAT L (k+1)=zAT L k:=by unfold zAT;rw [zXK,h];simp
   omega
  |some x=>
   rw [zCQ h]
   omega
theorem zLL {k i:Nat} {x:QX} (h:L[i]?=some x) (hi:i<k):min (x.n+x.n') 1000<=zAT L k:=by
 induction k with
 |zero=>omega
 | succ k ih=>
  by_cases e:i=k
  ·subst e;rw [zCQ h];omega
  ·have h1:=ih oO
   cases h2:L[k]? with
   |none=>
    have:zAT L (k+1)=zAT L k:=by unfold zAT;rw [zXK,h2];simp
    omega
   |some y=>rw [zCQ h2];omega
def gq (L:List QX):Bool:=decide (((L.map QX.cu).length:Int)>60)||decide (((zAT L (min (L.map QX.cu).length 61):Nat):Int)>40)
theorem zO5 (h:gq L=false): ∀x,x∈L->x.n<=40/\x.n'<=40:=by
 unfold gq at h
 rw [Bool.or_eq_false_iff] at h
 have h1:=zXu h.1
 have h2:=zXu h.2
 rw [zXC] at h1 h2
 intro x hx
 obtain ⟨i,hi⟩:=List.getElem?_of_mem hx
 have hlt:=(zXi.1 hi).1
 have h3:=zLL hi (k:=min L.length 61) oO
 omega
theorem wrap64 (u:Int) (r:Nat) (h:u=r) (hr:r<9223372036854775808):IntKind.i64.wrap u=r:=by
 subst h
 rw [IntKind.wrap_i64]
 omega
theorem zLx (h:(wD 3 (L.map QX.cu)).p v W) (hL: ∀x,x∈L->x.n+x.n'<9223372036854775808):Calls prog 6 #[v] W (Ret W (fB (gq L)).tS):=by
 refine z7 [wD 3 (L.map QX.cu)] func6 rfl kH ⟨h,trivial⟩ fun a s=> ?_
 refine zXg ?_
 refine zB 1 ((2,.u (uB false)):: []) hmix s kH
  (oc zG<|zD) fun a w1 s=> ?_
 refine zA rfl ?_
 refine zXg ?_
 refine zB 1 ((3,.u (uI 0)):: []) hmix s kH
  (oc zG<|zD) fun a w2 s=> ?_
 refine zA rfl ?_
 refine zXg ?_
 refine zXg ?_
 refine zB 1 ((4,.u (uI 0)):: []) hmix s kH
  (oc zG<|zD) fun a w3 s=> ?_
 refine zA rfl ?_
 refine zXs ?_
 refine zQ2 (min (L.map QX.cu).length 61) 4 (fun k=> [(0,.o (wD 3 ((L).map QX.cu))),(4,.u (fI ((k:Nat):Int))),(3,.u (fI ((zAT L k:Nat):Int)))]) (fun k=>mz1) (s.keepK _ (fmz ⟨mz3,fmz ⟨.head _,fmz ⟨mz1,fnz⟩⟩⟩)) fun k a w hk s=> ?_
 refine zXg ?_
 refine zXg ?_
 refine zB 8 ((5,.Z (fI (k:Int)))::(6,.s (wD 3 ((L).map QX.cu)))::(7,.Z (uI (((L).map QX.cu).length:Int)))::(8,.Z (uB (ltz k (((L).map QX.cu).length))))::(9,.Z (uB (ltz k (((L).map QX.cu).length))))::(10,.s (SF.imp (decide ((k:Int)<(((L).map QX.cu).length:Int))=true) ((fI (k:Int)).tS)))::(11,.s (SF.imp (decide ((k:Int)<(((L).map QX.cu).length:Int))=true) ((uB (decide ((k:Int)<=60))).tS)))::(12,.u (uB ((ltz k (((L).map QX.cu).length))&&(decide ((k:Int)<=60))))):: []) hmix s kH
  (oc zC<|oc zC<|oc (zDh (z:=3) (Cs:=(L).map QX.cu) kH iiz (fun _=>rfl))<|oc (zR .i64 (k:Int) (((L).map QX.cu).length:Int) (ltz k (((L).map QX.cu).length)) iiz iiz rfl rfl)<|oc zC<|oc (zF 9 (ltz k (((L).map QX.cu).length)) kH iiz (fun e=>zQ [] ((fI (k:Int)).tS) fnz fM kH zC) fL)<|oc (zF 9 (ltz k (((L).map QX.cu).length)) kH iiz (fun e=>zQ [(10,(fI (k:Int)).tS)] ((uB (decide ((k:Int)<=60))).tS) (fmz ⟨fun v W h=>zK (c:=decide ((k:Int)<(((L).map QX.cu).length:Int))=true) (f:=(fI (k:Int)).tS) e h,fnz⟩) fM kH (zR .i64 (k:Int) 60 (decide ((k:Int)<=60)) iiz iiz rfl rfl)) fL)<|oc (yJ (ltz k (((L).map QX.cu).length)) iiz (fun e v W h=>jU (zK e h) e) (fun e v W h=>jD h e))<|zD) fun a w4 s=> ?_
 refine zA rfl ?_
 refine StS.cond s ((ltz k (((L).map QX.cu).length))&&(decide ((k:Int)<=60))) iiz (fun e=> ?_) (fun e=> ?_)
 ·rw [zXD] at e
  have hk1:=zXk e.1
  have hk2:=zXk e.2
  have hk3:k<L.length:=by rw [zXC] at hk1;omega
  obtain ⟨x,hxl⟩: ∃x,L[k]?=some x:=⟨_,zX0 hk3⟩
  have hx:(L.map QX.cu)[k]?=some x.cu:=by rw [List.getElem?_map,hxl];rfl
  have hxm:=hL x (List.mem_of_getElem? hxl)
  have hgs:=zCQ hxl
  have hgl:=zOg L k
  refine zXo ?_
  refine zXg ?_
  refine zXs ?_
  refine zE5 (K:= [(12,.u (uB ((ltz k (((L).map QX.cu).length))&&(decide ((k:Int)<=60))))),(0,.o (wD 3 ((L).map QX.cu))),(4,.u (fI (k:Int)))]) [(3,.u (fI ((zAT L k:Nat):Int)))] [0,1,2,8,9] 17 ((15,.Z (fI ((zAT L k:Nat):Int)))::(16,.s (wD 3 ((L).map QX.cu)))::(17,.Z (fI (k:Int)))::(18,.s (wE (QX.cu x).cf))::(19,.s (wE ((QX.cu x).cf.at 0)))::(20,.s (wE ((QX.cu x).cf.at 1)))::(21,.Z (fSl (x.n)))::(22,.Z (uI (x.n:Int)))::(23,.s (wD 3 ((L).map QX.cu)))::(24,.Z (fI (k:Int)))::(25,.s (wE (QX.cu x).cf))::(26,.s (wE ((QX.cu x).cf.at 2)))::(27,.Z (fSl (x.n')))::(28,.Z (uI (x.n':Int)))::(29,.Z (uI ((x.n+x.n':Nat):Int)))::(30,.Z (uI (min ((x.n+x.n':Nat):Int) 1000)))::(31,.u (fI ((zAT L (k+1):Nat):Int))):: []) hmix (s.keepK _ (fmz ⟨mz3,fmz ⟨.head _,fmz ⟨mz1,fmz ⟨mz2,fnz⟩⟩⟩⟩)) kH
   (oc zC<|oc zC<|oc zC<|oc (zBg (z:=3) (Cs:=(L).map QX.cu) (i:=k) (C:=QX.cu x) kH hx iiz iiz)<|oc (zL (C:=(QX.cu x).cf) 0 kH)<|oc (qB (C:=(QX.cu x).cf) 0 1 kH)<|oc (jE (C:=(QX.cu x).cf) (k:=1) kH (h:=zLI))<|oc (zBM kH (fun v W ⟨A,c,e⟩=>⟨A,x.n,c,e,rfl⟩))<|oc zC<|oc zC<|oc (zBg (z:=3) (Cs:=(L).map QX.cu) (i:=k) (C:=QX.cu x) kH hx iiz iiz)<|oc (zL (C:=(QX.cu x).cf) 2 kH)<|oc (jE (C:=(QX.cu x).cf) (k:=2) kH (h:=zLH))<|oc (zBM kH (fun v W ⟨A,c,e⟩=>⟨A,x.n',c,e,rfl⟩))<|oc (yM .i64 (x.n:Int) (x.n':Int) ((x.n+x.n':Nat):Int) iiz iiz (wrap64 _ _ oO oO))<|oc (zRJ ((x.n+x.n':Nat):Int) 1000 iiz iiz)<|oc (yM .i64 ((zAT L k:Nat):Int) (min ((x.n+x.n':Nat):Int) 1000) ((zAT L (k+1):Nat):Int) iiz iiz (wrap64 _ _ oO oO))<|zD) fun Q' hQ a w5 s=> ?_
  refine yP (fI ((zAT L (k+1):Nat):Int)) rfl s kH iiz fun a w s=> ?_
  refine zA rfl (hQ _ _ ?_)
  refine zX 2 ((13,.Z (fI (k:Int)))::(14,.u (fI ((k+1:Nat):Int))):: []) s kH
   (oc zC<|oc (yM .i64 (k:Int) 1 ((k+1:Nat):Int) iiz iiz (wrap64 _ _ oO oO))<|zD) fun a w6 s=> ?_
  replace s:=s.drop [4]
  refine yP (fI ((k+1:Nat):Int)) rfl s kH iiz fun a w s=> ?_
  refine zA rfl ?_
  exact ⟨by omega,s.keepK _ (fmz ⟨mz5,fmz ⟨.head _,fmz ⟨mz2,fnz⟩⟩⟩)⟩
 ·rw [zX1] at e
  have hkN:k=min (L.map QX.cu).length 61:=by
   rcases e with e|e
   ·have:=zXu e;omega
   ·have:=zXu e;omega
  refine zXE ?_
  refine zXg ?_
  refine zB 8 ((32,.s (wD 3 ((L).map QX.cu)))::(33,.Z (uI (((L).map QX.cu).length:Int)))::(34,.Z (uB (decide ((((L).map QX.cu).length:Int)>60))))::(35,.Z (uB (decide ((((L).map QX.cu).length:Int)>60))))::(36,.s (SF.imp (decide ((((L).map QX.cu).length:Int)>60)=false) ((fI ((zAT L k:Nat):Int)).tS)))::(37,.s (SF.imp (decide ((((L).map QX.cu).length:Int)>60)=false) ((uB (decide (((zAT L k:Nat):Int)>40))).tS)))::(38,.Z (uB ((decide ((((L).map QX.cu).length:Int)>60))||(decide (((zAT L k:Nat):Int)>40)))))::(2,.u (uB ((decide ((((L).map QX.cu).length:Int)>60))||(decide (((zAT L k:Nat):Int)>40))))):: []) hmix s kH
   (oc zC<|oc (zDh (z:=3) (Cs:=(L).map QX.cu) kH iiz (fun _=>rfl))<|oc (zR .i64 (((L).map QX.cu).length:Int) 60 (decide ((((L).map QX.cu).length:Int)>60)) iiz iiz rfl rfl)<|oc zC<|oc (zF 35 (decide ((((L).map QX.cu).length:Int)>60)) kH iiz (fun e=>zQ [] ((fI ((zAT L k:Nat):Int)).tS) fnz fM kH zC) fL)<|oc (zF 35 (decide ((((L).map QX.cu).length:Int)>60)) kH iiz (fun e=>zQ [(36,(fI ((zAT L k:Nat):Int)).tS)] ((uB (decide (((zAT L k:Nat):Int)>40))).tS) (fmz ⟨fun v W h=>zK (c:=decide ((((L).map QX.cu).length:Int)>60)=false) (f:=(fI ((zAT L k:Nat):Int)).tS) e h,fnz⟩) fM kH (zR .i64 ((zAT L k:Nat):Int) 40 (decide (((zAT L k:Nat):Int)>40)) iiz iiz rfl rfl)) fL)<|oc (yJ (decide ((((L).map QX.cu).length:Int)>60)) iiz (fun e v W h=>zDf h e) (fun e v W h=>zB9 (zK e h) e))<|oc zG<|zD) fun a w7 s=> ?_
  refine zA rfl ?_
  refine zXh ?_
  exact wG s (t:=2) rfl (fun _ _ h=>by rw [hkN] at h;exact h)
def T2 (m:Nat) (op:Rat->Rat->Rat) (xs:Array Wj) (W:Wi) (R:SF):Prop:= ∃u v p q,xs=#[u,v]/\RVp m p u W/\RVp m q v W/\Tab W/\R=(fQN (op p q)).tS
def T3 (m:Nat) (op:Rat->Rat->Rat) (xs:Array Wj) (W:Wi) (R:SF):Prop:= ∃u v, ∃p q:V2,xs=#[u,v]/\(fPV m p).p u W/\(fPV m q).p v W/\Tab W/\R=(fPN (op p.1 q.1,op p.2 q.2)).tS
def G1 (g:FuncId) (m:Nat) (op:Rat->Rat->Rat):Prop:= ∀(W:Wi) (s:Wj) (p q:Rat),(fQS m [p,q]).p s W->QB p m->QB q m->Tab W->Calls prog g #[s] W (Ret W (fQN (op p q)).tS)
theorem zDQ: ∀cs W,(wF [u]).p cs W-> ∃x,cs[0]?=some x/\(wB u).p x W:=fun cs W h=>by
 obtain rfl:cs= [u]:=h
 exact ⟨u,rfl,rfl⟩
theorem zJC (h:v=u) (hu:u.cells=#[u]) (hn:yA u=true:=by rfl):(wF [u]).p v.cells.toList W/\v.cells.toList.all yA=true:=by
 subst h
 rw [hu]
 exact ⟨rfl,by simp [hn]⟩
section
variable {F:Fence} {m:Nat} {P:Wn} {w0:Wi} {ops:Array Oper} {G:Nat->SF} {d:Tmp} {ty:Wk} {pos:String} {aft:Array Edge}
theorem zOA {xs:Array Wm} (hF:zHZ F m P) (he:Enters P g) (hy: ∀v W,(fct G y).p v W->v= .func (.func g) #[] #[])
  (h: ∀(b:Act) (W:Wi),bW w0 W->(∀x,x∈xs.toList->(fct G x).p (b.eval x) W)->Calls P g (xs.map b.eval) W (Ret W (G d))):
  qK F m P w0 ops G ⟨some d,.call ⟨.value y,xs,ats⟩,ty,pos,aft,none⟩:=
 zPZ (fun args W R=>Calls P g args W (Ret W R)) hF (fun v W hv=>by rw [hy v W hv];exact ⟨g,#[],rfl,he,fun W' _ args R h=>by simpa using h⟩) h
theorem zL5 {x:Wm} (hF:zHZ F m P) (he:Enters P g) (hy: ∀v W,(fct G y).p v W->v= .func (.func g) #[] #[]) (h: ∀u W,bW w0 W->(fct G x).p u W->Calls P g #[u] W (Ret W (G d))):qK F m P w0 ops G ⟨some d,.call ⟨.value y,#[x],ats⟩,ty,pos,aft,none⟩:=
 zOA hF he hy fun b W hb hh=>by simpa using h _ W hb (hh x fN)
end
theorem zTH (hm:m<=650):G1 77 m (·+·):=fun _ _ _ _ h hp hq hT=>zLk h hp hq oO hT
theorem zTI (hm:m<=650) (hm0:0<m) (W:Wi):(SF.fn prog (T2 m (· - ·))).p (.func (.func 75) #[] #[]) W:=
 zMI (enters_of func75 kH rfl) fun W' _ args R ⟨u,v,p,q,e,h1,h2,hT,hR⟩=>by
  subst e hR
  simpa using zPO h1 h2 hm hm0 hT
theorem zSC (eg:Enters prog g) (hg:G1 g m op) (hm0:0<m) {W:Wi} {u v b:Wj} {p q:Rat} (h1:RVp m p u W) (h2:RVp m q v W) (hb:(wE (wF [.func (.func g) #[] #[]]).cf).p b W) (hT:Tab W):Calls prog 98 #[u,v,b] W (Ret W (fQN (op p q)).tS):=by
 have hp:=h1.qb hm0
 have hq:=h2.qb hm0
 refine z7 [(fRV m p).tS,(fRV m q).tS,wE (wF [.func (.func g) #[] #[]]).cf] func98 rfl kH ⟨h1,h2,hb,trivial⟩ fun a s=> ?_
 refine zXg ?_
 refine zB 0 [] hmix s kH
  zD fun a w1 s=> ?_
 refine yG (wC (fRV m p)) rfl s kH (fun v W h=>jW h) fun b3 a w s=> ?_
 refine yG (wC (fRV m q)) rfl s kH (fun v W h=>jW h) fun b4 a w s=> ?_
 refine zZ (CU.len 3) (cs:=zR3) kH rfl s kH (fun W=>rfl) rfl fun b5 a w s=> ?_
 refine zA rfl ?_
 refine zXg ?_
 refine zB 5 ((6,.Z (wB (.func (.func g) #[] #[])))::(7,.Z (fRV m p))::(8,.Z (fRV m q))::(9,.s (fQS m [p,q]))::(10,.u (fQN (op p q))):: []) hmix s kH
  (oc (zAg (C:=(wF [.func (.func g) #[] #[]]).cf) kH iiz zDQ)<|oc (zJ (f:=fRV m p) 3 kH (hz:=qM _ _))<|oc (zJ (f:=fRV m q) 3 kH (hz:=qM _ _))<|oc (yI (fun u v W (hu:RVp m p u W) (hv:RVp m q v W)=>zF6 hu hv))<|oc (zL5 zE eg iiz (fun u W hb (h:(fQS m [p,q]).p u W)=>hg W u p q h hp hq (hT.below (s.up hb))))<|zD) fun a w2 s=> ?_
 refine zS (wC (fQN (op p q))) ((fQN (op p q)).tS) rfl s kH rfl rfl rfl iiz iiz yN fun a w s=> ?_
 refine zA rfl ?_
 refine zXh ?_
 exact wH s (wC (fQN (op p q))) rfl kH rfl rfl (jC _) (fun cs W h=>h)
theorem zUE (eg:Enters prog g) (hg:G1 g m op) (hm0:0<m) {W:Wi} {u:Wj} (h:u= .func (.func g) #[] #[]):Calls prog 76 #[u] W (Ret W (SF.fn prog (T2 m op))):=by
 refine z7 [(wB (.func (.func g) #[] #[])).tS] func76 rfl kH ⟨h,trivial⟩ fun a s=> ?_
 refine zXg ?_
 refine zB 0 [] hmix s kH
  zD fun a w1 s=> ?_
 refine yG (wF [.func (.func g) #[] #[]]) rfl s kH (fun v W h=>zJC h (by rfl)) fun b1 a w s=> ?_
 refine yP (wB (.nilFunc)) rfl s kH iiz fun a w s=> ?_
 refine zA rfl ?_
 refine zXg ?_
 replace s:=s.drop [2]
 refine qS 2 ((3,.s (SF.fn prog (T2 m op)))::(2,.s (SF.fn prog (T2 m op))):: []) hmix s kH
  (oc (zGq (fun u W hb (h:(wL b1 (wF [.func (.func g) #[] #[]]).cf).p u W)=>zMI (enters_of func98 kH rfl) (fun W' hb' args R ⟨u1,v1,p,q,e,h1,h2,hT,hR⟩=>by subst e hR;simpa using zSC eg hg hm0 h1 h2 ((wE (wF [.func (.func g) #[] #[]]).cf).st _ _ _ h.2 hb') hT)))<|oc zG<|zD) fun a w2 s hr=> ?_
 refine zA rfl ?_
 refine zXh ?_
 exact StS.resN s (zXl _ _) rfl (hr (_,_) mz1)
theorem zP0 {F:Fence} {P:Wn} {w0:Wi} {ops:Array Oper} {G:Nat->SF} {d:Tmp} {ty:Wk} {pos:String} {aft:Array Edge} {x x':Wm} (T:Array Wj->Wi->SF->Prop) (hF:zHZ F m P) (hy: ∀v W,bW w0 W->(fct G y).p v W->(SF.fn P T).p v W) (h: ∀u v W,bW w0 W->(fct G x).p u W->(fct G x').p v W->T #[u,v] W (G d)):qK F m P w0 ops G ⟨some d,.call ⟨.value y,#[x,x'],ats⟩,ty,pos,aft,none⟩:=
 zL3 T hF hy fun b W hb hh=>by simpa using h _ _ W hb (hh x fN) (hh x' fN)
theorem zOs {b:Wj} {q:V2} (h1:(fPV m p).p u W) (h2:(fPV m q).p v W) (hb:(wE (wF [f]).cf).p b W) (hf:(SF.fn prog (T2 m op)).p f W) (hT:Tab W):Calls prog 96 #[u,v,b] W (Ret W (fPN (op p.1 q.1,op p.2 q.2)).tS):=by
 refine z7 [(fPV m p).tS,(fPV m q).tS,wE (wF [f]).cf] func96 rfl kH ⟨h1,h2,hb,trivial⟩ fun a s=> ?_
 refine zXg ?_
 refine zB 0 [] hmix s kH
  zD fun a w1 s=> ?_
 refine yG (wC (fPV m p)) rfl s kH (fun v W h=>yO h) fun b3 a w s=> ?_
 refine yG (wC (fPV m q)) rfl s kH (fun v W h=>yO h) fun b4 a w s=> ?_
 refine zZ (CU.len 6) (cs:=zP6) kH rfl s kH (fun W=>rfl) rfl fun b5 a w s=> ?_
 refine zA rfl ?_
 refine zXg ?_
 refine z9 [] 13 ((6,.Z (wB f))::(7,.X (fPV m p) 0)::(8,.Z (fRV m ((p).1)))::(9,.X (fPV m q) 0)::(10,.Z (fRV m ((q).1)))::(11,.Z (fQN (op (p).1 (q).1)))::(12,.Z (wB f))::(13,.X (fPV m p) 3)::(14,.Z (fRV m ((p).2)))::(15,.X (fPV m q) 3)::(16,.Z (fRV m ((q).2)))::(17,.Z (fQN (op (p).2 (q).2)))::(18,.u (fPN (op p.1 q.1,op p.2 q.2))):: []) hmix s kH
  (oc (zAg (C:=(wF [f]).cf) kH iiz zDQ)<|oc (zL (C:=cg (fPV m p)) 0 kH)<|oc (zT (C:=cg (fPV m p)) (k:=0) 3 kH (h:=zC6))<|oc (zL (C:=cg (fPV m q)) 0 kH)<|oc (zT (C:=cg (fPV m q)) (k:=0) 3 kH (h:=zC6))<|oc (zP0 (T2 m op) zE (fun v W hb h=>by rw [show v=f from h];exact (SF.fn prog (T2 m op)).st _ _ _ hf (s.up hb)) (fun u v W hb (h1:RVp m ((p).1) u W) (h2:RVp m ((q).1) v W)=>⟨u,v,_,_,rfl,h1,h2,hT.below (s.up hb),rfl⟩))<|oc (zAg (C:=(wF [f]).cf) kH iiz zDQ)<|oc (zL (C:=cg (fPV m p)) 3 kH)<|oc (zT (C:=cg (fPV m p)) (k:=3) 3 kH (h:=zCj))<|oc (zL (C:=cg (fPV m q)) 3 kH)<|oc (zT (C:=cg (fPV m q)) (k:=3) 3 kH (h:=zCj))<|oc (zP0 (T2 m op) zE (fun v W hb h=>by rw [show v=f from h];exact (SF.fn prog (T2 m op)).st _ _ _ hf (s.up hb)) (fun u v W hb (h1:RVp m ((p).2) u W) (h2:RVp m ((q).2) v W)=>⟨u,v,_,_,rfl,h1,h2,hT.below (s.up hb),rfl⟩))<|oc (y6 (fun u v W (hu:QNp (op (p).1 (q).1) u W) (hv:QNp (op (p).2 (q).2) v W)=>zQC (zAu _) (zAu _) hu hv))<|zD) fun Q' hQ a w2 s=> ?_
 refine zS (wC (fPN (op p.1 q.1,op p.2 q.2))) ((fPN (op p.1 q.1,op p.2 q.2)).tS) rfl s kH rfl rfl rfl iiz iiz yV fun a w s=> ?_
 refine zA rfl (hQ _ _ ?_)
 refine zXh ?_
 exact wH s (wC (fPN (op p.1 q.1,op p.2 q.2))) rfl kH rfl rfl (zO _ _) (fun cs W h=>h)
theorem zLU (hf:(SF.fn prog (T2 m op)).p f W):Calls prog 74 #[f] W (Ret W (SF.fn prog (T3 m op))):=by
 have hfc:f.cells=#[f]/\yA f=true:=by obtain ⟨g,caps,rfl,_⟩:=hf;exact ⟨rfl,rfl⟩
 refine z7 [(wB f).tS] func74 rfl kH ⟨rfl,trivial⟩ fun a s=> ?_
 refine zXg ?_
 refine zB 0 [] hmix s kH
  zD fun a w1 s=> ?_
 refine yG (wF [f]) rfl s kH (fun v W h=>zJC h hfc.1 hfc.2) fun b1 a w s=> ?_
 refine yP (wB (.nilFunc)) rfl s kH iiz fun a w s=> ?_
 refine zA rfl ?_
 refine zXg ?_
 replace s:=s.drop [2]
 refine qS 2 ((3,.s (SF.fn prog (T3 m op)))::(2,.s (SF.fn prog (T3 m op))):: []) hmix s kH
  (oc (zGq (fun u W hb (h:(wL b1 (wF [f]).cf).p u W)=>zMI (enters_of func96 kH rfl) (fun W' hb' args R ⟨u1,v1,p,q,e,h1,h2,hT,hR⟩=>by subst e hR;simpa using zOs h1 h2 ((wE (wF [f]).cf).st _ _ _ h.2 hb') ((SF.fn prog (T2 m op)).st _ _ _ ((SF.fn prog (T2 m op)).st _ _ _ hf (s.up hb)) hb') hT)))<|oc zG<|zD) fun a w2 s hr=> ?_
 refine zA rfl ?_
 refine zXh ?_
 exact StS.resN s (zXl _ _) rfl (hr (_,_) mz1)
theorem zKP {q:V2} (h1:(fPV m p).p u W) (h2:(fPV m q).p v W) (hm:m<=650) (hm0:0<m) (hT:Tab W):Calls prog 46 #[u,v] W (Ret W (fPN (p.1 - q.1,p.2 - q.2)).tS):=by
 refine z7 [(fPV m p).tS,(fPV m q).tS] func46 rfl kH ⟨h1,h2,trivial⟩ fun a s=> ?_
 refine zXg ?_
 refine zB 0 [] hmix s kH
  zD fun a w1 s=> ?_
 refine yG (wC (fPV m p)) rfl s kH (fun v W h=>yO h) fun b2 a w s=> ?_
 refine yG (wC (fPV m q)) rfl s kH (fun v W h=>yO h) fun b3 a w s=> ?_
 refine zZ (CU.len 6) (cs:=zP6) kH rfl s kH (fun W=>rfl) rfl fun b4 a w s=> ?_
 refine zA rfl ?_
 refine zXg ?_
 refine z9 [] 4 ((5,.s (SF.fn prog (T3 m (· - ·))))::(6,.Z (fPV m p))::(7,.Z (fPV m q))::(8,.u (fPN (p.1 - q.1,p.2 - q.2))):: []) hmix s kH
  (oc (zH zE zTQ (fun u0 W hb h0=>by rw [show u0=_ from h0];exact zLU (zTI hm hm0 W)))<|oc (zJ (f:=fPV m p) 6 kH (hz:=zO _ _))<|oc (zJ (f:=fPV m q) 6 kH (hz:=zO _ _))<|oc (zP1 (T3 m (· - ·)) zE iiz (fun u v W hb (h1:(fPV m p).p u W) (h2:(fPV m q).p v W)=>⟨u,v,p,q,rfl,h1,h2,hT.below (s.up hb),rfl⟩))<|zD) fun Q' hQ a w2 s=> ?_
 refine zS (wC (fPN (p.1 - q.1,p.2 - q.2))) ((fPN (p.1 - q.1,p.2 - q.2)).tS) rfl s kH rfl rfl rfl iiz iiz yV fun a w s=> ?_
 refine zA rfl (hQ _ _ ?_)
 refine zXh ?_
 exact wH s (wC (fPN (p.1 - q.1,p.2 - q.2))) rfl kH rfl rfl (zO _ _) (fun cs W h=>h)
theorem zSz {q:V2} (h1:(fPV m p).p u W) (h2:(fPV m q).p v W) (hm:m<=650) (hm0:0<m) (hT:Tab W):Calls prog 47 #[u,v] W (Ret W (fPN (p.1+q.1,p.2+q.2)).tS):=by
 refine z7 [(fPV m p).tS,(fPV m q).tS] func47 rfl kH ⟨h1,h2,trivial⟩ fun a s=> ?_
 refine zXg ?_
 refine zB 0 [] hmix s kH
  zD fun a w1 s=> ?_
 refine yG (wC (fPV m p)) rfl s kH (fun v W h=>yO h) fun b2 a w s=> ?_
 refine yG (wC (fPV m q)) rfl s kH (fun v W h=>yO h) fun b3 a w s=> ?_
 refine zZ (CU.len 6) (cs:=zP6) kH rfl s kH (fun W=>rfl) rfl fun b4 a w s=> ?_
 refine zA rfl ?_
 refine zXg ?_
 refine z9 [] 5 ((5,.s (SF.fn prog (T2 m (·+·))))::(6,.s (SF.fn prog (T3 m (·+·))))::(7,.Z (fPV m p))::(8,.Z (fPV m q))::(9,.u (fPN (p.1+q.1,p.2+q.2))):: []) hmix s kH
  (oc (zH zE zVo (fun u0 W hb h0=>zUE (enters_of func77 kH rfl) (zTH hm) hm0 h0))<|oc (zH zE zTQ (fun u0 W hb (h0:(SF.fn prog (T2 m (·+·))).p u0 W)=>zLU h0))<|oc (zJ (f:=fPV m p) 6 kH (hz:=zO _ _))<|oc (zJ (f:=fPV m q) 6 kH (hz:=zO _ _))<|oc (zP1 (T3 m (·+·)) zE iiz (fun u v W hb (h1:(fPV m p).p u W) (h2:(fPV m q).p v W)=>⟨u,v,p,q,rfl,h1,h2,hT.below (s.up hb),rfl⟩))<|zD) fun Q' hQ a w2 s=> ?_
 refine zS (wC (fPN (p.1+q.1,p.2+q.2))) ((fPN (p.1+q.1,p.2+q.2)).tS) rfl s kH rfl rfl rfl iiz iiz yV fun a w s=> ?_
 refine zA rfl (hQ _ _ ?_)
 refine zXh ?_
 exact wH s (wC (fPN (p.1+q.1,p.2+q.2))) rfl kH rfl rfl (zO _ _) (fun cs W h=>h)
theorem zNA {q:V2} (h1:(fPV m p).p u W) (h2:(fPV m q).p v W) (hp:QB p.1 m/\QB p.2 m) (hq:QB q.1 m/\QB q.2 m) (hm:m<=320) (hm0:0<m) (hT:Tab W):Calls prog 88 #[u,v] W (Ret W (fQN (p.1*q.2 - p.2*q.1)).tS):=by
 refine z7 [(fPV m p).tS,(fPV m q).tS] func88 rfl kH ⟨h1,h2,trivial⟩ fun a s=> ?_
 refine zXg ?_
 refine zB 0 [] hmix s kH
  zD fun a w1 s=> ?_
 refine yG (wC (fPV m p)) rfl s kH (fun v W h=>yO h) fun b2 a w s=> ?_
 refine yG (wC (fPV m q)) rfl s kH (fun v W h=>yO h) fun b3 a w s=> ?_
 refine zZ (CU.len 3) (cs:=zR3) kH rfl s kH (fun W=>rfl) rfl fun b4 a w s=> ?_
 refine zA rfl ?_
 refine zXg ?_
 refine z9 [] 13 ((5,.X (fPV m p) 0)::(6,.Z (fRV m ((p).1)))::(7,.X (fPV m q) 3)::(8,.Z (fRV m ((q).2)))::(9,.s (fQS m [(p).1,(q).2]))::(10,.Z (fQN ((p).1*(q).2)))::(11,.X (fPV m p) 3)::(12,.Z (fRV m ((p).2)))::(13,.X (fPV m q) 0)::(14,.Z (fRV m ((q).1)))::(15,.s (fQS m [(p).2,(q).1]))::(16,.Z (fQN ((p).2*(q).1)))::(17,.u (fQN ((p).1*(q).2 - (p).2*(q).1))):: []) hmix s kH
  (oc (zL (C:=cg (fPV m p)) 0 kH)<|oc (zT (C:=cg (fPV m p)) (k:=0) 3 kH (h:=zC6))<|oc (zL (C:=cg (fPV m q)) 3 kH)<|oc (zT (C:=cg (fPV m q)) (k:=3) 3 kH (h:=zCj))<|oc (yI (fun u v W (hu:RVp m ((p).1) u W) (hv:RVp m ((q).2) v W)=>zF6 hu hv))<|oc (zH zE zQt (fun u0 W hb (h0:(fQS m [(p).1,(q).2]).p u0 W)=>zLf h0 hp.1 hq.2 oO (hT.below (s.up hb))))<|oc (zL (C:=cg (fPV m p)) 3 kH)<|oc (zT (C:=cg (fPV m p)) (k:=3) 3 kH (h:=zCj))<|oc (zL (C:=cg (fPV m q)) 0 kH)<|oc (zT (C:=cg (fPV m q)) (k:=0) 3 kH (h:=zC6))<|oc (yI (fun u v W (hu:RVp m ((p).2) u W) (hv:RVp m ((q).1) v W)=>zF6 hu hv))<|oc (zH zE zQt (fun u0 W hb (h0:(fQS m [(p).2,(q).1]).p u0 W)=>zLf h0 hp.2 hq.1 oO (hT.below (s.up hb))))<|oc (zI zE zVp (fun u0 u1 W hb (h0:QNp ((p).1*(q).2) u0 W) (h1:QNp ((p).2*(q).1) u1 W)=>zPO (wK h0 (hp.1.mul hq.2)) (wK h1 (hp.2.mul hq.1)) oO oO (hT.below (s.up hb))))<|zD) fun Q' hQ a w2 s=> ?_
 refine zS (wC (fQN ((p).1*(q).2 - (p).2*(q).1))) ((fQN ((p).1*(q).2 - (p).2*(q).1)).tS) rfl s kH rfl rfl rfl iiz iiz yN fun a w s=> ?_
 refine zA rfl (hQ _ _ ?_)
 refine zXh ?_
 exact wH s (wC (fQN (p.1*q.2 - p.2*q.1))) rfl kH rfl rfl (jC _) (fun cs W h=>h)
end Go.Proofs.Wd

namespace Lb
set_option maxHeartbeats 2000000
theorem zSA {l:List Nat} (ht:Lt l) {j s x:Nat} (hj:j<l.length) (hz: ∀i,i<j->lm l i=0) (hx:lm l j=2^s*x) (ho:x % 2=1):TZ (val l) (32*j+s)/\s<32:=by
 have hb:=qO ht j
 have hs:s<32:=by
  have h1:2^s*1<=2^s*x:=Nat.mul_le_mul_left _ oO
  rw [Nat.mul_one, <-hx] at h1
  exact (Nat.pow_lt_pow_iff_right dA).1 (zXj h1 (by rw [zV7] at hb;simpa using hb))
 refine ⟨?_,hs⟩
 have e0:val (l.take j)=0:=by
  rw [zF1 oO]
  have:sm (lm l) j=sm (lm l) 0:=zC4 (zXn _) fun i _ hi=>hz i hi
  rw [this];rfl
 have e1:=jY l j oO
 rw [e0,Nat.zero_add,zBp hj,hx,zFZ] at e1
 obtain ⟨y,hy⟩: ∃y,val (l.drop (j+1))=y:=⟨_,rfl⟩
 rw [hy,show BB=2^s*(2*2^(31 - s)) from by rw [<-Nat.pow_succ', <-Nat.pow_add,show s+(31 - s+1)=32 from by omega];rfl,zXL, <-Nat.mul_add, <-zXL, <-Nat.pow_add] at e1
 refine ⟨x / 2+2^(31 - s)*y, ?_⟩
 rw [e1]
 congr 1
 rw [Nat.mul_add, <-zXL]
 omega
end Lb
namespace Go.Proofs.Wd
open Tryz
open Go.RowKit Lb
variable {W:Wi} {a m:Nat} {v:Wj}
theorem zNC (A:Wl Addr) (n c:Nat) (l:List Nat) (w:Wi) (h:Rd w A n c l) (ht:Lt l) (h0:0<val l) (hn:n<=2000):
  ∃q t:Nat,TZ (val l) (32*q+t)/\t<=31/\q<n/\Calls prog 112 #[.slice A n c] w fun e w'=>e= .returned (.int .i64 ((32*q+t:Nat):Int))/\w'=w:=by
 obtain ⟨j,hjn,hjz,hj0⟩: ∃j,j<n/\(∀i,i<j->lm l i=0)/\lm l j≠0:=by
  have hex: ∃j,lm l j≠0:=by
   refine zX2 fun hc=> ?_
   have hz: ∀i,lm l i=0:=fun i=>zX2 fun e=>hc ⟨i,e⟩
   have:sm (lm l) l.length=sm (lm l) 0:=zC4 (zXn _) fun i _ _=>hz i
   have e:val l=sm (lm l) l.length:=rfl
   rw [e,this] at h0
   simp [sm] at h0
  have hmin: ∀k,(∃j,j<=k/\lm l j≠0)-> ∃j,(∀i,i<j->lm l i=0)/\lm l j≠0:=by
   intro k
   induction k with
   |zero=>rintro ⟨j,hj,e⟩;exact ⟨j,fun i hi=>by omega,e⟩
   |succ k ih=>
    rintro ⟨j,hj,e⟩
    by_cases hk: ∃j,j<=k/\lm l j≠0
    ·exact ih hk
    ·exact ⟨j,fun i hi=>zX2 fun e'=>hk ⟨i,by omega,e'⟩,e⟩
  obtain ⟨j0,hj0⟩:=hex
  obtain ⟨j,h1,h2⟩:=hmin j0 ⟨j0,zXm _,hj0⟩
  refine ⟨j, ?_,h1,h2⟩
  rw [<-h.len]
  exact Nat.lt_of_not_le fun e=>h2 (zDM e)
 obtain ⟨s,hs⟩:=vN (lm l j) oO
 obtain ⟨m,hm⟩:=hs
 obtain ⟨htz,hs32⟩:=zSA ht (s:=s) (x:=2*m+1) (by rw [h.len];exact hjn) hjz hm oO
 refine ⟨j,s,htz,by omega,hjn, ?_⟩
 have hb:=qO ht j
 have hle:=h.le;have hcap:=h.cap
 have HJZ:=hid hjz;have HM:=hid hm;have HB:=hid hb
 obtain ⟨d,hd⟩: ∃d:Nat->Nat,d=fun i=>2^(s - i)*(2*m+1):=⟨_,rfl⟩
 have hd0:d 0=lm l j:=by rw [hd,hm];rfl
 have hds:d s % 2=1:=by rw [hd];simp
 have hdi: ∀i,i<s->d i % 2=0/\d i / 2=d (i+1):=fun i hi=>by
  rw [hd]
  show 2^(s - i)*(2*m+1) % 2=0/\2^(s - i)*(2*m+1) / 2=2^(s - (i+1))*(2*m+1)
  rw [show s - i=(s - (i+1))+1 from by omega,Nat.pow_succ',zXL]
  omega
 have hdl: ∀i,d i<=d 0:=fun i=>by
  rw [hd]
  exact Nat.mul_le_mul_right _ (zXt oO oO)
 have HD0:=hid hd0;have HDS:=hid hds;have HDI:=hid hdi;have HDL:=hid hdl
 clear hd hd0 hds hdi hdl
 have HL:Hid (∀i,lm l i<4294967296):=hid fun i=>qO ht i
 clear hjz hm htz hb h0
 go_enter func112,ntmps112
 go_wp2
 go_loopw [3,4] (fun t i wr=> ∃k:Nat,k<=j/\i= .int .i64 k/\t= .int .i64 ((32*k:Nat):Int)/\wr=w) (fun _ i _=>j - (intOf i).toNat)
 case atStart=>exact ⟨0,zXn _,rfl,rfl,rfl⟩
 case round=>
  obtain ⟨k,hk,rfl,rfl,rfl⟩:=hrel
  obtain ⟨b,o,rfl,hc⟩:=h.cells k oO
  by_cases hkj:k<j
  ·have hz:=HJZ.out k hkj
   rw [hz] at hc
   clear hz
   go_wp2
   go_roundw
   case rel=>exact ⟨k+1,by omega,by go_num,by go_num,trivial⟩
   case measure=>simp [intOf];omega
  ·obtain rfl:k=j:=by omega
   have hlk:=HL.out k
   obtain ⟨x,hx⟩: ∃x,lm l k=x:=⟨_,rfl⟩
   rw [hx] at hc hj0 hlk
   have HX:=hid hx
   clear hx
   have e1:((32*k:Nat):Int).tdiv 32=(k:Int):=by rw [zX3 oO];omega
   have e2:(((32*k:Nat):Int) / 32)=(k:Int):=by omega
   have hx2:((x:Int)==0)=false:=by simpa using hj0
   go_wp2
   go_loopw [3,5] (fun t y wr2=> ∃i:Nat,i<=s/\t= .int .i64 ((32*k+i:Nat):Int)/\y= .int .u32 (d i:Nat)/\wr2=wr) (fun t _ _=>32*k+s - (intOf t).toNat)
   case atStart=>exact ⟨0,zXn _,rfl,by rw [HD0.out,HX.out],rfl⟩
   case round=>
    obtain ⟨i,hi,rfl,rfl,rfl⟩:=hrel
    have hdx:=HDL.out i
    rw [HD0.out,HX.out] at hdx
    by_cases his:i<s
    ·obtain ⟨q1,q2⟩:=HDI.out i his
     obtain ⟨y,hy⟩: ∃y,d i=y:=⟨_,rfl⟩
     rw [hy] at q1 q2 hdx ⊢
     have HY:=hid q2
     clear q2 hy
     go_wp2
     go_roundw
     case rel=>exact ⟨i+1,by omega,by go_num,by rw [<-HY.out];go_num,trivial⟩
     case measure=>simp [intOf];omega
    ·obtain rfl:i=s:=by omega
     have q1:=HDS.out
     obtain ⟨y,hy⟩: ∃y,d i=y:=⟨_,rfl⟩
     rw [hy] at q1 hdx ⊢
     clear hy
     go_wp2
     go_ret
     exact ⟨rfl,rfl⟩
theorem zLe {v':Wj} {b:Nat} (h:LV W m v a) (h':LV W m v' b) (hm:m<=100000):Calls prog 69 #[v,v'] W (zNm W (a*b)):=by
 obtain ⟨A,n,c,l,rfl,h1,h2,h3,rfl⟩:=h
 obtain ⟨A',n',c',l',rfl,h1',h2',h3',rfl⟩:=h'
 exact (zJa A n c l A' n' c' l' W h1 h1' h2 h2' oO oO).mono fun _ _=>jM.v
theorem zD7 (h:LV W m v a) (hm:m<=100000):Calls prog 35 #[v] W (zNm W a):=by
 obtain ⟨A,n,c,l,rfl,h1,h2,h3,rfl⟩:=h
 exact (jQ A n c l W h1 h2 oO).mono fun _ _=>jM.v
theorem qR.open {x:Nat} (h:qR W v x): ∃A n c,v= .slice A n c/\(x=0->n=0)/\(0<x->0<n)/\n<=c/\c<=9223372036854775807/\qR W (.slice A n c) x:=by
 obtain ⟨A,n,c,l,rfl,h1,h2⟩:=h
 have h3:=h1.zero_iff;have h4:=h1.pos_iff
 rw [h2.len] at h3 h4
 exact ⟨A,n,c,rfl,h3.1,h4.1,h2.le,h2.cap,⟨A,n,c,l,rfl,h1,h2⟩⟩
end Go.Proofs.Wd

namespace Lb
set_option maxHeartbeats 2000000
theorem zP2 {x k:Nat} (h:TZ x k):x / 2^k % 2=1/\x / 2^k<=x/\0<x / 2^k:=by
 have:=h.part.2
 exact ⟨this,zXr _ _,Nat.pos_of_ne_zero fun e=>by rw [e] at this;simp at this⟩
def Bin (G x y:Nat):Prop:=0<y/\(x=0->y=G)/\ ∀i j,TZ x i->TZ y j->Nat.gcd (x / 2^i) (y / 2^j)=G
theorem Bin.start {a b i j:Nat} (hi:TZ a i) (hj:TZ b j):Bin (Nat.gcd (a / 2^i) (b / 2^j)) a b:=
 ⟨hj.pos,fun e=>by have:=hi.pos;omega,fun i' j' h1 h2=>by rw [h1.unique hi,h2.unique hj]⟩
theorem Bin.turn {G x y:Nat} (hx:x % 2=1) (hy:y % 2=1) (hg:Nat.gcd x y=G) (hle:y<=x):Bin G (x - y) y:=by
 refine ⟨by omega,fun e=> ?_,fun i j h1 h2=> ?_⟩
 ·have:x=y:=by omega
  rw [<-hg,this,Nat.gcd_self]
 ·have hj:j=0:=h2.unique (wW hy)
  rw [hj,Nat.pow_zero,Nat.div_one,Nat.gcd_comm,vE hy h1,Nat.gcd_comm,zGG hle,hg]
end Lb
namespace Go.Proofs.Wd
open Tryz
open Go.RowKit Lb
variable {W W0 w0:Wi} {M N c d i k m n n' o z:Nat} {A:Wl Addr} {lo x y:Wm} {e e' t t' ty:Wk} {l l0 v v':Wj} {a r:V2} {F:Fence} {P:Wn} {ops:Array Oper} {G:Nat->SF} {pos:String} {aft:Array Edge} {cs ds vs:List Wj} {qs:List Rat} {f g:UF} {L ps:List V2} {Cs:List CU} {ie:TypeInfo}
theorem zLh {x q t:Nat} (h:qR W (.slice A n c) x) (hx:x<BB^m) (hm:m<=2000) (htt:t<=31) (hq:q<n):Calls prog 113 #[.slice A n c,.int .i64 ((32*q+t:Nat):Int)] W (zNm W (x / 2^(32*q+t))):=by
 obtain ⟨A1,n1,c1,l1,e1,h1,h2⟩:=h
 cases e1
 have hn:n<=m:=zHI h1 h2 hx
 have:=zLi A n c l1 q t W h2 h1.lt htt oO oO oO
 rw [h1.val] at this
 exact this.mono fun _ _=>jM.v
theorem zUQ {x q t:Nat} (h:LV W m (.slice A n c) x) (hm:m<=2000) (htt:t<=31) (hq:q<=2000):Calls prog 116 #[.slice A n c,.int .i64 ((32*q+t:Nat):Int)] W (zNm W (x*2^(32*q+t))):=by
 obtain ⟨A1,n1,c1,l1,e1,h1,h2,h3,rfl⟩:=h
 cases e1
 exact (zLa A n c l1 q t W h1 h2 htt oO oO).mono fun _ _=>jM.v
def zV0 (w:Wi) (x:Nat):Ending->Wi->Prop:=fun e w'=> ∃v,e= .returned (.tuple #[v,.int .i64 0])/\qR w' v x/\bW w w'
theorem zPL {a b:Nat} (h:LV W m v a) (h':LV W m v' b) (hm:m<=2000) (hab:b<=a):Calls prog 115 #[v,v'] W (zV0 W (a - b)):=by
 obtain ⟨A,n,c,l,rfl,h1,h2,h3,rfl⟩:=h
 obtain ⟨A',n',c',l',rfl,h1',h2',h3',rfl⟩:=h'
 refine (zGb A n c l A' n' c' l' W h1 h1' h2 h2' hab oO).mono ?_
 rintro e w' ⟨A1,n1,c1,l1,rfl,i1,r1,hb⟩
 exact ⟨_,rfl,⟨A1,n1,c1,l1,rfl,i1,r1⟩,hb⟩
theorem zIT {x:Nat} (h:qR W (.slice A n c) x) (hx:x<BB^m) (hm:m<=2000) (h0:0<x):
  ∃q t:Nat,TZ x (32*q+t)/\t<=31/\q<n/\n<=m/\Calls prog 112 #[.slice A n c] W fun e w'=>e= .returned (.int .i64 ((32*q+t:Nat):Int))/\w'=W:=by
 obtain ⟨A1,n1,c1,l1,e1,h1,h2⟩:=h
 cases e1
 have hn:n<=m:=zHI h1 h2 hx
 obtain ⟨q,t,k1,k2,k3,k4⟩:=zNC A n c l1 W h2 h1.lt (by rw [h1.val];exact h0) oO
 rw [h1.val] at k1
 exact ⟨q,t,k1,k2,k3,hn,k4⟩
theorem qR.rdv {x:Nat} (h:qR W v x):rdv W v=x:=by
 obtain ⟨A1,n1,c1,l1,rfl,h1,h2⟩:=h
 exact h2.rdv h1
def RgI (w:Wi) (m G:Nat) (u v:Wj) (W:Wi):Prop:= ∃A n c A' n' c' x y,u= .slice A n c/\v= .slice A' n' c'/\qR W (.slice A n c) x/\qR W (.slice A' n' c') y/\x<BB^m/\y<BB^m/\Bin G x y/\bW w W
theorem zRy {a b:Nat} (h:LV W m v a) (h':LV W m v' b) (hm:m<=2000):Calls prog 92 #[v,v'] W (zNm W (Nat.gcd a b)):=by
 have hla:=h.bound;have hlb:=h'.bound
 obtain ⟨A0,n0,c0,rfl,-,k1,k2,h⟩:=h.open
 obtain ⟨B0,m0,d0,rfl,-,k3,k4,h'⟩:=h'.open
 go_enter func92,ntmps92
 go_wp2_with fail
 refine (zD7 h oO).mono ?_
 rintro e w1 ⟨va,rfl,ha,b1⟩
 obtain ⟨A,n,c,rfl,za,pa,ia,ja,ha⟩:=ha.open
 go_wp2_with fail
 refine (zD7 (h'.below b1) oO).mono ?_
 rintro e w2 ⟨vb,rfl,hb,b2⟩
 obtain ⟨A',n',c',rfl,zb,pb,ib,jb,hb⟩:=hb.open
 have b02:=b1.trans (b2.mono b1.size)
 have ha2:=ha.below b2
 clear h h' ha b1 b2 k1 k2 k3 k4
 by_cases h0:a=0∨b=0
 ·have hg:Nat.gcd a b=a+b:=by
   rcases h0 with e|e
   ·rw [e];simp
   ·rw [e];simp
  have h00:n=0∨(0<n/\n'=0):=by
   rcases zXy n with e|e
   ·exact .inl e
   ·refine .inr ⟨e,zb (h0.resolve_left fun e'=> ?_)⟩
    have:=za e';omega
  have HG:=hid hg
  clear za pa zb pb h0 hg
  have ad:=zRk (ha2.lv hla) (hb.lv hlb) oO 24
  have bS:bW w2 (w2.alloc (.cells #[.slice A n c,.slice A' n' c'] 24)):=(zXl _ w2).alloc (zXm _) _
  have HLA:=hid hla;have HLB:=hid hlb
  clear hla hlb
  rcases h00 with rfl|⟨e1,rfl⟩
  all_goals
   go_wp2_with fail
   refine ad.mono ?_
   rintro e w4 ⟨vs,rfl,hs,b4⟩
   go_wp2_with fail
   go_ret
   exact ⟨vs,rfl,by rw [HG.out];exact hs,b02.trans ((bS.trans (b4.mono bS.size)).mono b02.size)⟩
 ·have hn0:0<n:=pa oO
  have hn0':0<n':=pb oO
  have hnb:((n:Int)==0)=false:=by simp;omega
  have hnb':((n':Int)==0)=false:=by simp;omega
  obtain ⟨q,t,hz,ht,hq,hnm,htw⟩:=zIT ha2 hla hm oO
  obtain ⟨q',t',hz',ht',hq',hnm',htw'⟩:=zIT hb hlb hm oO
  have hgcd:=hz.gcd hz'
  have hbin:=Bin.start hz hz'
  have hG0:Nat.gcd (a / 2^(32*q+t)) (b / 2^(32*q'+t'))<BB^m:=zQe (zXj (zXr _ _) hla) (zXj (zXr _ _) hlb)
  obtain ⟨G,hG⟩: ∃G,Nat.gcd (a / 2^(32*q+t)) (b / 2^(32*q'+t'))=G:=⟨_,rfl⟩
  rw [hG] at hgcd hbin hG0
  obtain ⟨p,s,hs,hps,hpq⟩: ∃p s:Nat,s<=31/\p<=2000/\min (32*q+t) (32*q'+t')=32*p+s:=by
   rcases Nat.le_total (32*q+t) (32*q'+t') with e|e
   ·exact ⟨q,t,ht,by omega,by omega⟩
   ·exact ⟨q',t',ht',by omega,by omega⟩
  rw [hpq] at hgcd
  have hmin:min ((32*q+t:Nat):Int) ((32*q'+t':Nat):Int)=((32*p+s:Nat):Int):=by omega
  have HGC:=hid hgcd;have HBI:=hid hbin;have HG0:=hid hG0
  obtain ⟨k,hk⟩: ∃k,32*q+t=k:=⟨_,rfl⟩
  obtain ⟨k',hk'⟩: ∃k,32*q'+t'=k:=⟨_,rfl⟩
  rw [hk] at htw hmin
  rw [hk'] at htw' hmin
  obtain ⟨K,hK⟩: ∃K,32*p+s=K:=⟨_,rfl⟩
  rw [hK] at hmin
  have HK:=hid hK
  have hK2:K<=64500:=by omega
  have hk2:k<=64500:=by omega
  have hk2':k'<=64500:=by omega
  have HLA:=hid hla;have HLB:=hid hlb
  clear hgcd hbin hG0 hz hz' hG hpq hk hk' hK za pa zb pb hq hq' ht ht' hnm hnm' h0 hla hlb
  go_wp2_with fail
  refine htw.mono ?_
  rintro e w3 ⟨rfl,rfl⟩
  go_wp2_with fail
  refine htw'.mono ?_
  rintro e w3 ⟨rfl,rfl⟩
  go_wp2
  go_loopw [0,1] (RgI W m G) (fun u v wr=>rdv wr u+rdv wr v)
  case atStart=>exact ⟨A,n,c,A',n',c',a,b,rfl,rfl,ha2,hb,HLA.out,HLB.out,HBI.out,b02⟩
  case round=>
   clear ha2 hb b02 hn0 hn0' hnb hnb' htw htw' ia ja ib jb hmin
   obtain ⟨A1,n1,c1,A2,n2,c2,x,y,rfl,rfl,hx,hy,hxl,hyl,hbn,hB⟩:=hrel
   obtain ⟨_,_,_,e1,zx,px,ix,jx,_⟩:=hx.open
   cases e1
   obtain ⟨_,_,_,e1,zy,py,iy,jy,_⟩:=hy.open
   cases e1
   have hy0:=hbn.1
   have HBN:=hid hbn
   have HXL:=hid hxl;have HYL:=hid hyl
   rcases zXy n1 with h0|h0
   ·have hx0:x=0:=by
     rcases zXy x with e|e
     ·exact e
     ·have:=px e;omega
    have hyG:=hbn.2.1 hx0
    have HYG:=hid hyG
    have hup:=zUQ (q:=p) (t:=s) (hy.lv hyl) hm hs hps
    rw [HK.out] at hup
    subst h0
    clear hbn hxl hyl hx0 hyG zx px zy py
    go_wp2_with fail
    refine hup.mono ?_
    rintro e w5 ⟨v5,rfl,hv5,hb5⟩
    go_wp2_with fail
    go_ret
    exact ⟨v5,rfl,by rw [HGC.out,HK.out, <-HYG.out,Nat.mul_comm];exact hv5,hB.trans (hb5.mono hB.size)⟩
   ·have hx0:0<x:=Nat.pos_of_ne_zero fun e=>by have:=zx e;omega
    obtain ⟨q1,t1,z1,ht1,hq1,hnm1,htw1⟩:=zIT hx hxl hm hx0
    have hd1:=zLh hx hxl hm ht1 hq1
    obtain ⟨o1,o2,o3⟩:=zP2 z1
    obtain ⟨k1,hk1⟩: ∃k,32*q1+t1=k:=⟨_,rfl⟩
    have hk1l:k1<=64500:=by omega
    rw [hk1] at htw1 hd1 z1 o1 o2 o3
    have Z1:=hid z1
    obtain ⟨X,hX⟩: ∃X,x / 2^k1=X:=⟨_,rfl⟩
    have HX:=hid hX
    rw [hX] at hd1 o1 o2 o3
    clear z1 hX hk1 ht1 hq1 hnm1 hbn zx px zy py
    have HO1:=hid o1
    have hrx:=hx.rdv;have hry:=hy.rdv
    have HRX:=hid hrx;have HRY:=hid hry
    clear hrx hry o1
    go_wp2_with fail
    refine htw1.mono ?_
    rintro e w5 ⟨rfl,rfl⟩
    go_wp2_with fail
    refine hd1.mono ?_
    rintro e w6 ⟨v6,rfl,h6,b6⟩
    obtain ⟨A6,n6,c6,rfl,z6,p6,i6,j6,h6⟩:=h6.open
    have hy6:=hy.below b6
    obtain ⟨q2,t2,z2,ht2,hq2,hnm2,htw2⟩:=zIT hy6 hyl hm hy0
    have hd2:=zLh hy6 hyl hm ht2 hq2
    obtain ⟨o4,o5,o6⟩:=zP2 z2
    obtain ⟨k2,hk2⟩: ∃k,32*q2+t2=k:=⟨_,rfl⟩
    have hk2l:k2<=64500:=by omega
    rw [hk2] at htw2 hd2 z2 o4 o5 o6
    have Z2:=hid z2
    obtain ⟨Y,hY⟩: ∃Y,y / 2^k2=Y:=⟨_,rfl⟩
    have HY:=hid hY
    rw [hY] at hd2 o4 o5 o6
    clear z2 hY hk2 ht2 hq2 hnm2 htw1 hd1 z6 p6
    have HO4:=hid o4
    clear o4
    go_wp2_with fail
    refine htw2.mono ?_
    rintro e w7 ⟨rfl,rfl⟩
    go_wp2_with fail
    refine hd2.mono ?_
    rintro e w8 ⟨v8,rfl,h8,b8⟩
    obtain ⟨A8,n8,c8,rfl,z8,p8,i8,j8,h8⟩:=h8.open
    have h68:=h6.below b8
    have b68:=b6.trans (b8.mono b6.size)
    have hB8:=hB.trans (b68.mono hB.size)
    have hXl:X<BB^m:=zXj o2 HXL.out
    have hYl:Y<BB^m:=zXj o5 HYL.out
    have hXY:Nat.gcd X Y=G:=by rw [<-HX.out, <-HY.out];exact HBN.out.2.2 _ _ Z1.out Z2.out
    have HXY:=hid hXY
    obtain ⟨cz,hcz⟩: ∃cz,zAy X Y=cz:=⟨_,rfl⟩
    have hc1:=zS1 (h68.lv hXl) (h8.lv hYl)
    have hcl:cz<0↔X<Y:=by
     rw [<-hcz]
     unfold zAy
     split
     ·exact ⟨fun _=>by assumption,fun _=>by omega⟩
     ·split
      ·exact ⟨fun h=>by omega,fun h=>by omega⟩
      ·exact ⟨fun h=>by omega,fun h=>by omega⟩
    rw [hcz] at hc1
    clear htw2 hd2 z8 p8 h6 hy6 hx hy hXY hcz hxl hyl
    have HXl:=hid hXl;have HYl:=hid hYl
    clear hXl hYl
    rcases Nat.lt_or_ge X Y with hlt|hge
    ·have hcz:cz<0:=hcl.2 hlt
     have hsb:=zPL (h8.lv HYl.out) (h68.lv HXl.out) hm (zXI hlt)
     have hbt:=Bin.turn (G:=G) HO4.out HO1.out (by rw [Nat.gcd_comm];exact HXY.out) (zXI hlt)
     have HBT:=hid hbt
     clear hbt hcl
     go_wp2_with fail
     refine hc1.mono ?_
     rintro e w9 ⟨rfl,rfl⟩
     go_wp2_with fail
     refine hsb.mono ?_
     rintro e w10 ⟨v10,rfl,h10,b10⟩
     obtain ⟨A10,n10,c10,rfl,z10,p10,i10,j10,h10⟩:=h10.open
     clear z10 p10
     go_wp2_with fail
     refine ⟨⟨A10,n10,c10,A6,n6,c6,Y - X,X,rfl,rfl,h10,h68.below b10,zXj (Nat.sub_le _ _) HYl.out,HXl.out,HBT.out,hB8.trans (b10.mono hB8.size)⟩, ?_⟩
     show rdv _ _+rdv _ _<rdv _ _+rdv _ _
     rw [h10.rdv,(h68.below b10).rdv,HRX.out,HRY.out]
     omega
    ·have hcz: ¬cz<0:=fun e=>by have:=hcl.1 e;omega
     have hsb:=zPL (h68.lv HXl.out) (h8.lv HYl.out) hm hge
     have hbt:=Bin.turn (G:=G) HO1.out HO4.out HXY.out hge
     have HBT:=hid hbt
     clear hbt hcl
     go_wp2_with fail
     refine hc1.mono ?_
     rintro e w9 ⟨rfl,rfl⟩
     go_wp2_with fail
     refine hsb.mono ?_
     rintro e w10 ⟨v10,rfl,h10,b10⟩
     obtain ⟨A10,n10,c10,rfl,z10,p10,i10,j10,h10⟩:=h10.open
     clear z10 p10
     go_wp2_with fail
     refine ⟨⟨A10,n10,c10,A8,n8,c8,X - Y,Y,rfl,rfl,h10,h8.below b10,zXj (Nat.sub_le _ _) HXl.out,HYl.out,HBT.out,hB8.trans (b10.mono hB8.size)⟩, ?_⟩
     show rdv _ _+rdv _ _<rdv _ _+rdv _ _
     rw [h10.rdv,(h8.below b10).rdv,HRX.out,HRY.out]
     omega
theorem zS5 {u:Wj} (k:Int) (hu:u= .int .i64 k) (h: -9223372036854775808<=k/\k<=9223372036854775807):Calls prog 41 #[u] W (zGR W k):=by
 subst hu
 exact zS6 k h
set_option maxRecDepth 100000
def zMO:Nat:=10000
theorem zTy {x:Nat} (h:x<18446744073709551616) (m:Nat) (hm:2<=m):x<BB^m:=zXq h (zXp (show 18446744073709551616<=BB^2 by decide) (zXt y7 hm))
theorem zHi {x:Nat} (h:LV W m v x) (hm:m<=100000):Calls prog 90 #[v] W (Ret W (zAw (wB (.int .u64 ((zN x:Nat):Int))) (fB (yX x))).tS):=by
 obtain ⟨A,n,c,l,rfl,h1,h2,h3,rfl⟩:=h
 refine (zJ4 A n c l W h1 h2 oO).mono ?_
 rintro e w' ⟨rfl,hb⟩
 exact ⟨_,rfl,⟨_,_,rfl,rfl,rfl⟩,hb⟩
theorem zPP (x:Nat) (hx:x<18446744073709551616) (hv:v= .int .u64 (x:Int)):Calls prog 70 #[v] W (Ret W (jA x).tS):=by
 subst hv
 exact (zIg x hx W).mono fun _ _ h=>jM.v h
theorem zAO (x:Nat):zN x<18446744073709551616:=by unfold zN;split<;>omega
theorem zL0 {d:Tmp} (k:IntKind) (u v r:Int) (hx: ∀q W,(fct G x).p q W->q= .int k u) (hy: ∀q W,(fct G y).p q W->q= .int k v) (hv:v≠0) (hr:k.wrap (u.tdiv v)=r) (hd: ∀W,(G d).p (.int k r) W:=by exact fun _=>rfl):qK F m P w0 ops G ⟨some d,.binOp .quo t x y t',ty,pos,aft,none⟩:=
 zDH (.int k u) (.int k v) (.int k r) hx hy (fun W=>by simp [eqGuard]) (fun W=>by simp [binOp,Op.intDiv,hv,hr]) hd
theorem zSx (u:Int) (r:Nat) (h:u=r) (hr:r<18446744073709551616):IntKind.u64.wrap u=r:=by
 subst h
 rw [IntKind.wrap_u64]
 omega
theorem zJl {x:Nat} (h:qR W v x):Calls prog 40 #[v] W (Ret W (fNV (x:Int)).tS):=by
 refine z7 [(jA x).tS] func40 rfl kH ⟨h,trivial⟩ fun a s=> ?_
 refine zXg ?_
 refine zB 0 [] hmix s kH
  zD fun a w1 s=> ?_
 refine zZ (CU.len 2) (cs:= [.bool false, sN]) kH rfl s kH (fun W=>rfl) rfl fun b2 a w s=> ?_
 refine zA rfl ?_
 refine zXg ?_
 refine zB 2 ((3,.Z (jA x))::(4,.u (fNV (x:Int))):: []) hmix s kH
  (oc zC<|oc (zFf (fun u W (hu:qR W u x)=>zNc hu))<|zD) fun a w2 s=> ?_
 refine zS (wC (fNV (x:Int))) ((fNV (x:Int)).tS) rfl s kH rfl rfl rfl iiz iiz zGv fun a w s=> ?_
 refine zA rfl ?_
 refine zXh ?_
 exact wH s (wC (fNV (x:Int))) rfl kH rfl rfl (zP4 _) (fun cs W h=>h)
theorem zCt (z:Int) (hv:v= .int .i64 z) (hz: -9223372036854775808<=z/\z<=9223372036854775807):Calls prog 13 #[v] W (Ret W (fQN (z:Rat)).tS):=by
 refine z7 [(fI z).tS] func13 rfl kH ⟨hv,trivial⟩ fun a s=> ?_
 refine zXg ?_
 refine zB 0 [] hmix s kH
  zD fun a w1 s=> ?_
 refine zZ (CU.len 3) (cs:=zR3) kH rfl s kH (fun W=>rfl) rfl fun b2 a w s=> ?_
 refine zA rfl ?_
 refine zXg ?_
 refine zB 4 ((3,.Z (uI z))::(4,.Z (fNV z))::(5,.Z (jA 1))::(6,.u (fQN (z:Rat))):: []) hmix s kH
  (oc zC<|oc (zH zE zVC (fun u0 W hb (h0:u0= .int .i64 z)=>zS5 z h0 hz))<|oc (zAb (fun u W (hu:u= .int .u32 1)=>zPJ hu))<|oc (y6 (fun u v W (hu:NV W u z) (hv:qR W v 1)=>zHU (q:=(z:Rat)) hu hv))<|zD) fun a w2 s=> ?_
 refine zS (wC (fQN (z:Rat))) ((fQN (z:Rat)).tS) rfl s kH rfl rfl rfl iiz iiz yN fun a w s=> ?_
 refine zA rfl ?_
 refine zXh ?_
 exact wH s (wC (fQN (z:Rat))) rfl kH rfl rfl (jC _) (fun cs W h=>h)
theorem zEo (k:Int) (d:Nat) (h:0<d):(if decide (k<0) then -((k.natAbs / Nat.gcd k.natAbs d:Nat):Int) else ((k.natAbs / Nat.gcd k.natAbs d:Nat):Int))=(mkRat k d).num:=by
 have h1:=zDL k d h
 have h2:=zCc k d h
 rw [<-h1, <-h2]
 by_cases hs:(mkRat k d).num<0
 ·rw [zXw hs,if_pos rfl]
  omega
 ·rw [zXz hs,if_neg dA]
  omega
theorem zRp {k:Int} (h:UV W m v k) (h':LV W m v' d) (hm:m<=2000) (hd:d=0):Calls prog 66 #[v,v'] W (Ret W (zAw (fQN (mkRat k d)) (fI 30)).tS):=by
 have bk:k.natAbs<BB^m:=h.bound
 have hz:true=decide (d=0):=(zXw hd).symm
 have hq0:mkRat k d=((0:Int):Rat):=by rw [hd,zXH];rfl
 refine z7 [(fUV m k).tS,(fLV m d).tS] func66 rfl kH ⟨h,h',trivial⟩ fun a s=> ?_
 refine zXg ?_
 refine zB 0 [] hmix s kH
  zD fun a w1 s=> ?_
 refine yG (wC (fUV m k)) rfl s kH (fun v W h=>zPA h) fun b2 a w s=> ?_
 refine zZ (CU.len 3) (cs:=zR3) kH rfl s kH (fun W=>rfl) rfl fun b4 a w s=> ?_
 refine yP (uI 0) rfl s kH iiz fun a w s=> ?_
 refine zA rfl ?_
 refine zXg ?_
 refine zXg ?_
 refine zB 4 ((18,.Z (fLV m d))::(19,.Z (jA d))::(20,.s (zQo d))::(21,.u (uB true)):: []) hmix s kH
  (oc zC<|oc (zH zE zPg (fun u0 W hb (h0:LV W m u0 d)=>(zD7 h0 oO)))<|oc (zEe kH iiz)<|oc (zEf hz)<|zD) fun a w2 s=> ?_
 refine zA rfl ?_
 refine StS.cond s true iiz (fun e=> ?_) (fun e=>by cases e)
 refine zXg ?_
 replace s:=s.drop [5]
 refine zB 1 ((22,.u (fQN ((0:Int):Rat))):: []) hmix s kH
  (oc (zH zE zFq (fun u0 W hb (h0:u0= .int .i64 0)=>zCt 0 h0 dA))<|zD) fun a w3 s=> ?_
 refine zS (wC (fQN ((0:Int):Rat))) ((fQN ((0:Int):Rat)).tS) rfl s kH rfl rfl rfl iiz iiz yN fun a w s=> ?_
 refine yP (uI 30) rfl s kH iiz fun a w s=> ?_
 refine zA rfl ?_
 refine zXh ?_
 exact wU s (wC (fQN ((0:Int):Rat))) rfl kH rfl rfl (jC _) (fun cs v W h1 h2=>⟨_,_,rfl,by rw [hq0];exact h1,h2⟩)
theorem zLv {k:Int} (h:UV W m v k) (h':LV W m v' d) (hm:m<=2000) (hd0:0<d):Calls prog 66 #[v,v'] W (Ret W (zAw (fQN (mkRat k d)) (fI 0)).tS):=by
 have bk:k.natAbs<BB^m:=h.bound
 have hz:false=decide (d=0):=(zXz oO).symm
 have hdiv: ∀W u0 u1 x,LV W m u0 x->qR W u1 (Nat.gcd k.natAbs d)->Calls prog 93 #[u0,u1] W (Ret W (zDU (jA (x / (Nat.gcd k.natAbs d))) (jA (x % (Nat.gcd k.natAbs d))) (fI 0)).tS):=fun W u0 u1 x h1 h2=>by
  refine (zS0 h1 (qR.lv (m:=m) h2 (zXj (Nat.gcd_le_right _ hd0) h'.bound)) oO (zX8 _ hd0)).mono ?_
  rintro e w' ⟨v1,v2,rfl,h3,h4,hb⟩
  exact ⟨_,rfl,⟨v1,v2,_,rfl,h3,h4,rfl⟩,hb⟩
 refine z7 [(fUV m k).tS,(fLV m d).tS] func66 rfl kH ⟨h,h',trivial⟩ fun a s=> ?_
 refine zXg ?_
 refine zB 0 [] hmix s kH
  zD fun a w1 s=> ?_
 refine yG (wC (fUV m k)) rfl s kH (fun v W h=>zPA h) fun b2 a w s=> ?_
 refine zZ (CU.len 3) (cs:=zR3) kH rfl s kH (fun W=>rfl) rfl fun b4 a w s=> ?_
 refine yP (uI 0) rfl s kH iiz fun a w s=> ?_
 refine zA rfl ?_
 refine zXg ?_
 refine zXg ?_
 refine zB 4 ((18,.Z (fLV m d))::(19,.Z (jA d))::(20,.s (zQo d))::(21,.u (uB false)):: []) hmix s kH
  (oc zC<|oc (zH zE zPg (fun u0 W hb (h0:LV W m u0 d)=>(zD7 h0 oO)))<|oc (zEe kH iiz)<|oc (zEf hz)<|zD) fun a w2 s=> ?_
 refine zA rfl ?_
 refine StS.cond s false iiz (fun e=>by cases e) (fun e=> ?_)
 refine zXo ?_
 refine zXg ?_
 refine zB 2 ((23,.Z (fUV m k))::(24,.u (fNV k)):: []) hmix s kH
  (oc (zJ (f:=fUV m k) 2 kH (hz:=zPz _ _))<|oc (zH zE zSf (fun u0 W hb (h0:UV W m u0 k)=>zGj h0 oO))<|zD) fun a w3 s=> ?_
 refine zS (wC (fNV k)) ((fNV k).tS) rfl s kH rfl rfl rfl (zPz _ _) iiz zGv fun a w s=> ?_
 refine zA rfl ?_
 refine zXg ?_
 refine zB 8 ((26,.X (fNV k) 1)::(27,.Z (jA ((k).natAbs)))::(28,.Z (zAw (wB (.int .u64 ((zN ((k).natAbs):Nat):Int))) (uB (yX ((k).natAbs)))))::(25,.Z (zAw (wB (.int .u64 ((zN ((k).natAbs):Nat):Int))) (uB (yX ((k).natAbs)))))::(29,.Z (wB (.int .u64 ((zN ((k).natAbs):Nat):Int))))::(30,.Z (uB (yX ((k).natAbs))))::(6,.u (wB (.int .u64 ((zN ((k).natAbs):Nat):Int))))::(7,.u (uB (yX ((k).natAbs)))):: []) hmix s kH
  (oc (zL (C:=cg (fNV k)) 1 kH)<|oc (jE (C:=cg (fNV k)) (k:=1) kH (h:=zHx))<|oc (zH zE zTN (fun u0 W hb (h0:qR W u0 ((k).natAbs))=>zHi (qR.lv (m:=m) h0 bk) oO))<|oc zC<|oc (zAK (A:=(wB (.int .u64 ((zN ((k).natAbs):Nat):Int))).tS) (B:=(uB (yX ((k).natAbs))).tS) iiz)<|oc (zAJ (A:=(wB (.int .u64 ((zN ((k).natAbs):Nat):Int))).tS) (B:=(uB (yX ((k).natAbs))).tS) iiz)<|oc zG<|oc zG<|zD) fun a w4 s=> ?_
 refine zA rfl ?_
 refine zXg ?_
 refine zB 7 ((32,.Z (fLV m d))::(33,.Z (zAw (wB (.int .u64 ((zN d:Nat):Int))) (uB (yX d))))::(31,.Z (zAw (wB (.int .u64 ((zN d:Nat):Int))) (uB (yX d))))::(34,.Z (wB (.int .u64 ((zN d:Nat):Int))))::(35,.Z (uB (yX d)))::(8,.u (wB (.int .u64 ((zN d:Nat):Int))))::(9,.u (uB (yX d))):: []) hmix s kH
  (oc zC<|oc (zH zE zTN (fun u0 W hb (h0:LV W m u0 d)=>zHi h0 oO))<|oc zC<|oc (zAK (A:=(wB (.int .u64 ((zN d:Nat):Int))).tS) (B:=(uB (yX d)).tS) iiz)<|oc (zAJ (A:=(wB (.int .u64 ((zN d:Nat):Int))).tS) (B:=(uB (yX d)).tS) iiz)<|oc zG<|oc zG<|zD) fun a w5 s=> ?_
 refine zA rfl ?_
 refine zXg ?_
 refine zXg ?_
 refine zB 4 ((36,.Z (uB (yX ((k).natAbs))))::(37,.Z (uB (yX ((k).natAbs))))::(38,.s (SF.imp ((yX ((k).natAbs))=true) ((uB (yX d)).tS)))::(39,.u (uB ((yX ((k).natAbs))&&(yX d)))):: []) hmix s kH
  (oc zC<|oc zC<|oc (zF 37 (yX ((k).natAbs)) kH iiz (fun e=>zQ [] ((uB (yX d)).tS) fnz fM kH zC) fL)<|oc (yJ (yX ((k).natAbs)) iiz (fun e v W h=>jU (zK e h) e) (fun e v W h=>jD h e))<|zD) fun a w6 s=> ?_
 refine zA rfl ?_
 refine StS.cond s ((yX ((k).natAbs))&&(yX d)) iiz (fun e=> ?_) (fun e=> ?_)
 ·rw [zXD] at e
  have hs1:zN k.natAbs=k.natAbs:=by have:=e.1;unfold yX at this;unfold zN;rw [if_pos (zXk this)]
  have hs2:zN d=d:=by have:=e.2;unfold yX at this;unfold zN;rw [if_pos (zXk this)]
  have hg0:((Nat.gcd (zN k.natAbs) (zN d):Nat):Int)≠0:=by rw [hs1,hs2];have:=zX8 k.natAbs hd0;omega
  have hden:(mkRat k d).den=zN d / (Nat.gcd (zN k.natAbs) (zN d)):=by rw [hs1,hs2];exact zCA k d hd0
  have hlt: ∀x,x<18446744073709551616->x<BB^zMO:=fun x hx=>zTy hx _ dA
  have hnum: ∀W u,UV W zMO u (if decide (k<0) then -(((zN k.natAbs / (Nat.gcd (zN k.natAbs) (zN d))):Nat):Int) else (((zN k.natAbs / (Nat.gcd (zN k.natAbs) (zN d))):Nat):Int))->Calls prog 65 #[u] W (zGR W (mkRat k d).num):=fun W u hu=>by
   have:=zGj hu dA
   rw [hs1,hs2,zEo k d hd0] at this
   exact this
  refine zXg ?_
  refine zB 4 ((40,.Z (wB (.int .u64 ((zN ((k).natAbs):Nat):Int))))::(41,.Z (wB (.int .u64 ((zN d:Nat):Int))))::(42,.Z (wB (.int .u64 ((Nat.gcd (zN k.natAbs) (zN d):Nat):Int))))::(10,.u (wB (.int .u64 ((Nat.gcd (zN k.natAbs) (zN d):Nat):Int)))):: []) hmix s kH
   (oc zC<|oc zC<|oc (zI zE zVf (fun u0 u1 W hb (h0:u0= .int .u64 ((zN ((k).natAbs):Nat):Int)) (h1:u1= .int .u64 ((zN d:Nat):Int))=>zLu _ _ h0 h1 (zAO _) (zAO _)))<|oc zG<|zD) fun a w7 s=> ?_
  refine zA rfl ?_
  refine zXg ?_
  replace s:=s.drop [5]
  refine z9 [2,3,8,9] 13 ((43,.X (fNV k) 0)::(44,.Z (uB (decide (k<0))))::(45,.Z (wB (.int .u64 ((zN ((k).natAbs):Nat):Int))))::(46,.Z (wB (.int .u64 ((Nat.gcd (zN k.natAbs) (zN d):Nat):Int))))::(47,.Z (wB (.int .u64 ((zN k.natAbs / (Nat.gcd (zN k.natAbs) (zN d)):Nat):Int))))::(48,.Z (jA (zN k.natAbs / (Nat.gcd (zN k.natAbs) (zN d)))))::(49,.Z (fUV zMO (if decide (k<0) then -((zN k.natAbs / (Nat.gcd (zN k.natAbs) (zN d)):Nat):Int) else ((zN k.natAbs / (Nat.gcd (zN k.natAbs) (zN d)):Nat):Int))))::(50,.Z (fNV ((mkRat k d).num)))::(51,.Z (wB (.int .u64 ((zN d:Nat):Int))))::(52,.Z (wB (.int .u64 ((Nat.gcd (zN k.natAbs) (zN d):Nat):Int))))::(53,.Z (wB (.int .u64 ((zN d / (Nat.gcd (zN k.natAbs) (zN d)):Nat):Int))))::(54,.Z (jA (zN d / (Nat.gcd (zN k.natAbs) (zN d)))))::(55,.u (fQN (mkRat k d))):: []) hmix s kH
   (oc (zL (C:=cg (fNV k)) 0 kH)<|oc (jE (C:=cg (fNV k)) (k:=0) kH (h:=zL8))<|oc zC<|oc zC<|oc (zL0 .u64 ((zN ((k).natAbs):Nat):Int) ((Nat.gcd (zN k.natAbs) (zN d):Nat):Int) ((zN k.natAbs / (Nat.gcd (zN k.natAbs) (zN d)):Nat):Int) iiz iiz hg0 (zSx _ _ (by rw [zX3 oO,Int.natCast_ediv]) (zXj (zXr _ _) (zAO _))))<|oc (zH zE zTR (fun u0 W hb (h0:u0= .int .u64 ((zN k.natAbs / (Nat.gcd (zN k.natAbs) (zN d)):Nat):Int))=>zPP _ (zXj (zXr _ _) (zAO _)) h0))<|oc (y6 (fun u v W (hu:u= .bool (decide (k<0))) (hv:qR W v (zN k.natAbs / (Nat.gcd (zN k.natAbs) (zN d))))=>zSq hu hv (hlt _ (by first|exact zXj (zXr _ _) (zAO _)|exact hk64|exact zXj (zXr _ _) (zXq bk (zXt y7 (zXp hm dA)))))))<|oc (zH zE zSf (fun u0 W hb (h0:UV W zMO u0 (if decide (k<0) then -((zN k.natAbs / (Nat.gcd (zN k.natAbs) (zN d)):Nat):Int) else ((zN k.natAbs / (Nat.gcd (zN k.natAbs) (zN d)):Nat):Int)))=>hnum W u0 (h0:UV W zMO u0 _)))<|oc zC<|oc zC<|oc (zL0 .u64 ((zN d:Nat):Int) ((Nat.gcd (zN k.natAbs) (zN d):Nat):Int) ((zN d / (Nat.gcd (zN k.natAbs) (zN d)):Nat):Int) iiz iiz hg0 (zSx _ _ (by rw [zX3 oO,Int.natCast_ediv]) (zXj (zXr _ _) (zAO _))))<|oc (zH zE zTR (fun u0 W hb (h0:u0= .int .u64 ((zN d / (Nat.gcd (zN k.natAbs) (zN d)):Nat):Int))=>zPP _ (zXj (zXr _ _) (zAO _)) h0))<|oc (y6 (fun u v W (hu:NV W u ((mkRat k d).num)) (hv:qR W v (zN d / (Nat.gcd (zN k.natAbs) (zN d))))=>zHU (q:=mkRat k d) hu (by first|exact hv|(rw [hden];exact hv))))<|zD) fun Q' hQ a w8 s=> ?_
  refine zS (wC (fQN (mkRat k d))) ((fQN (mkRat k d)).tS) rfl s kH rfl rfl rfl iiz iiz yN fun a w s=> ?_
  refine yP (uI 0) rfl s kH iiz fun a w s=> ?_
  refine zA rfl (hQ _ _ ?_)
  refine zXh ?_
  exact wU s (wC (fQN (mkRat k d))) rfl kH rfl rfl (jC _) (fun cs v W h1 h2=>⟨_,_,rfl,h1,h2⟩)
 ·have hlt: ∀x,x<BB^zMO->x<BB^zMO:=fun x hx=>hx
  have hden:(mkRat k d).den=d / (Nat.gcd k.natAbs d):=zCA k d hd0
  have hnum: ∀W u,UV W zMO u (if decide (k<0) then -((((k).natAbs / (Nat.gcd k.natAbs d)):Nat):Int) else ((((k).natAbs / (Nat.gcd k.natAbs d)):Nat):Int))->Calls prog 65 #[u] W (zGR W (mkRat k d).num):=fun W u hu=>by
   have:=zGj hu dA
   rw [zEo k d hd0] at this
   exact this
  refine zXo ?_
  refine zXg ?_
  refine zB 5 ((56,.X (fNV k) 1)::(57,.Z (jA ((k).natAbs)))::(58,.Z (fLV m d))::(59,.Z (jA (Nat.gcd k.natAbs d)))::(11,.u (jA (Nat.gcd k.natAbs d))):: []) hmix s kH
   (oc (zL (C:=cg (fNV k)) 1 kH)<|oc (jE (C:=cg (fNV k)) (k:=1) kH (h:=zHx))<|oc zC<|oc (zI zE zVe (fun u0 u1 W hb (h0:qR W u0 ((k).natAbs)) (h1:LV W m u1 d)=>zRy (qR.lv (m:=m) h0 bk) h1 oO))<|oc zG<|zD) fun a w9 s=> ?_
  refine zA rfl ?_
  refine zXg ?_
  refine zB 11 ((61,.X (fNV k) 1)::(62,.Z (jA ((k).natAbs)))::(63,.Z (jA (Nat.gcd k.natAbs d)))::(64,.Z (zDU (jA (((k).natAbs) / (Nat.gcd k.natAbs d))) (jA (((k).natAbs) % (Nat.gcd k.natAbs d))) (uI 0)))::(60,.Z (zDU (jA (((k).natAbs) / (Nat.gcd k.natAbs d))) (jA (((k).natAbs) % (Nat.gcd k.natAbs d))) (uI 0)))::(65,.Z (jA (((k).natAbs) / (Nat.gcd k.natAbs d))))::(66,.Z (jA (((k).natAbs) % (Nat.gcd k.natAbs d))))::(67,.Z (uI 0))::(12,.u (jA (((k).natAbs) / (Nat.gcd k.natAbs d))))::(13,.Z (jA (((k).natAbs) % (Nat.gcd k.natAbs d))))::(14,.Z (uI 0)):: []) hmix s kH
   (oc (zL (C:=cg (fNV k)) 1 kH)<|oc (jE (C:=cg (fNV k)) (k:=1) kH (h:=zHx))<|oc zC<|oc (zI zE zTM (fun u0 u1 W hb (h0:qR W u0 ((k).natAbs)) (h1:qR W u1 (Nat.gcd k.natAbs d))=>hdiv W u0 u1 _ (qR.lv (m:=m) h0 bk) h1))<|oc zC<|oc (zCT (A:=(jA (((k).natAbs) / (Nat.gcd k.natAbs d))).tS) (B:=(jA (((k).natAbs) % (Nat.gcd k.natAbs d))).tS) (C:=(uI 0).tS) iiz)<|oc (zCS (A:=(jA (((k).natAbs) / (Nat.gcd k.natAbs d))).tS) (B:=(jA (((k).natAbs) % (Nat.gcd k.natAbs d))).tS) (C:=(uI 0).tS) iiz)<|oc (zCR (A:=(jA (((k).natAbs) / (Nat.gcd k.natAbs d))).tS) (B:=(jA (((k).natAbs) % (Nat.gcd k.natAbs d))).tS) (C:=(uI 0).tS) iiz)<|oc zG<|oc zG<|oc zG<|zD) fun a w10 s=> ?_
  refine zA rfl ?_
  refine zXg ?_
  refine zB 10 ((69,.Z (fLV m d))::(70,.Z (jA (Nat.gcd k.natAbs d)))::(71,.Z (zDU (jA (d / (Nat.gcd k.natAbs d))) (jA (d % (Nat.gcd k.natAbs d))) (uI 0)))::(68,.Z (zDU (jA (d / (Nat.gcd k.natAbs d))) (jA (d % (Nat.gcd k.natAbs d))) (uI 0)))::(72,.Z (jA (d / (Nat.gcd k.natAbs d))))::(73,.Z (jA (d % (Nat.gcd k.natAbs d))))::(74,.Z (uI 0))::(15,.u (jA (d / (Nat.gcd k.natAbs d))))::(16,.Z (jA (d % (Nat.gcd k.natAbs d))))::(17,.Z (uI 0)):: []) hmix s kH
   (oc zC<|oc zC<|oc (zI zE zTM (fun u0 u1 W hb (h0:LV W m u0 d) (h1:qR W u1 (Nat.gcd k.natAbs d))=>hdiv W u0 u1 _ h0 h1))<|oc zC<|oc (zCT (A:=(jA (d / (Nat.gcd k.natAbs d))).tS) (B:=(jA (d % (Nat.gcd k.natAbs d))).tS) (C:=(uI 0).tS) iiz)<|oc (zCS (A:=(jA (d / (Nat.gcd k.natAbs d))).tS) (B:=(jA (d % (Nat.gcd k.natAbs d))).tS) (C:=(uI 0).tS) iiz)<|oc (zCR (A:=(jA (d / (Nat.gcd k.natAbs d))).tS) (B:=(jA (d % (Nat.gcd k.natAbs d))).tS) (C:=(uI 0).tS) iiz)<|oc zG<|oc zG<|oc zG<|zD) fun a w11 s=> ?_
  refine zA rfl ?_
  refine zXg ?_
  replace s:=s.drop [5]
  refine zB 7 ((75,.X (fNV k) 0)::(76,.Z (uB (decide (k<0))))::(77,.Z (jA (((k).natAbs) / (Nat.gcd k.natAbs d))))::(78,.Z (fUV zMO (if decide (k<0) then -((((k).natAbs) / (Nat.gcd k.natAbs d):Nat):Int) else ((((k).natAbs) / (Nat.gcd k.natAbs d):Nat):Int))))::(79,.Z (fNV ((mkRat k d).num)))::(80,.Z (jA (d / (Nat.gcd k.natAbs d))))::(81,.u (fQN (mkRat k d))):: []) hmix s kH
   (oc (zL (C:=cg (fNV k)) 0 kH)<|oc (jE (C:=cg (fNV k)) (k:=0) kH (h:=zL8))<|oc zC<|oc (y6 (fun u v W (hu:u= .bool (decide (k<0))) (hv:qR W v (((k).natAbs) / (Nat.gcd k.natAbs d)))=>zSq hu hv (hlt _ (by first|exact zXj (zXr _ _) (zAO _)|exact hk64|exact zXj (zXr _ _) (zXq bk (zXt y7 (zXp hm dA)))))))<|oc (zH zE zSf (fun u0 W hb (h0:UV W zMO u0 (if decide (k<0) then -((((k).natAbs) / (Nat.gcd k.natAbs d):Nat):Int) else ((((k).natAbs) / (Nat.gcd k.natAbs d):Nat):Int)))=>hnum W u0 (h0:UV W zMO u0 _)))<|oc zC<|oc (y6 (fun u v W (hu:NV W u ((mkRat k d).num)) (hv:qR W v (d / (Nat.gcd k.natAbs d)))=>zHU (q:=mkRat k d) hu (by first|exact hv|(rw [hden];exact hv))))<|zD) fun a w12 s=> ?_
  refine zS (wC (fQN (mkRat k d))) ((fQN (mkRat k d)).tS) rfl s kH rfl rfl rfl iiz iiz yN fun a w s=> ?_
  refine yP (uI 0) rfl s kH iiz fun a w s=> ?_
  refine zA rfl ?_
  refine zXh ?_
  exact wU s (wC (fQN (mkRat k d))) rfl kH rfl rfl (jC _) (fun cs v W h1 h2=>⟨_,_,rfl,h1,h2⟩)
theorem zIi {k:Int} (h:UV W m v k) (h':LV W m v' d) (hm:m<=2000):Calls prog 66 #[v,v'] W (Ret W (zAw (fQN (mkRat k d)) (fI (if d=0 then 30 else 0))).tS):=by
 by_cases hd:d=0
 ·rw [if_pos hd]
  exact zRp h h' hm hd
 ·rw [if_neg hd]
  exact zLv h h' hm oO
theorem zOa {k:Int} (h:QVp m k d v W) (hm:m<=2000):Calls prog 37 #[v] W (Ret W (fQN (mkRat k d)).tS):=by
 refine z7 [(fQV m k d).tS] func37 rfl kH ⟨h,trivial⟩ fun a s=> ?_
 refine zXg ?_
 refine zB 0 [] hmix s kH
  zD fun a w1 s=> ?_
 refine yG (wC (fQV m k d)) rfl s kH (fun v W h=>zE7 h) fun b1 a w s=> ?_
 refine zZ (CU.len 3) (cs:=zR3) kH rfl s kH (fun W=>rfl) rfl fun b2 a w s=> ?_
 refine zA rfl ?_
 refine zXg ?_
 refine zB 8 ((6,.X (fQV m k d) 0)::(7,.Z (fUV m k))::(8,.X (fQV m k d) 2)::(9,.Z (fLV m d))::(10,.Z (zAw (fQN (mkRat k d)) (uI (if d=0 then 30 else 0))))::(5,.Z (zAw (fQN (mkRat k d)) (uI (if d=0 then 30 else 0))))::(11,.u (fQN (mkRat k d)))::(12,.u (uI (if d=0 then 30 else 0))):: []) hmix s kH
  (oc (zL (C:=cg (fQV m k d)) 0 kH)<|oc (zT (C:=cg (fQV m k d)) (k:=0) 2 kH (h:=zLJ))<|oc (zL (C:=cg (fQV m k d)) 2 kH)<|oc (jE (C:=cg (fQV m k d)) (k:=2) kH (h:=zHk))<|oc (zI zE zPc (fun u0 u1 W hb (h0:UV W m u0 k) (h1:LV W m u1 d)=>zIi h0 h1 hm))<|oc zC<|oc (zAK (A:=(fQN (mkRat k d)).tS) (B:=(uI (if d=0 then 30 else 0)).tS) iiz)<|oc (zAJ (A:=(fQN (mkRat k d)).tS) (B:=(uI (if d=0 then 30 else 0)).tS) iiz)<|zD) fun a w2 s=> ?_
 refine zZ (CU.len 3) (cs:=zR3) kH rfl s kH (fun W=>rfl) rfl fun b3 a w s=> ?_
 refine zS (wC (fQN (mkRat k d))) ((fQN (mkRat k d)).tS) rfl s kH rfl rfl rfl iiz iiz yN fun a w s=> ?_
 refine yP (uI (if d=0 then 30 else 0)) rfl s kH iiz fun a w s=> ?_
 refine zA rfl ?_
 refine zXg ?_
 refine zB 1 ((13,.u (fQN (mkRat k d))):: []) hmix s kH
  (oc (zJ (f:=fQN (mkRat k d)) 3 kH (hz:=jC _))<|zD) fun a w3 s=> ?_
 refine zS (wC (fQN (mkRat k d))) ((fQN (mkRat k d)).tS) rfl s kH rfl rfl rfl iiz iiz yN fun a w s=> ?_
 refine zA rfl ?_
 refine zXh ?_
 exact wH s (wC (fQN (mkRat k d))) rfl kH rfl rfl (jC _) (fun cs W h=>h)
theorem zBq {q:Rat} (h:RVp m q v W) (hm:m<=2000):Calls prog 37 #[v] W (Ret W (fQN q).tS):=by
 obtain ⟨k,d,h1,rfl⟩:=h
 exact zOa h1 hm
theorem zLs (n:Int) (d:Nat) (hd:0<d):(mkRat n d).num.sign=n.sign:=by
 have h1:=decide_eq_decide.1 (zCc n d hd)
 have h2:(mkRat n d).num=0↔n=0:=by rw [zX4,Rat.mkRat_eq_zero oO]
 rcases Int.lt_trichotomy n 0 with h|h|h
 ·rw [zX9 h,zX9 (h1.2 h)]
 ·rw [h2.2 h,h]
 ·rw [Int.sign_eq_one_of_pos h,Int.sign_eq_one_of_pos (by have:=mt h1.1 oO;have:=mt h2.1 oO;omega)]
theorem zN8 {k:Int} (h:QVp m k d v W) (hm:m<=2000) (hd:d=0):Calls prog 11 #[v] W (Ret W (fI 0).tS):=by
 have hz:true=decide (d=0):=(zXw hd).symm
 refine z7 [(fQV m k d).tS] func11 rfl kH ⟨h,trivial⟩ fun a s=> ?_
 refine zXg ?_
 refine zB 0 [] hmix s kH
  zD fun a w1 s=> ?_
 refine yG (wC (fQV m k d)) rfl s kH (fun v W h=>zE7 h) fun b1 a w s=> ?_
 refine yP (uI 0) rfl s kH iiz fun a w s=> ?_
 refine zA rfl ?_
 refine zXg ?_
 refine zXg ?_
 refine zB 5 ((3,.X (fQV m k d) 2)::(4,.Z (fLV m d))::(5,.Z (jA d))::(6,.s (zQo d))::(7,.u (uB true)):: []) hmix s kH
  (oc (zL (C:=cg (fQV m k d)) 2 kH)<|oc (jE (C:=cg (fQV m k d)) (k:=2) kH (h:=zHk))<|oc (zH zE zPg (fun u0 W hb (h0:LV W m u0 d)=>(zD7 h0 oO)))<|oc (zEe kH iiz)<|oc (zEf hz)<|zD) fun a w2 s=> ?_
 refine zA rfl ?_
 refine StS.cond s true iiz (fun e=> ?_) (fun e=>by cases e)
 refine zXg ?_
 replace s:=s.drop [2]
 refine zB 1 ((2,.u (uI 0)):: []) hmix s kH
  (oc zG<|zD) fun a w3 s=> ?_
 refine zA rfl ?_
 refine zXh ?_
 exact wG s (t:=2) rfl iiz
theorem zN9 {k:Int} (h:QVp m k d v W) (hm:m<=2000) (hd:0<d):Calls prog 11 #[v] W (Ret W (fI k.sign).tS):=by
 have hz:false=decide (d=0):=(zXz oO).symm
 refine z7 [(fQV m k d).tS] func11 rfl kH ⟨h,trivial⟩ fun a s=> ?_
 refine zXg ?_
 refine zB 0 [] hmix s kH
  zD fun a w1 s=> ?_
 refine yG (wC (fQV m k d)) rfl s kH (fun v W h=>zE7 h) fun b1 a w s=> ?_
 refine yP (uI 0) rfl s kH iiz fun a w s=> ?_
 refine zA rfl ?_
 refine zXg ?_
 refine zXg ?_
 refine zB 5 ((3,.X (fQV m k d) 2)::(4,.Z (fLV m d))::(5,.Z (jA d))::(6,.s (zQo d))::(7,.u (uB false)):: []) hmix s kH
  (oc (zL (C:=cg (fQV m k d)) 2 kH)<|oc (jE (C:=cg (fQV m k d)) (k:=2) kH (h:=zHk))<|oc (zH zE zPg (fun u0 W hb (h0:LV W m u0 d)=>(zD7 h0 oO)))<|oc (zEe kH iiz)<|oc (zEf hz)<|zD) fun a w2 s=> ?_
 refine zA rfl ?_
 refine StS.cond s false iiz (fun e=>by cases e) (fun e=> ?_)
 refine zXo ?_
 refine zXg ?_
 replace s:=s.drop [2]
 refine zB 4 ((8,.X (fQV m k d) 0)::(9,.Z (fUV m k))::(10,.Z (uI (k.sign)))::(2,.u (uI (k.sign))):: []) hmix s kH
  (oc (zL (C:=cg (fQV m k d)) 0 kH)<|oc (zT (C:=cg (fQV m k d)) (k:=0) 2 kH (h:=zLJ))<|oc (zH zE zTW (fun u0 W hb (h0:UV W m u0 k)=>zEM (zJc h0 oO)))<|oc zG<|zD) fun a w3 s=> ?_
 refine zA rfl ?_
 refine zXh ?_
 exact wG s (t:=2) rfl iiz
theorem zEE {q:Rat} (h:RVp m q v W) (hm:m<=2000):Calls prog 11 #[v] W (Ret W (fI q.num.sign).tS):=by
 obtain ⟨k,d,h1,rfl⟩:=h
 by_cases hd:d=0
 ·have:=zN8 h1 hm hd
  rw [hd,zXH]
  exact this
 ·rw [zLs k d oO]
  exact zN9 h1 hm oO
theorem zRo {u:Wj} {p q:Rat} (h:QNp p u W) (h':QNp q v W) (hp:QB p m) (hq:QB q m) (hm:m<=990):Calls prog 71 #[u,v] W (Ret W (fQN (p+q)).tS):=by
 have hnew: ∀W u0 u1,NV W u0 (((p).num*((q).den:Int))+((q).num*((p).den:Int)))->qR W u1 ((p).den*(q).den)->Calls prog 66 #[u0,u1] W (Ret W (zAw (fQN (p+q)) UF.any).tS):=fun W u0 u1 h0 h1=>by
  have:=zIi (m:=m+m+1) (h0.uv' (hp.num_add hq)) (h1.lv (zXq (hp.den_mul hq) (zXt y7 oO))) oO
  rw [<-Rat.add_def' p q] at this
  exact this.mono fun e w' ⟨v,e1,⟨x,y,e2,h2,_⟩,hb⟩=>⟨v,e1,⟨x,y,e2,h2,trivial⟩,hb⟩
 refine z7 [(fQN p).tS,(fQN q).tS] func71 rfl kH ⟨h,h',trivial⟩ fun a s=> ?_
 refine zXg ?_
 refine zB 0 [] hmix s kH
  zD fun a w1 s=> ?_
 refine yG (wC (fQN p)) rfl s kH (fun v W h=>zPS h) fun b2 a w s=> ?_
 refine yG (wC (fQN q)) rfl s kH (fun v W h=>zPS h) fun b3 a w s=> ?_
 refine zZ (CU.len 3) (cs:=zR3) kH rfl s kH (fun W=>rfl) rfl fun b4 a w s=> ?_
 refine zA rfl ?_
 refine zXg ?_
 have so:=s.old;have sg:=s.gr
 refine zBy (fun i=> [24].contains i) [⟨25,5,28, [.bool false, sN, sN],wM w 28 (CU.len 3)⟩] 26 ((8,.X (fQN p) 0)::(9,.Z (fNV ((p).num)))::(10,.X (fQN q) 2)::(11,.Z (jA ((q).den)))::(12,.Z (fNV ((q).den:Int)))::(13,.s (zKu (m+m) [(p).num,((q).den:Int)]))::(14,.Z (fNV ((p).num*((q).den:Int))))::(15,.X (fQN q) 0)::(16,.Z (fNV ((q).num)))::(17,.X (fQN p) 2)::(18,.Z (jA ((p).den)))::(19,.Z (fNV ((p).den:Int)))::(20,.s (zKu (m+m) [(q).num,((p).den:Int)]))::(21,.Z (fNV ((q).num*((p).den:Int))))::(22,.s (zKu (m+m) [((p).num*((q).den:Int)),((q).num*((p).den:Int))]))::(23,.Z (fNV (((p).num*((q).den:Int))+((q).num*((p).den:Int)))))::(24,.X (fQN p) 2)::(25,.Z (jA ((p).den)))::(26,.X (fQN q) 2)::(27,.Z (jA ((q).den)))::(28,.Z (jA ((p).den*(q).den)))::(29,.Z (zAw (fQN (p+q)) (UF.any)))::(7,.Z (zAw (fQN (p+q)) (UF.any)))::(30,.u (fQN (p+q)))::(5,.s (wM w 28 (CU.len 3))):: []) hmix s (fmz ⟨⟨by show 25<26;decide,.tail _ (.tail _ (.tail _ (.tail _ (.tail _ (.tail _ (.tail _ (.tail _ (.tail _ zJs)))))))),⟨_,_,_,rfl⟩,by kernel_rfl,zBS (fun _=>rfl) rfl⟩,fnz⟩) kH
  (oc (zL (C:=cg (fQN p)) 0 kH)<|oc (zT (C:=cg (fQN p)) (k:=0) 2 kH (h:=zBn))<|oc (zL (C:=cg (fQN q)) 2 kH)<|oc (jE (C:=cg (fQN q)) (k:=2) kH (h:=zA5))<|oc (zH zE zPf (fun u0 W hb (h0:qR W u0 ((q).den))=>zJl h0))<|oc (yI (fun u v W (hu:NV W u ((p).num)) (hv:NV W v ((q).den:Int))=>zBa (NV.uv' hu (Bd.mono (hp).1 (m':=(m+m)) (by first|omega|decide))) (NV.uv' hv (Bd.mono (q7 hq.2) (m':=(m+m)) (by first|omega|decide)))))<|oc (zH zE zKv (fun u0 W hb (h0:ISV W (m+m) u0 [(p).num,((q).den:Int)])=>zEa h0 (by show (m+m)*2+(m+m)+1<=40000;omega) fN fN))<|oc (zL (C:=cg (fQN q)) 0 kH)<|oc (zT (C:=cg (fQN q)) (k:=0) 2 kH (h:=zBn))<|oc (zL (C:=cg (fQN p)) 2 kH)<|oc (jE (C:=cg (fQN p)) (k:=2) kH (h:=zA5))<|oc (zH zE zPf (fun u0 W hb (h0:qR W u0 ((p).den))=>zJl h0))<|oc (yI (fun u v W (hu:NV W u ((q).num)) (hv:NV W v ((p).den:Int))=>zBa (NV.uv' hu (Bd.mono (hq).1 (m':=(m+m)) (by first|omega|decide))) (NV.uv' hv (Bd.mono (q7 hp.2) (m':=(m+m)) (by first|omega|decide)))))<|oc (zH zE zKv (fun u0 W hb (h0:ISV W (m+m) u0 [(q).num,((p).den:Int)])=>zEa h0 (by show (m+m)*2+(m+m)+1<=40000;omega) fN fN))<|oc (yI (fun u v W (hu:NV W u ((p).num*((q).den:Int))) (hv:NV W v ((q).num*((p).den:Int)))=>zBa (NV.uv' hu (Bd.mul (hp).1 (q7 hq.2))) (NV.uv' hv (Bd.mul (hq).1 (q7 hp.2)))))<|oc (zH zE zVt (fun u0 W hb (h0:ISV W (m+m) u0 [((p).num*((q).den:Int)),((q).num*((p).den:Int))])=>zRw h0 oO fN fN))<|oc (zL (C:=cg (fQN p)) 2 kH)<|oc (jE (C:=cg (fQN p)) (k:=2) kH (h:=zA5))<|oc (zL (C:=cg (fQN q)) 2 kH)<|oc (jE (C:=cg (fQN q)) (k:=2) kH (h:=zA5))<|oc (zI zE zSe (fun u0 u1 W hb (h0:qR W u0 ((p).den)) (h1:qR W u1 ((q).den))=>zLe (qR.lv (m:=m) h0 hp.2) (qR.lv (m:=m) h1 hq.2) oO))<|oc (zI zE zPc (fun u0 u1 W hb (h0:NV W u0 (((p).num*((q).den:Int))+((q).num*((p).den:Int)))) (h1:qR W u1 ((p).den*(q).den))=>hnew W u0 u1 h0 h1))<|oc zC<|oc (zAK (A:=(fQN (p+q)).tS) (B:=(UF.any).tS) iiz)<|oc (zAJ (A:=(fQN (p+q)).tS) (B:=(UF.any).tS) iiz)<|oc (zCU (cs:=zR3) kH (zBS (fun _=>rfl) rfl))<|zD) fun Q' hQ a w2 s hr hd=> ?_
 obtain ⟨b5,_,e5,s⟩:=s.adoptA false 5 (hr (_,_) (.tail _ (.tail _ (.tail _ (.tail _ (.tail _ (.tail _ (.tail _ (.tail _ (.tail _ zJs)))))))))) sg (fun y hy=> .inl (so y hy))
 refine zS (wC (fQN (p+q))) ((fQN (p+q)).tS) rfl s kH rfl rfl rfl iiz iiz yN fun a w s=> ?_
 refine yP UF.any rfl s kH (fun _ _ _=>trivial) fun a w s=> ?_
 refine zA rfl (hQ _ _ ?_)
 refine zXg ?_
 refine zB 1 ((32,.u (fQN (p+q))):: []) hmix s kH
  (oc (zJ (f:=fQN (p+q)) 3 kH (hz:=jC _))<|zD) fun a w3 s=> ?_
 refine zS (wC (fQN (p+q))) ((fQN (p+q)).tS) rfl s kH rfl rfl rfl iiz iiz yN fun a w s=> ?_
 refine zA rfl ?_
 refine zXh ?_
 exact wH s (wC (fQN (p+q))) rfl kH rfl rfl (jC _) (fun cs W h=>h)
theorem zRq {q:Rat} (h:RVp m q v W) (hm:m<=990) (hm0:0<m):Calls prog 78 #[v] W (Ret W (fQN (-q)).tS):=by
 have hq:QB q m:=h.qb hm0
 refine z7 [(fRV m q).tS] func78 rfl kH ⟨h,trivial⟩ fun a s=> ?_
 refine zXg ?_
 refine zB 0 [] hmix s kH
  zD fun a w1 s=> ?_
 refine yG (wC (fRV m q)) rfl s kH (fun v W h=>jW h) fun b1 a w s=> ?_
 refine zZ (CU.len 3) (cs:=zR3) kH rfl s kH (fun W=>rfl) rfl fun b2 a w s=> ?_
 refine zA rfl ?_
 refine zXg ?_
 refine zB 2 ((3,.Z (fRV m q))::(4,.u (fQN q)):: []) hmix s kH
  (oc (zJ (f:=fRV m q) 3 kH (hz:=qM _ _))<|oc (zH zE zGK (fun u0 W hb (h0:RVp m q u0 W)=>zBq h0 oO))<|zD) fun a w2 s=> ?_
 refine zS (wC (fQN q)) ((fQN q).tS) rfl s kH rfl rfl rfl (qM _ _) iiz yN fun a w s=> ?_
 refine zA rfl ?_
 refine zXg ?_
 refine z9 [] 6 ((5,.X (fQN q) 0)::(6,.Z (fNV ((q).num)))::(7,.Z (fNV (-(q).num)))::(8,.X (fQN q) 2)::(9,.Z (jA ((q).den)))::(10,.u (fQN (-q))):: []) hmix s kH
  (oc (zL (C:=cg (fQN q)) 0 kH)<|oc (zT (C:=cg (fQN q)) (k:=0) 2 kH (h:=zBn))<|oc (zH zE zVs (fun u0 W hb (h0:NV W u0 ((q).num))=>zRu (NV.uv' h0 (hq).1) oO))<|oc (zL (C:=cg (fQN q)) 2 kH)<|oc (jE (C:=cg (fQN q)) (k:=2) kH (h:=zA5))<|oc (y6 (fun u v W (hu:NV W u (-(q).num)) (hv:qR W v ((q).den))=>zHU (q:= -q) hu hv))<|zD) fun Q' hQ a w3 s=> ?_
 refine zS (wC (fQN (-q))) ((fQN (-q)).tS) rfl s kH rfl rfl rfl iiz iiz yN fun a w s=> ?_
 refine zA rfl (hQ _ _ ?_)
 refine zXh ?_
 exact wH s (wC (fQN (-q))) rfl kH rfl rfl (jC _) (fun cs W h=>h)
theorem zDc {u:Wj} {p q:Rat} (h:RVp m p u W) (h':RVp m q v W) (hm:m<=990) (hm0:0<m):Calls prog 12 #[u,v] W (Ret W (fI (qsg p q)).tS):=by
 have hp:QB p m:=h.qb hm0
 have hq:QB q m:=h'.qb hm0
 refine z7 [(fRV m p).tS,(fRV m q).tS] func12 rfl kH ⟨h,h',trivial⟩ fun a s=> ?_
 refine zXg ?_
 refine zB 0 [] hmix s kH
  zD fun a w1 s=> ?_
 refine yG (wC (fRV m p)) rfl s kH (fun v W h=>jW h) fun b2 a w s=> ?_
 refine yG (wC (fRV m q)) rfl s kH (fun v W h=>jW h) fun b3 a w s=> ?_
 refine yP (uI 0) rfl s kH iiz fun a w s=> ?_
 refine zA rfl ?_
 refine zXg ?_
 refine z9 [] 4 ((5,.Z (fRV m p))::(6,.u (fQN p))::(7,.Z (fRV m q))::(8,.u (fQN q)):: []) hmix s kH
  (oc (zJ (f:=fRV m p) 3 kH (hz:=qM _ _))<|oc (zH zE zGK (fun u0 W hb (h0:RVp m p u0 W)=>zBq h0 oO))<|oc (zJ (f:=fRV m q) 3 kH (hz:=qM _ _))<|oc (zH zE zGK (fun u0 W hb (h0:RVp m q u0 W)=>zBq h0 oO))<|zD) fun Q' hQ a w2 s=> ?_
 refine zS (wC (fQN p)) ((fQN p).tS) rfl s kH rfl rfl rfl (qM _ _) iiz yN fun a w s=> ?_
 refine zS (wC (fQN q)) ((fQN q).tS) rfl s kH rfl rfl rfl (qM _ _) iiz yN fun a w s=> ?_
 refine zA rfl (hQ _ _ ?_)
 refine zXg ?_
 replace s:=s.drop [4]
 refine zB 17 ((9,.X (fQN p) 0)::(10,.Z (fNV ((p).num)))::(11,.X (fQN q) 2)::(12,.Z (jA ((q).den)))::(13,.Z (fNV ((q).den:Int)))::(14,.s (zKu (m+m) [(p).num,((q).den:Int)]))::(15,.Z (fNV ((p).num*((q).den:Int))))::(16,.X (fQN q) 0)::(17,.Z (fNV ((q).num)))::(18,.X (fQN p) 2)::(19,.Z (jA ((p).den)))::(20,.Z (fNV ((p).den:Int)))::(21,.s (zKu (m+m) [(q).num,((p).den:Int)]))::(22,.Z (fNV ((q).num*((p).den:Int))))::(23,.Z (fNV (((p).num*((q).den:Int)) - ((q).num*((p).den:Int)))))::(24,.Z (uI (qsg p q)))::(4,.u (uI (qsg p q))):: []) hmix s kH
  (oc (zL (C:=cg (fQN p)) 0 kH)<|oc (zT (C:=cg (fQN p)) (k:=0) 2 kH (h:=zBn))<|oc (zL (C:=cg (fQN q)) 2 kH)<|oc (jE (C:=cg (fQN q)) (k:=2) kH (h:=zA5))<|oc (zH zE zPf (fun u0 W hb (h0:qR W u0 ((q).den))=>zJl h0))<|oc (yI (fun u v W (hu:NV W u ((p).num)) (hv:NV W v ((q).den:Int))=>zBa (NV.uv' hu (Bd.mono (hp).1 (m':=(m+m)) (by first|omega|decide))) (NV.uv' hv (Bd.mono (q7 hq.2) (m':=(m+m)) (by first|omega|decide)))))<|oc (zH zE zKv (fun u0 W hb (h0:ISV W (m+m) u0 [(p).num,((q).den:Int)])=>zEa h0 (by show (m+m)*2+(m+m)+1<=40000;omega) fN fN))<|oc (zL (C:=cg (fQN q)) 0 kH)<|oc (zT (C:=cg (fQN q)) (k:=0) 2 kH (h:=zBn))<|oc (zL (C:=cg (fQN p)) 2 kH)<|oc (jE (C:=cg (fQN p)) (k:=2) kH (h:=zA5))<|oc (zH zE zPf (fun u0 W hb (h0:qR W u0 ((p).den))=>zJl h0))<|oc (yI (fun u v W (hu:NV W u ((q).num)) (hv:NV W v ((p).den:Int))=>zBa (NV.uv' hu (Bd.mono (hq).1 (m':=(m+m)) (by first|omega|decide))) (NV.uv' hv (Bd.mono (q7 hp.2) (m':=(m+m)) (by first|omega|decide)))))<|oc (zH zE zKv (fun u0 W hb (h0:ISV W (m+m) u0 [(q).num,((p).den:Int)])=>zEa h0 (by show (m+m)*2+(m+m)+1<=40000;omega) fN fN))<|oc (zI zE zVD (fun u0 u1 W hb (h0:NV W u0 ((p).num*((q).den:Int))) (h1:NV W u1 ((q).num*((p).den:Int)))=>zRt (NV.uv' h0 (Bd.mul (hp).1 (q7 hq.2))) (NV.uv' h1 (Bd.mul (hq).1 (q7 hp.2))) oO))<|oc (zH zE zTW (fun u0 W hb (h0:NV W u0 (((p).num*((q).den:Int)) - ((q).num*((p).den:Int))))=>zEM (zJc (NV.uv' h0 (Bd.sub (Bd.mul (hp).1 (q7 hq.2)) (Bd.mul (hq).1 (q7 hp.2)))) oO)))<|oc zG<|zD) fun a w3 s=> ?_
 refine zA rfl ?_
 refine zXh ?_
 exact wG s (t:=4) rfl iiz
theorem zLt {u:Wj} {p q:Rat} (h:RVp m p u W) (h':RVp m q v W) (hm:m<=990) (hm0:0<m):Calls prog 42 #[u,v] W (Ret W (zAw (fQN (p / q)) (fI (if q=0 then 30 else 0))).tS):=by
 have hp:QB p m:=h.qb hm0
 have hq:QB q m:=h'.qb hm0
 have bk2:Bd (if decide ((q).num<0) then -((q).den:Int) else ((q).den:Int)) m:=by split;exact (q7 hq.2).neg;exact q7 hq.2
 have hval:mkRat ((p).num*(if decide ((q).num<0) then -((q).den:Int) else ((q).den:Int))) ((p).den*(q).num.natAbs)=p / q:=zRh p q
 have herr:((p).den*(q).num.natAbs=0)=(q=0):=by rw [Nat.mul_eq_zero,Int.natAbs_eq_zero,zX4];have:=p.den_pos;simp;omega
 have hnew: ∀W u0 u1,NV W u0 ((p).num*(if decide ((q).num<0) then -((q).den:Int) else ((q).den:Int)))->qR W u1 ((p).den*(q).num.natAbs)->Calls prog 66 #[u0,u1] W (Ret W (zAw (fQN (p / q)) (fI (if q=0 then 30 else 0))).tS):=fun W u0 u1 h0 h1=>by
  have:=zIi (m:=m+m) (h0.uv' (Bd.mul hp.1 bk2)) (h1.lv (zEb hp.2 hq.1)) oO
  simp only [hval,herr] at this
  exact this
 refine z7 [(fRV m p).tS,(fRV m q).tS] func42 rfl kH ⟨h,h',trivial⟩ fun a s=> ?_
 refine zXg ?_
 refine zB 0 [] hmix s kH
  zD fun a w1 s=> ?_
 refine yG (wC (fRV m p)) rfl s kH (fun v W h=>jW h) fun b2 a w s=> ?_
 refine yG (wC (fRV m q)) rfl s kH (fun v W h=>jW h) fun b3 a w s=> ?_
 refine zZ (CU.len 3) (cs:=zR3) kH rfl s kH (fun W=>rfl) rfl fun b4 a w s=> ?_
 refine yP (uI 0) rfl s kH iiz fun a w s=> ?_
 refine zA rfl ?_
 refine zXg ?_
 refine z9 [] 4 ((6,.Z (fRV m p))::(7,.u (fQN p))::(8,.Z (fRV m q))::(9,.u (fQN q)):: []) hmix s kH
  (oc (zJ (f:=fRV m p) 3 kH (hz:=qM _ _))<|oc (zH zE zGK (fun u0 W hb (h0:RVp m p u0 W)=>zBq h0 oO))<|oc (zJ (f:=fRV m q) 3 kH (hz:=qM _ _))<|oc (zH zE zGK (fun u0 W hb (h0:RVp m q u0 W)=>zBq h0 oO))<|zD) fun Q' hQ a w2 s=> ?_
 refine zS (wC (fQN p)) ((fQN p).tS) rfl s kH rfl rfl rfl (qM _ _) iiz yN fun a w s=> ?_
 refine zS (wC (fQN q)) ((fQN q).tS) rfl s kH rfl rfl rfl (qM _ _) iiz yN fun a w s=> ?_
 refine zA rfl (hQ _ _ ?_)
 refine zXg ?_
 replace s:=s.drop [5]
 refine z9 [] 19 ((10,.X (fQN p) 0)::(11,.Z (fNV ((p).num)))::(12,.X (fQN q) 0)::(13,.X (fQN q) 0)::(14,.Z (uB (decide ((q).num<0))))::(15,.X (fQN q) 2)::(16,.Z (jA ((q).den)))::(17,.Z (fUV m (if decide ((q).num<0) then -((q).den:Int) else ((q).den:Int))))::(18,.s (zKu (m+m) [(p).num,(if decide ((q).num<0) then -((q).den:Int) else ((q).den:Int))]))::(19,.Z (fNV ((p).num*(if decide ((q).num<0) then -((q).den:Int) else ((q).den:Int)))))::(20,.X (fQN p) 2)::(21,.Z (jA ((p).den)))::(22,.X (fQN q) 0)::(23,.X (fQN q) 1)::(24,.Z (jA ((q).num.natAbs)))::(25,.Z (jA ((p).den*(q).num.natAbs)))::(26,.Z (zAw (fQN (p / q)) (uI (if q=0 then 30 else 0))))::(27,.u (fQN (p / q)))::(28,.u (uI (if q=0 then 30 else 0))):: []) hmix s kH
  (oc (zL (C:=cg (fQN p)) 0 kH)<|oc (zT (C:=cg (fQN p)) (k:=0) 2 kH (h:=zBn))<|oc (zL (C:=cg (fQN q)) 0 kH)<|oc (qB (C:=cg (fQN q)) 0 0 kH)<|oc (jE (C:=cg (fQN q)) (k:=0) kH (h:=zS9))<|oc (zL (C:=cg (fQN q)) 2 kH)<|oc (jE (C:=cg (fQN q)) (k:=2) kH (h:=zA5))<|oc (y6 (fun u v W (hu:u= .bool (decide ((q).num<0))) (hv:qR W v ((q).den))=>zSq hu hv hq.2))<|oc (yI (fun u v W (hu:NV W u ((p).num)) (hv:UV W m v (if decide ((q).num<0) then -((q).den:Int) else ((q).den:Int)))=>zBa (NV.uv' hu (Bd.mono (hp).1 (m':=(m+m)) (by first|omega|decide))) (UV.mono hv (m':=(m+m)) (by first|omega|decide))))<|oc (zH zE zKv (fun u0 W hb (h0:ISV W (m+m) u0 [(p).num,(if decide ((q).num<0) then -((q).den:Int) else ((q).den:Int))])=>zEa h0 (by show (m+m)*2+(m+m)+1<=40000;omega) fN fN))<|oc (zL (C:=cg (fQN p)) 2 kH)<|oc (jE (C:=cg (fQN p)) (k:=2) kH (h:=zA5))<|oc (zL (C:=cg (fQN q)) 0 kH)<|oc (qB (C:=cg (fQN q)) 0 1 kH)<|oc (jE (C:=cg (fQN q)) (k:=1) kH (h:=zTa))<|oc (zI zE zSe (fun u0 u1 W hb (h0:qR W u0 ((p).den)) (h1:qR W u1 ((q).num.natAbs))=>zLe (qR.lv (m:=m) h0 hp.2) (qR.lv (m:=m) h1 hq.1) oO))<|oc (zI zE zPc (fun u0 u1 W hb (h0:NV W u0 ((p).num*(if decide ((q).num<0) then -((q).den:Int) else ((q).den:Int)))) (h1:qR W u1 ((p).den*(q).num.natAbs))=>hnew W u0 u1 h0 h1))<|oc (zAK (A:=(fQN (p / q)).tS) (B:=(uI (if q=0 then 30 else 0)).tS) iiz)<|oc (zAJ (A:=(fQN (p / q)).tS) (B:=(uI (if q=0 then 30 else 0)).tS) iiz)<|zD) fun Q' hQ a w3 s=> ?_
 refine zS (wC (fQN (p / q))) ((fQN (p / q)).tS) rfl s kH rfl rfl rfl iiz iiz yN fun a w s=> ?_
 refine yP (uI (if q=0 then 30 else 0)) rfl s kH iiz fun a w s=> ?_
 refine zA rfl (hQ _ _ ?_)
 refine zXh ?_
 exact wU s (wC (fQN (p / q))) rfl kH rfl rfl (jC _) (fun cs v W h1 h2=>⟨_,_,rfl,h1,h2⟩)
theorem zMh {b:Nat} (k:Nat) (h:Mem W b o cs) (hd: ∀j u,ds[j]?=some u->cs[k+j]?=some u):Mem W b (o+k) ds:=fun j u hj=>by
 have:=h (k+j) u (hd j u hj)
 rwa [<-zX5] at this
abbrev rvs (m:Nat) (qs:List Rat):List CU:=qs.map fun q=>wC (fRV m q)
theorem zK8 (h:k<qs.length):(rvs m qs)[k]?=some (wC (fRV m (qAt qs k))):=by
 rw [List.getElem?_map,zX0 h]
 simp [qAt,h]
theorem zLN (h:k<qs.length):qAt qs k∈qs:=by
 simp [qAt,h]
theorem zI7 {q:Rat} (h:RVp m q v W): ∃s A n c D i j,v= .agg #[.bool s,.slice A n c,.slice D i j]:=by
 obtain ⟨k,d,h1,_⟩:=h
 exact zBR h1
theorem zBW {u:Wj} {p q:Rat} (hu:RVp m p u W) (hv:RVp m q v W): ∃e cs,z5 prog 55 2 [(0,u),(1,v)]=some (e,cs)/\(wD 3 (rvs m [p,q])).p (.slice (some ⟨W.heap.size,0,none⟩) 2 2) (W.alloc (.cells cs e)):=by
 obtain ⟨s,A,n,c,D,i,j,rfl⟩:=zI7 hu
 obtain ⟨s',A',n',c',D',i',j',rfl⟩:=zI7 hv
 refine ⟨_,_,zPK s s' A A' D D' n n' c c' i i' j j',some ⟨W.heap.size,0,none⟩,2,rfl,zXm _,by decide,fun e=>(by cases e),fun x C hx=> ?_⟩
 have hb:=zCg W (.cells #[.bool s,.slice A n c,.slice D i j,.bool s',.slice A' n' c',.slice D' i' j'] 28)
 have hm:=zBz W #[.bool s,.slice A n c,.slice D i j,.bool s',.slice A' n' c',.slice D' i' j'] 28
 rcases (by have:=(zXi.1 hx).1;simp at this;omega:x=0∨x=1) with rfl|rfl
 ·obtain rfl:wC (fRV m p)=C:=by simpa using hx
  exact ⟨W.heap.size,0, [.bool s,.slice A n c,.slice D i j],rfl,zMh 0 hm (fun j u hj=>by match j with|0=>exact hj|1=>exact hj|2=>exact hj|j+3=>simp at hj),(fRV m p).tS.st _ _ _ hu hb⟩
 ·obtain rfl:wC (fRV m q)=C:=by simpa using hx
  exact ⟨W.heap.size,0, [.bool s',.slice A' n' c',.slice D' i' j'],rfl,zMh 3 hm (fun j u hj=>by match j with|0=>exact hj|1=>exact hj|2=>exact hj|j+3=>simp at hj),(fRV m q).tS.st _ _ _ hv hb⟩
theorem zRs (M:Nat) (h:(wD 3 (rvs m qs)).p v W) (_hm0:0<m) (hmM:m<=M) (hM:M<=990) (hl:qs.length<=1000000) (hq: ∀q,q∈qs->QB q m) (hp: ∀k,k<qs.length->QB (zDp qs k) M):Calls prog 43 #[v] W (Ret W (fQN (zDp qs qs.length)).tS):=by
 refine z7 [wD 3 (rvs m qs)] func43 rfl kH ⟨h,trivial⟩ fun a s=> ?_
 refine zXg ?_
 refine zB 0 [] hmix s kH
  zD fun a w1 s=> ?_
 refine zZ (CU.len 3) (cs:=zR3) kH rfl s kH (fun W=>rfl) rfl fun b2 a w s=> ?_
 refine zA rfl ?_
 refine zXg ?_
 refine zB 1 ((5,.u (fQN ((0:Int):Rat))):: []) hmix s kH
  (oc (zH zE zFq (fun u0 W hb (h0:u0= .int .i64 0)=>zCt 0 h0 dA))<|zD) fun a w2 s=> ?_
 refine zZ (CU.len 3) (cs:=zR3) kH rfl s kH (fun W=>rfl) rfl fun b3 a w s=> ?_
 refine zS (wC (fQN ((0:Int):Rat))) ((fQN ((0:Int):Rat)).tS) rfl s kH rfl rfl rfl iiz iiz yN fun a w s=> ?_
 refine zA rfl ?_
 refine zXg ?_
 refine zXg ?_
 refine zB 1 ((4,.u (uI 0)):: []) hmix s kH
  (oc zG<|zD) fun a w3 s=> ?_
 refine zA rfl ?_
 refine zXs ?_
 refine zDv 3 (fun p=>wC (fQN (zDp qs p))) (fun p=>p<=qs.length) (fun p=> [(0,.o (wD 3 (rvs m qs))),(4,.u (fI ((p:Nat):Int)))]) (fun p=>qs.length - p) (0:Nat) (zXn _) (s.keepK _ (fmz ⟨mz2,fmz ⟨.head _,fnz⟩⟩)) rfl fun p a w hx s=> ?_
 refine zXg ?_
 refine zXg ?_
 refine zB 4 ((6,.Z (fI (p:Int)))::(7,.s (wD 3 (rvs m qs)))::(8,.Z (uI ((rvs m qs).length:Int)))::(9,.u (uB (ltz p ((rvs m qs).length)))):: []) hmix s kH
  (oc zC<|oc zC<|oc (zDh (z:=3) (Cs:=rvs m qs) kH iiz (fun _=>rfl))<|oc (zR .i64 (p:Int) ((rvs m qs).length:Int) (ltz p ((rvs m qs).length)) iiz iiz rfl rfl)<|zD) fun a w4 s=> ?_
 refine zA rfl ?_
 refine StS.cond s (ltz p ((rvs m qs).length)) iiz (fun e=> ?_) (fun e=> ?_)
 ·have hk1:p+1<=qs.length:=by have:=zXk e;rw [zXC] at this;omega
  have hx2:=zK8 (m:=m) (k:=p) hk1
  have hqp:=hq _ (zLN (k:=p) hk1)
  refine zXo ?_
  refine zXg ?_
  refine zXs ?_
  refine z9 [1,2] 7 ((12,.Z (fQN (zDp qs p)))::(13,.s (wD 3 (rvs m qs)))::(14,.Z (fI (p:Int)))::(15,.Y (fRV m (qAt qs p)))::(16,.Z (fRV m (qAt qs p)))::(17,.Z (fQN (qAt qs p)))::(18,.u (fQN (zDp qs p+qAt qs p))):: []) hmix s kH
   (oc (zJ (f:=fQN (zDp qs p)) 3 kH (hz:=jC _))<|oc zC<|oc zC<|oc (zBg (z:=3) (Cs:=rvs m qs) (i:=p) (C:=wC (fRV m (qAt qs p))) kH hx2 iiz iiz)<|oc (zJ (f:=fRV m (qAt qs p)) 3 kH (hz:=qM _ _))<|oc (zH zE zGK (fun u0 W hb (h0:RVp m (qAt qs p) u0 W)=>zBq h0 oO))<|oc (zI zE zVr (fun u0 u1 W hb (h0:QNp (zDp qs p) u0 W) (h1:QNp (qAt qs p) u1 W)=>zRo h0 h1 (hp p hk1) (hqp.mono oO) oO))<|zD) fun Q' hQ a w5 s=> ?_
  refine zS (wC (fQN (zDp qs p+qAt qs p))) ((fQN (zDp qs p+qAt qs p)).tS) rfl s kH rfl rfl rfl (jC _) iiz yN fun a w s=> ?_
  refine zA rfl (hQ _ _ ?_)
  refine zX 2 ((10,.Z (fI (p:Int)))::(11,.u (fI ((p+1:Nat):Int))):: []) s kH
   (oc zC<|oc (yM .i64 (p:Int) 1 ((p+1:Nat):Int) iiz iiz (wrap64 _ _ oO oO))<|zD) fun a w6 s=> ?_
  replace s:=s.drop [4]
  refine yP (fI ((p+1:Nat):Int)) rfl s kH iiz fun a w s=> ?_
  refine zA rfl ?_
  exact ⟨p+1,hk1,(by show qs.length - (p+1)<qs.length - p;omega),s.keepK _ (fmz ⟨mz4,fmz ⟨.head _,fnz⟩⟩)⟩
 ·have hk1:p=qs.length:=by have:=zXu e;rw [zXC] at this;omega
  refine zXE ?_
  refine zXg ?_
  refine zB 1 ((19,.u (fQN (zDp qs p))):: []) hmix s kH
   (oc (zJ (f:=fQN (zDp qs p)) 3 kH (hz:=jC _))<|zD) fun a w7 s=> ?_
  refine zS (wC (fQN (zDp qs p))) ((fQN (zDp qs p)).tS) rfl s kH rfl rfl rfl iiz iiz yN fun a w s=> ?_
  refine zA rfl ?_
  refine zXh ?_
  exact wH s (wC (fQN (zDp qs p))) rfl kH rfl rfl (jC _) (fun cs W h=>by rw [hk1] at h;exact h)
theorem zRr (M:Nat) (h:(wD 3 (rvs m qs)).p v W) (_hm0:0<m) (hmM:m<=M) (hM:M<=990) (hl:qs.length<=1000000) (hq: ∀q,q∈qs->QB q m) (hp: ∀k,k<qs.length->QB (jB qs k) M):Calls prog 60 #[v] W (Ret W (fQN (jB qs qs.length)).tS):=by
 refine z7 [wD 3 (rvs m qs)] func60 rfl kH ⟨h,trivial⟩ fun a s=> ?_
 refine zXg ?_
 refine zB 0 [] hmix s kH
  zD fun a w1 s=> ?_
 refine zZ (CU.len 3) (cs:=zR3) kH rfl s kH (fun W=>rfl) rfl fun b2 a w s=> ?_
 refine zA rfl ?_
 refine zXg ?_
 refine zB 1 ((6,.u (fQN ((1:Int):Rat))):: []) hmix s kH
  (oc (zH zE zFq (fun u0 W hb (h0:u0= .int .i64 1)=>zCt 1 h0 dA))<|zD) fun a w2 s=> ?_
 refine zZ (CU.len 3) (cs:=zR3) kH rfl s kH (fun W=>rfl) rfl fun b3 a w s=> ?_
 refine zS (wC (fQN ((1:Int):Rat))) ((fQN ((1:Int):Rat)).tS) rfl s kH rfl rfl rfl iiz iiz yN fun a w s=> ?_
 refine zA rfl ?_
 refine zXg ?_
 refine zXg ?_
 refine zB 1 ((4,.u (uI 0)):: []) hmix s kH
  (oc zG<|zD) fun a w3 s=> ?_
 refine zA rfl ?_
 refine zXs ?_
 refine zDv 3 (fun p=>wC (fQN (jB qs p))) (fun p=>p<=qs.length) (fun p=> [(0,.o (wD 3 (rvs m qs))),(4,.u (fI ((p:Nat):Int)))]) (fun p=>qs.length - p) (0:Nat) (zXn _) (s.keepK _ (fmz ⟨mz2,fmz ⟨.head _,fnz⟩⟩)) rfl fun p a w hx s=> ?_
 refine zXg ?_
 refine zXg ?_
 refine zB 4 ((7,.Z (fI (p:Int)))::(8,.s (wD 3 (rvs m qs)))::(9,.Z (uI ((rvs m qs).length:Int)))::(10,.u (uB (ltz p ((rvs m qs).length)))):: []) hmix s kH
  (oc zC<|oc zC<|oc (zDh (z:=3) (Cs:=rvs m qs) kH iiz (fun _=>rfl))<|oc (zR .i64 (p:Int) ((rvs m qs).length:Int) (ltz p ((rvs m qs).length)) iiz iiz rfl rfl)<|zD) fun a w4 s=> ?_
 refine zA rfl ?_
 refine StS.cond s (ltz p ((rvs m qs).length)) iiz (fun e=> ?_) (fun e=> ?_)
 ·have hk1:p+1<=qs.length:=by have:=zXk e;rw [zXC] at this;omega
  have hx2:=zK8 (m:=m) (k:=p) hk1
  have hqp:=hq _ (zLN (k:=p) hk1)
  have hnew: ∀W u0 u1,NV W u0 ((jB qs p).num*(qAt qs p).num)->qR W u1 ((jB qs p).den*(qAt qs p).den)->Calls prog 66 #[u0,u1] W (Ret W (zAw (fQN (jB qs p*qAt qs p)) (fI 0)).tS):=fun W u0 u1 h0 h1=>by
   have:=zLv (m:=M+m) (h0.uv' (Bd.mul (hp p hk1).1 hqp.1)) (h1.lv (zEb (hp p hk1).2 hqp.2)) oO (Nat.mul_pos (Rat.den_pos _) (Rat.den_pos _))
   rw [<-Rat.mul_def'] at this
   exact this
  refine zXo ?_
  refine zXg ?_
  refine zXs ?_
  refine zXg ?_
  refine zB 5 ((13,.s (wD 3 (rvs m qs)))::(14,.Z (fI (p:Int)))::(15,.Y (fRV m (qAt qs p)))::(16,.Z (fRV m (qAt qs p)))::(17,.u (fQN (qAt qs p))):: []) hmix s kH
   (oc zC<|oc zC<|oc (zBg (z:=3) (Cs:=rvs m qs) (i:=p) (C:=wC (fRV m (qAt qs p))) kH hx2 iiz iiz)<|oc (zJ (f:=fRV m (qAt qs p)) 3 kH (hz:=qM _ _))<|oc (zH zE zGK (fun u0 W hb (h0:RVp m (qAt qs p) u0 W)=>zBq h0 oO))<|zD) fun a w5 s=> ?_
  refine zZ (CU.len 3) (cs:=zR3) kH rfl s kH (fun W=>rfl) rfl fun b5 a w s=> ?_
  refine zS (wC (fQN (qAt qs p))) ((fQN (qAt qs p)).tS) rfl s kH rfl rfl rfl iiz iiz yN fun a w s=> ?_
  refine zA rfl ?_
  refine zBy (fun i=> [14].contains i) [] 15 ((19,.X (fQN (jB qs p)) 0)::(20,.Z (fNV ((jB qs p).num)))::(21,.X (fQN (qAt qs p)) 0)::(22,.Z (fNV ((qAt qs p).num)))::(23,.s (zKu (M+m) [(jB qs p).num,(qAt qs p).num]))::(24,.Z (fNV ((jB qs p).num*(qAt qs p).num)))::(25,.X (fQN (jB qs p)) 2)::(26,.Z (jA ((jB qs p).den)))::(27,.X (fQN (qAt qs p)) 2)::(28,.Z (jA ((qAt qs p).den)))::(29,.Z (jA ((jB qs p).den*(qAt qs p).den)))::(30,.Z (zAw (fQN (jB qs p*qAt qs p)) (uI 0)))::(18,.Z (zAw (fQN (jB qs p*qAt qs p)) (uI 0)))::(31,.u (fQN (jB qs p*qAt qs p)))::(32,.Z (uI 0)):: []) hmix s fnz kH
   (oc (zL (C:=cg (fQN (jB qs p))) 0 kH)<|oc (zT (C:=cg (fQN (jB qs p))) (k:=0) 2 kH (h:=zBn))<|oc (zL (C:=cg (fQN (qAt qs p))) 0 kH)<|oc (zT (C:=cg (fQN (qAt qs p))) (k:=0) 2 kH (h:=zBn))<|oc (yI (fun u v W (hu:NV W u ((jB qs p).num)) (hv:NV W v ((qAt qs p).num))=>zBa (NV.uv' hu (Bd.mono (hp p hk1).1 (m':=(M+m)) (by first|omega|decide))) (NV.uv' hv (Bd.mono (hqp).1 (m':=(M+m)) (by first|omega|decide)))))<|oc (zH zE zKv (fun u0 W hb (h0:ISV W (M+m) u0 [(jB qs p).num,(qAt qs p).num])=>zEa h0 (by show (M+m)*2+(M+m)+1<=40000;omega) fN fN))<|oc (zL (C:=cg (fQN (jB qs p))) 2 kH)<|oc (jE (C:=cg (fQN (jB qs p))) (k:=2) kH (h:=zA5))<|oc (zL (C:=cg (fQN (qAt qs p))) 2 kH)<|oc (jE (C:=cg (fQN (qAt qs p))) (k:=2) kH (h:=zA5))<|oc (zI zE zSe (fun u0 u1 W hb (h0:qR W u0 ((jB qs p).den)) (h1:qR W u1 ((qAt qs p).den))=>zLe (qR.lv (m:=M+m) h0 (zXq (hp p hk1).2 (zXt y7 oO))) (qR.lv (m:=M+m) h1 (zXq hqp.2 (zXt y7 oO))) oO))<|oc (zI zE zPc (fun u0 u1 W hb (h0:NV W u0 ((jB qs p).num*(qAt qs p).num)) (h1:qR W u1 ((jB qs p).den*(qAt qs p).den))=>hnew W u0 u1 h0 h1))<|oc zC<|oc (zAK (A:=(fQN (jB qs p*qAt qs p)).tS) (B:=(uI 0).tS) iiz)<|oc (zAJ (A:=(fQN (jB qs p*qAt qs p)).tS) (B:=(uI 0).tS) iiz)<|zD) fun Q' hQ a w6 s hr hd=> ?_
  refine zS (wC (fQN (jB qs p*qAt qs p))) ((fQN (jB qs p*qAt qs p)).tS) rfl s kH rfl rfl rfl (jC _) iiz yN fun a w s=> ?_
  refine zA rfl (hQ _ _ ?_)
  refine zX 2 ((11,.Z (fI (p:Int)))::(12,.u (fI ((p+1:Nat):Int))):: []) s kH
   (oc zC<|oc (yM .i64 (p:Int) 1 ((p+1:Nat):Int) iiz iiz (wrap64 _ _ oO oO))<|zD) fun a w7 s=> ?_
  replace s:=s.drop [4]
  refine yP (fI ((p+1:Nat):Int)) rfl s kH iiz fun a w s=> ?_
  refine zA rfl ?_
  replace s:=s.popB
  exact ⟨p+1,hk1,(by show qs.length - (p+1)<qs.length - p;omega),s.keepK _ (fmz ⟨mz5,fmz ⟨.head _,fnz⟩⟩)⟩
 ·have hk1:p=qs.length:=by have:=zXu e;rw [zXC] at this;omega
  refine zXE ?_
  refine zXg ?_
  refine zB 1 ((33,.u (fQN (jB qs p))):: []) hmix s kH
   (oc (zJ (f:=fQN (jB qs p)) 3 kH (hz:=jC _))<|zD) fun a w8 s=> ?_
  refine zS (wC (fQN (jB qs p))) ((fQN (jB qs p)).tS) rfl s kH rfl rfl rfl iiz iiz yN fun a w s=> ?_
  refine zA rfl ?_
  refine zXh ?_
  exact wH s (wC (fQN (jB qs p))) rfl kH rfl rfl (jC _) (fun cs W h=>by rw [hk1] at h;exact h)
theorem zDz {p q:Rat} (h:(wD 3 (rvs m [p,q])).p v W) (hp:QB p m) (hq:QB q m) (hm:m<=990):Calls prog 43 #[v] W (Ret W (fQN (p+q)).tS):=by
 have:=zRs m h hp.pos lr hm fN (fun x hx=>by simp at hx;rcases hx with rfl|rfl;exact hp;exact hq) (fun k hk=>by
  rcases (by simp at hk;omega:k=0∨k=1) with rfl|rfl
  ·exact QB.zero hp.pos
  ·show QB (0+p) _
   rw [Rat.zero_add]
   exact hp)
 rw [show ([p,q]:List Rat).length=2 from rfl,zRB] at this
 exact this
theorem zBJ {p q:Rat} (h:(wD 3 (rvs m [p,q])).p v W) (hp:QB p m) (hq:QB q m) (hm:m<=990):Calls prog 60 #[v] W (Ret W (fQN (p*q)).tS):=by
 have hm0:=hp.pos
 have:=zRr m h hm0 lr hm fN (fun x hx=>by simp at hx;rcases hx with rfl|rfl;exact hp;exact hq) (fun k hk=>by
  rcases (by simp at hk;omega:k=0∨k=1) with rfl|rfl
  ·exact QB.one hp.pos
  ·show QB (1*p) _
   rw [zXJ]
   exact hp)
 rw [show ([p,q]:List Rat).length=2 from rfl,zLK] at this
 exact this
theorem zEd {d:Tmp} (k:IntKind) (u v r:Int) (hx: ∀q W,(fct G x).p q W->q= .int k u) (hy: ∀q W,(fct G y).p q W->q= .int k v) (hr:k.wrap (u - v)=r) (hd: ∀W,(G d).p (.int k r) W:=by exact fun _=>rfl):qK F m P w0 ops G ⟨some d,.binOp .sub t x y t',ty,pos,aft,none⟩:=
 zDH (.int k u) (.int k v) (.int k r) hx hy (fun W=>by simp [eqGuard]) (fun W=>by simp [binOp,Op.intArith,hr]) hd
theorem zGi {u:Wj} {p q:Rat} (h:RVp m p u W) (h':RVp m q v W) (hm:m<=990) (hm0:0<m):Calls prog 48 #[u,v] W (Ret W (fQN (p - q)).tS):=by
 have hp:QB p m:=h.qb hm0
 have hq:QB q m:=h'.qb hm0
 refine z7 [(fRV m p).tS,(fRV m q).tS] func48 rfl kH ⟨h,h',trivial⟩ fun a s=> ?_
 refine zXg ?_
 refine zB 0 [] hmix s kH
  zD fun a w1 s=> ?_
 refine yG (wC (fRV m p)) rfl s kH (fun v W h=>jW h) fun b2 a w s=> ?_
 refine yG (wC (fRV m q)) rfl s kH (fun v W h=>jW h) fun b3 a w s=> ?_
 refine zZ (CU.len 3) (cs:=zR3) kH rfl s kH (fun W=>rfl) rfl fun b4 a w s=> ?_
 refine zA rfl ?_
 refine zXg ?_
 refine z9 [] 5 ((5,.Z (fRV m p))::(6,.Z (fRV m q))::(7,.Z (fQN (-q)))::(8,.s (wD 3 (rvs m [p,(-q)])))::(9,.u (fQN (p+ -q))):: []) hmix s kH
  (oc (zJ (f:=fRV m p) 3 kH (hz:=qM _ _))<|oc (zJ (f:=fRV m q) 3 kH (hz:=qM _ _))<|oc (zH zE zVm (fun u0 W hb (h0:RVp m q u0 W)=>zRq h0 oO hm0))<|oc (yI (fun u v W (hu:RVp m p u W) (hv:QNp (-q) v W)=>zBW hu (wK hv hq.neg)))<|oc (zH zE zMV (fun u0 W hb (h0:(wD 3 (rvs m [p,(-q)])).p u0 W)=>zDz h0 hp hq.neg oO))<|zD) fun Q' hQ a w2 s=> ?_
 refine zS (wC (fQN (p+ -q))) ((fQN (p+ -q)).tS) rfl s kH rfl rfl rfl iiz iiz yN fun a w s=> ?_
 refine zA rfl (hQ _ _ ?_)
 refine zXh ?_
 exact wH s (wC (fQN (p+ -q))) rfl kH rfl rfl (jC _) (fun cs W h=>by rw [Rat.sub_eq_add_neg];exact h)
theorem zLw {u:Wj} {p q:Rat} (h:RVp m p u W) (h':RVp m q v W) (hm:m<=490) (hm0:0<m):Calls prog 15 #[u,v] W (Ret W (fQN ((p+q) / 2)).tS):=by
 have hp:QB p m:=h.qb hm0
 have hq:QB q m:=h'.qb hm0
 have hq2:QB ((2:Int):Rat) (m+m+1):=QB.mono (m:=1) ⟨by unfold Bd BB;decide+kernel,by unfold BB;decide+kernel⟩ oO
 refine z7 [(fRV m p).tS,(fRV m q).tS] func15 rfl kH ⟨h,h',trivial⟩ fun a s=> ?_
 refine zXg ?_
 refine zB 0 [] hmix s kH
  zD fun a w1 s=> ?_
 refine yG (wC (fRV m p)) rfl s kH (fun v W h=>jW h) fun b2 a w s=> ?_
 refine yG (wC (fRV m q)) rfl s kH (fun v W h=>jW h) fun b3 a w s=> ?_
 refine zZ (CU.len 3) (cs:=zR3) kH rfl s kH (fun W=>rfl) rfl fun b4 a w s=> ?_
 refine zA rfl ?_
 refine zXg ?_
 refine zB 9 ((8,.Z (fRV m p))::(9,.Z (fRV m q))::(10,.s (wD 3 (rvs m [p,q])))::(11,.Z (fQN (p+q)))::(12,.Z (fQN ((2:Int):Rat)))::(13,.Z (zAw (fQN ((p+q) / ((2:Int):Rat))) (UF.any)))::(7,.Z (zAw (fQN ((p+q) / ((2:Int):Rat))) (UF.any)))::(14,.u (fQN ((p+q) / ((2:Int):Rat)))):: []) hmix s kH
  (oc (zJ (f:=fRV m p) 3 kH (hz:=qM _ _))<|oc (zJ (f:=fRV m q) 3 kH (hz:=qM _ _))<|oc (yI (fun u v W (hu:RVp m p u W) (hv:RVp m q v W)=>zBW hu hv))<|oc (zH zE zMV (fun u0 W hb (h0:(wD 3 (rvs m [p,q])).p u0 W)=>zDz h0 hp hq oO))<|oc (zH zE zFq (fun u0 W hb (h0:u0= .int .i64 2)=>zCt 2 h0 dA))<|oc (zI zE zTV (fun u0 u1 W hb (h0:QNp (p+q) u0 W) (h1:QNp ((2:Int):Rat) u1 W)=>(zLt (wK h0 (hp.add hq)) (wK h1 hq2) oO oO).mono (fun e w' ⟨v,e1,⟨x,y,e2,h2,_⟩,hb⟩=>⟨v,e1,⟨x,y,e2,h2,trivial⟩,hb⟩)))<|oc zC<|oc (zAK (A:=(fQN ((p+q) / ((2:Int):Rat))).tS) (B:=(UF.any).tS) iiz)<|oc (zAJ (A:=(fQN ((p+q) / ((2:Int):Rat))).tS) (B:=(UF.any).tS) iiz)<|zD) fun a w2 s=> ?_
 refine zZ (CU.len 3) (cs:=zR3) kH rfl s kH (fun W=>rfl) rfl fun b5 a w s=> ?_
 refine zS (wC (fQN ((p+q) / ((2:Int):Rat)))) ((fQN ((p+q) / ((2:Int):Rat))).tS) rfl s kH rfl rfl rfl iiz iiz yN fun a w s=> ?_
 refine yP UF.any rfl s kH (fun _ _ _=>trivial) fun a w s=> ?_
 refine zA rfl ?_
 refine zXg ?_
 refine zB 1 ((16,.u (fQN ((p+q) / ((2:Int):Rat)))):: []) hmix s kH
  (oc (zJ (f:=fQN ((p+q) / ((2:Int):Rat))) 3 kH (hz:=jC _))<|zD) fun a w3 s=> ?_
 refine zS (wC (fQN ((p+q) / ((2:Int):Rat)))) ((fQN ((p+q) / ((2:Int):Rat))).tS) rfl s kH rfl rfl rfl iiz iiz yN fun a w s=> ?_
 refine zA rfl ?_
 refine zXh ?_
 exact wH s (wC (fQN ((p+q) / ((2:Int):Rat)))) rfl kH rfl rfl (jC _) (fun cs W h=>h)
abbrev QX.q (x:QX):Rat:=mkRat x.k x.d
theorem zLG {k:Int} (h:(fQX n n' k d).p v W): ∃s A c A' c',v= .agg #[.bool s,.slice A n c,.slice A' n' c']:=by
 obtain ⟨b,s,t,rfl,⟨sg,A,c,l,e1,_⟩,A',c',l',rfl,_⟩:=h
 have:=zXv Array.toList (jH e1)
 simp at this
 rw [this.1,this.2]
 exact ⟨_,_,_,_,_,rfl⟩
theorem zS7 {k:Int} (h:(fQX n n' k d).p v W):(wC (fQX n n' k d)).p v.cells.toList W/\v.cells.toList.all yA=true:=by
 obtain ⟨sg,A,c,A',c',rfl⟩:=zLG h
 exact ⟨h,rfl⟩
theorem zUu {k:Int} (h:QXp n n' k d v W) (h1:n<=m) (h2:n'<=m):RVp m (mkRat k d) v W:=⟨k,d,zUV h h1 h2,rfl⟩
theorem QXp.qb {x:QX} (h:QXp x.n x.n' x.k x.d v W) (hg:x.n<=40/\x.n'<=40):QB x.q 40:=(zUu h hg.1 hg.2).qb oO
theorem zOF {b:Nat} (k:Nat) (h:Mem W b o cs) (hd: ∀j u,ds[j]?=some u->cs[k+j]?=some u):Mem W b (o+k) ds:=fun j u hj=>by
 have:=h (k+j) u (hd j u hj)
 rwa [<-zX5] at this
theorem zSZ (z:Int) (hv:v= .int .i64 z) (hz: -9223372036854775808<=z/\z<=9223372036854775807):Calls prog 73 #[v] W (Ret W (fQN (z:Rat)).tS):=by
 subst hv
 exact zN1 z hz
theorem zQ9 (s0:Bool) (A0 D0:Wl Addr) (n0 c0 i0 j0:Nat):z5 prog 55 1 [(0,.agg #[.bool s0,.slice A0 n0 c0,.slice D0 i0 j0])]=some (28,#[.bool s0,.slice A0 n0 c0,.slice D0 i0 j0]):=by kernel_rfl
theorem zSP {u:Wj} {a:QX} (h0:(fQX a.n a.n' a.k a.d).p u W): ∃e cs,z5 prog 55 1 [(0,u)]=some (e,cs)/\(wD 3 ([a].map QX.cu)).p (.slice (some ⟨W.heap.size,0,none⟩) 1 1) (W.alloc (.cells cs e)):=by
 obtain ⟨s0,A0,c0,D0,j0,rfl⟩:=zLG h0
 refine ⟨_,_,zQ9 s0 A0 D0 a.n c0 a.n' j0,some ⟨W.heap.size,0,none⟩,1,rfl,zXm _,by decide,fun e=>(by cases e),fun x C hx=> ?_⟩
 have hb:=zCg W (.cells #[.bool s0,.slice A0 a.n c0,.slice D0 a.n' j0] 28)
 have hm:=zBz W #[.bool s0,.slice A0 a.n c0,.slice D0 a.n' j0] 28
 rcases (by have:=(zXi.1 hx).1;simp at this;omega:x=0) with rfl
 ·obtain rfl:QX.cu a=C:=by simpa using hx
  exact ⟨W.heap.size,0, [.bool s0,.slice A0 a.n c0,.slice D0 a.n' j0],rfl,zOF 0 hm (fun j u hj=>by match j with|0=>exact hj|1=>exact hj|2=>exact hj|j+3=>simp at hj),(fQX a.n a.n' a.k a.d).tS.st _ _ _ h0 hb⟩
set_option maxHeartbeats 2000000
theorem zCs {u:Wj} {x y:Int} (hu:u= .int .i64 x) (hv:v= .int .i64 y) (hx: -9223372036854775808<=x/\x<=9223372036854775807) (hy: -9223372036854775808<=y/\y<=9223372036854775807):Calls prog 19 #[u,v] W (Ret W (fPN (((x:Int):Rat),((y:Int):Rat))).tS):=by
 refine z7 [(uI x).tS,(uI y).tS] func19 rfl kH ⟨hu,hv,trivial⟩ fun a s=> ?_
 refine zXg ?_
 refine zB 0 [] hmix s kH
  zD fun a w1 s=> ?_
 refine zZ (CU.len 6) (cs:=zP6) kH rfl s kH (fun W=>rfl) rfl fun b4 a w s=> ?_
 refine zA rfl ?_
 refine zXg ?_
 refine zB 5 ((5,.Z (uI x))::(6,.Z (fQN ((x:Int):Rat)))::(7,.Z (uI y))::(8,.Z (fQN ((y:Int):Rat)))::(9,.u (fPN (((x:Int):Rat),((y:Int):Rat)))):: []) hmix s kH
  (oc zC<|oc (zH zE zFq (fun u0 W hb (h0:u0= .int .i64 x)=>zCt x h0 hx))<|oc zC<|oc (zH zE zFq (fun u0 W hb (h0:u0= .int .i64 y)=>zCt y h0 hy))<|oc (y6 (fun u v W (hu:QNp ((x:Int):Rat) u W) (hv:QNp ((y:Int):Rat) v W)=>zQC (zAu _) (zAu _) hu hv))<|zD) fun a w2 s=> ?_
 refine zS (wC (fPN (((x:Int):Rat),((y:Int):Rat)))) ((fPN (((x:Int):Rat),((y:Int):Rat))).tS) rfl s kH rfl rfl rfl iiz iiz yV fun a w s=> ?_
 refine zA rfl ?_
 refine zXh ?_
 exact wH s (wC (fPN (((x:Int):Rat),((y:Int):Rat)))) rfl kH rfl rfl (zO _ _) (fun cs W h=>h)
theorem zRn {u:Wj} {p q:V2} (h1:(fPV m p).p u W) (h2:(fPV m q).p v W) (hp:QB p.1 m/\QB p.2 m) (hq:QB q.1 m/\QB q.2 m) (hm:m<=990):Calls prog 20 #[u,v] W (Ret W (fPN (p.1+q.1,p.2+q.2)).tS):=by
 refine z7 [(fPV m p).tS,(fPV m q).tS] func20 rfl kH ⟨h1,h2,trivial⟩ fun a s=> ?_
 refine zXg ?_
 refine zB 0 [] hmix s kH
  zD fun a w1 s=> ?_
 refine yG (wC (fPV m p)) rfl s kH (fun v W h=>yO h) fun b2 a w s=> ?_
 refine yG (wC (fPV m q)) rfl s kH (fun v W h=>yO h) fun b3 a w s=> ?_
 refine zZ (CU.len 6) (cs:=zP6) kH rfl s kH (fun W=>rfl) rfl fun b4 a w s=> ?_
 refine zA rfl ?_
 refine zXg ?_
 refine z9 [] 13 ((5,.X (fPV m p) 0)::(6,.Z (fRV m ((p).1)))::(7,.X (fPV m q) 0)::(8,.Z (fRV m ((q).1)))::(9,.s (wD 3 (rvs m [(p).1,(q).1])))::(10,.Z (fQN ((p).1+(q).1)))::(11,.X (fPV m p) 3)::(12,.Z (fRV m ((p).2)))::(13,.X (fPV m q) 3)::(14,.Z (fRV m ((q).2)))::(15,.s (wD 3 (rvs m [(p).2,(q).2])))::(16,.Z (fQN ((p).2+(q).2)))::(17,.u (fPN (p.1+q.1,p.2+q.2))):: []) hmix s kH
  (oc (zL (C:=cg (fPV m p)) 0 kH)<|oc (zT (C:=cg (fPV m p)) (k:=0) 3 kH (h:=zC6))<|oc (zL (C:=cg (fPV m q)) 0 kH)<|oc (zT (C:=cg (fPV m q)) (k:=0) 3 kH (h:=zC6))<|oc (yI (fun u v W (hu:RVp m ((p).1) u W) (hv:RVp m ((q).1) v W)=>zBW hu hv))<|oc (zH zE zMV (fun u0 W hb (h0:(wD 3 (rvs m [(p).1,(q).1])).p u0 W)=>zDz h0 hp.1 hq.1 hm))<|oc (zL (C:=cg (fPV m p)) 3 kH)<|oc (zT (C:=cg (fPV m p)) (k:=3) 3 kH (h:=zCj))<|oc (zL (C:=cg (fPV m q)) 3 kH)<|oc (zT (C:=cg (fPV m q)) (k:=3) 3 kH (h:=zCj))<|oc (yI (fun u v W (hu:RVp m ((p).2) u W) (hv:RVp m ((q).2) v W)=>zBW hu hv))<|oc (zH zE zMV (fun u0 W hb (h0:(wD 3 (rvs m [(p).2,(q).2])).p u0 W)=>zDz h0 hp.2 hq.2 hm))<|oc (y6 (fun u v W (hu:QNp ((p).1+(q).1) u W) (hv:QNp ((p).2+(q).2) v W)=>zQC (zAu _) (zAu _) hu hv))<|zD) fun Q' hQ a w2 s=> ?_
 refine zS (wC (fPN (p.1+q.1,p.2+q.2))) ((fPN (p.1+q.1,p.2+q.2)).tS) rfl s kH rfl rfl rfl iiz iiz yV fun a w s=> ?_
 refine zA rfl (hQ _ _ ?_)
 refine zXh ?_
 exact wH s (wC (fPN (p.1+q.1,p.2+q.2))) rfl kH rfl rfl (zO _ _) (fun cs W h=>h)
theorem zBQ {u:Wj} {p q:V2} (h1:(fPV m p).p u W) (h2:(fPV m q).p v W) (hm:m<=990) (hm0:0<m):Calls prog 21 #[u,v] W (Ret W (fPN (p.1 - q.1,p.2 - q.2)).tS):=by
 refine z7 [(fPV m p).tS,(fPV m q).tS] func21 rfl kH ⟨h1,h2,trivial⟩ fun a s=> ?_
 refine zXg ?_
 refine zB 0 [] hmix s kH
  zD fun a w1 s=> ?_
 refine yG (wC (fPV m p)) rfl s kH (fun v W h=>yO h) fun b2 a w s=> ?_
 refine yG (wC (fPV m q)) rfl s kH (fun v W h=>yO h) fun b3 a w s=> ?_
 refine zZ (CU.len 6) (cs:=zP6) kH rfl s kH (fun W=>rfl) rfl fun b4 a w s=> ?_
 refine zA rfl ?_
 refine zXg ?_
 refine z9 [] 11 ((5,.X (fPV m p) 0)::(6,.Z (fRV m ((p).1)))::(7,.X (fPV m q) 0)::(8,.Z (fRV m ((q).1)))::(9,.Z (fQN ((p).1 - (q).1)))::(10,.X (fPV m p) 3)::(11,.Z (fRV m ((p).2)))::(12,.X (fPV m q) 3)::(13,.Z (fRV m ((q).2)))::(14,.Z (fQN ((p).2 - (q).2)))::(15,.u (fPN (p.1 - q.1,p.2 - q.2))):: []) hmix s kH
  (oc (zL (C:=cg (fPV m p)) 0 kH)<|oc (zT (C:=cg (fPV m p)) (k:=0) 3 kH (h:=zC6))<|oc (zL (C:=cg (fPV m q)) 0 kH)<|oc (zT (C:=cg (fPV m q)) (k:=0) 3 kH (h:=zC6))<|oc (zI zE zPe (fun u0 u1 W hb (h0:RVp m ((p).1) u0 W) (h1:RVp m ((q).1) u1 W)=>zGi h0 h1 hm hm0))<|oc (zL (C:=cg (fPV m p)) 3 kH)<|oc (zT (C:=cg (fPV m p)) (k:=3) 3 kH (h:=zCj))<|oc (zL (C:=cg (fPV m q)) 3 kH)<|oc (zT (C:=cg (fPV m q)) (k:=3) 3 kH (h:=zCj))<|oc (zI zE zPe (fun u0 u1 W hb (h0:RVp m ((p).2) u0 W) (h1:RVp m ((q).2) u1 W)=>zGi h0 h1 hm hm0))<|oc (y6 (fun u v W (hu:QNp ((p).1 - (q).1) u W) (hv:QNp ((p).2 - (q).2) v W)=>zQC (zAu _) (zAu _) hu hv))<|zD) fun Q' hQ a w2 s=> ?_
 refine zS (wC (fPN (p.1 - q.1,p.2 - q.2))) ((fPN (p.1 - q.1,p.2 - q.2)).tS) rfl s kH rfl rfl rfl iiz iiz yV fun a w s=> ?_
 refine zA rfl (hQ _ _ ?_)
 refine zXh ?_
 exact wH s (wC (fPN (p.1 - q.1,p.2 - q.2))) rfl kH rfl rfl (zO _ _) (fun cs W h=>h)
theorem zHf {u:Wj} {p:V2} {t:Rat} (h1:(fPV m p).p u W) (h2:RVp m t v W) (hp:QB p.1 m/\QB p.2 m) (ht:QB t m) (hm:m<=990):Calls prog 31 #[u,v] W (Ret W (fPN (p.1*t,p.2*t)).tS):=by
 refine z7 [(fPV m p).tS,(fRV m t).tS] func31 rfl kH ⟨h1,h2,trivial⟩ fun a s=> ?_
 refine zXg ?_
 refine zB 0 [] hmix s kH
  zD fun a w1 s=> ?_
 refine yG (wC (fPV m p)) rfl s kH (fun v W h=>yO h) fun b2 a w s=> ?_
 refine yG (wC (fRV m t)) rfl s kH (fun v W h=>jW h) fun b3 a w s=> ?_
 refine zZ (CU.len 6) (cs:=zP6) kH rfl s kH (fun W=>rfl) rfl fun b4 a w s=> ?_
 refine zA rfl ?_
 refine zXg ?_
 refine z9 [] 11 ((5,.X (fPV m p) 0)::(6,.Z (fRV m ((p).1)))::(7,.Z (fRV m t))::(8,.s (wD 3 (rvs m [(p).1,t])))::(9,.Z (fQN ((p).1*t)))::(10,.X (fPV m p) 3)::(11,.Z (fRV m ((p).2)))::(12,.Z (fRV m t))::(13,.s (wD 3 (rvs m [(p).2,t])))::(14,.Z (fQN ((p).2*t)))::(15,.u (fPN (p.1*t,p.2*t))):: []) hmix s kH
  (oc (zL (C:=cg (fPV m p)) 0 kH)<|oc (zT (C:=cg (fPV m p)) (k:=0) 3 kH (h:=zC6))<|oc (zJ (f:=fRV m t) 3 kH (hz:=qM _ _))<|oc (yI (fun u v W (hu:RVp m ((p).1) u W) (hv:RVp m t v W)=>zBW hu hv))<|oc (zH zE zHN (fun u0 W hb (h0:(wD 3 (rvs m [(p).1,t])).p u0 W)=>zBJ h0 hp.1 ht oO))<|oc (zL (C:=cg (fPV m p)) 3 kH)<|oc (zT (C:=cg (fPV m p)) (k:=3) 3 kH (h:=zCj))<|oc (zJ (f:=fRV m t) 3 kH (hz:=qM _ _))<|oc (yI (fun u v W (hu:RVp m ((p).2) u W) (hv:RVp m t v W)=>zBW hu hv))<|oc (zH zE zHN (fun u0 W hb (h0:(wD 3 (rvs m [(p).2,t])).p u0 W)=>zBJ h0 hp.2 ht oO))<|oc (y6 (fun u v W (hu:QNp ((p).1*t) u W) (hv:QNp ((p).2*t) v W)=>zQC (zAu _) (zAu _) hu hv))<|zD) fun Q' hQ a w2 s=> ?_
 refine zS (wC (fPN (p.1*t,p.2*t))) ((fPN (p.1*t,p.2*t)).tS) rfl s kH rfl rfl rfl iiz iiz yV fun a w s=> ?_
 refine zA rfl (hQ _ _ ?_)
 refine zXh ?_
 exact wH s (wC (fPN (p.1*t,p.2*t))) rfl kH rfl rfl (zO _ _) (fun cs W h=>h)
theorem zE6 {u:Wj} {p q:V2} (h1:(fPV m p).p u W) (h2:(fPV m q).p v W) (hp:QB p.1 m/\QB p.2 m) (hq:QB q.1 m/\QB q.2 m) (hm:m<=495) (hm0:0<m):Calls prog 82 #[u,v] W (Ret W (fQN (p.1*q.2 - p.2*q.1)).tS):=by
 refine z7 [(fPV m p).tS,(fPV m q).tS] func82 rfl kH ⟨h1,h2,trivial⟩ fun a s=> ?_
 refine zXg ?_
 refine zB 0 [] hmix s kH
  zD fun a w1 s=> ?_
 refine yG (wC (fPV m p)) rfl s kH (fun v W h=>yO h) fun b2 a w s=> ?_
 refine yG (wC (fPV m q)) rfl s kH (fun v W h=>yO h) fun b3 a w s=> ?_
 refine zZ (CU.len 3) (cs:=zR3) kH rfl s kH (fun W=>rfl) rfl fun b4 a w s=> ?_
 refine zA rfl ?_
 refine zXg ?_
 refine z9 [] 13 ((5,.X (fPV m p) 0)::(6,.Z (fRV m ((p).1)))::(7,.X (fPV m q) 3)::(8,.Z (fRV m ((q).2)))::(9,.s (wD 3 (rvs m [(p).1,(q).2])))::(10,.Z (fQN ((p).1*(q).2)))::(11,.X (fPV m p) 3)::(12,.Z (fRV m ((p).2)))::(13,.X (fPV m q) 0)::(14,.Z (fRV m ((q).1)))::(15,.s (wD 3 (rvs m [(p).2,(q).1])))::(16,.Z (fQN ((p).2*(q).1)))::(17,.u (fQN (((p).1*(q).2) - ((p).2*(q).1)))):: []) hmix s kH
  (oc (zL (C:=cg (fPV m p)) 0 kH)<|oc (zT (C:=cg (fPV m p)) (k:=0) 3 kH (h:=zC6))<|oc (zL (C:=cg (fPV m q)) 3 kH)<|oc (zT (C:=cg (fPV m q)) (k:=3) 3 kH (h:=zCj))<|oc (yI (fun u v W (hu:RVp m ((p).1) u W) (hv:RVp m ((q).2) v W)=>zBW hu hv))<|oc (zH zE zHN (fun u0 W hb (h0:(wD 3 (rvs m [(p).1,(q).2])).p u0 W)=>zBJ h0 hp.1 hq.2 oO))<|oc (zL (C:=cg (fPV m p)) 3 kH)<|oc (zT (C:=cg (fPV m p)) (k:=3) 3 kH (h:=zCj))<|oc (zL (C:=cg (fPV m q)) 0 kH)<|oc (zT (C:=cg (fPV m q)) (k:=0) 3 kH (h:=zC6))<|oc (yI (fun u v W (hu:RVp m ((p).2) u W) (hv:RVp m ((q).1) v W)=>zBW hu hv))<|oc (zH zE zHN (fun u0 W hb (h0:(wD 3 (rvs m [(p).2,(q).1])).p u0 W)=>zBJ h0 hp.2 hq.1 oO))<|oc (zI zE zPe (fun u0 u1 W hb (h0:QNp ((p).1*(q).2) u0 W) (h1:QNp ((p).2*(q).1) u1 W)=>zGi (wK h0 (hp.1.mul hq.2)) (wK h1 (hp.2.mul hq.1)) oO oO))<|zD) fun Q' hQ a w2 s=> ?_
 refine zS (wC (fQN (((p).1*(q).2) - ((p).2*(q).1)))) ((fQN (((p).1*(q).2) - ((p).2*(q).1))).tS) rfl s kH rfl rfl rfl iiz iiz yN fun a w s=> ?_
 refine zA rfl (hQ _ _ ?_)
 refine zXh ?_
 exact wH s (wC (fQN (p.1*q.2 - p.2*q.1))) rfl kH rfl rfl (jC _) (fun cs W h=>h)
theorem zLr (M:Nat) {W:Wi} {u v x:Wj} {p q:V2} {t:Rat} (h1:(fPV m p).p u W) (h2:(fPV m q).p v W) (h3:RVp k t x W) (hp:QB p.1 m/\QB p.2 m) (hq:QB q.1 m/\QB q.2 m) (ht:QB t k) (hm0:0<m) (hM:m+m+1+k<=M) (hM2:M<=990):Calls prog 14 #[u,v,x] W (Ret W (fPN (seg p q t)).tS):=by
 refine z7 [(fPV m p).tS,(fPV m q).tS,(fRV k t).tS] func14 rfl kH ⟨h1,h2,h3,trivial⟩ fun a s=> ?_
 refine zXg ?_
 refine zB 0 [] hmix s kH
  zD fun a w1 s=> ?_
 refine yG (wC (fPV m p)) rfl s kH (fun v W h=>yO h) fun b3 a w s=> ?_
 refine yG (wC (fPV m q)) rfl s kH (fun v W h=>yO h) fun b4 a w s=> ?_
 refine yG (wC (fRV k t)) rfl s kH (fun v W h=>jW h) fun b5 a w s=> ?_
 refine zZ (CU.len 6) (cs:=zP6) kH rfl s kH (fun W=>rfl) rfl fun b6 a w s=> ?_
 refine zA rfl ?_
 refine zXg ?_
 refine z9 [] 7 ((7,.Z (fPV m p))::(8,.Z (fPV m q))::(9,.Z (fPV m p))::(10,.Z (fPN ((q).1 - (p).1,(q).2 - (p).2)))::(11,.Z (fRV k t))::(12,.Z (fPN (((q).1 - (p).1)*t,((q).2 - (p).2)*t)))::(13,.u (fPN (seg p q t))):: []) hmix s kH
  (oc (zJ (f:=fPV m p) 6 kH (hz:=zO _ _))<|oc (zJ (f:=fPV m q) 6 kH (hz:=zO _ _))<|oc (zJ (f:=fPV m p) 6 kH (hz:=zO _ _))<|oc (zI zE zFE (fun u0 u1 W hb (h0:(fPV m q).p u0 W) (h1:(fPV m p).p u1 W)=>zBQ (p:=q) (q:=p) h0 h1 oO hm0))<|oc (zJ (f:=fRV k t) 3 kH (hz:=qM _ _))<|oc (zI zE zTX (fun u0 u1 W hb (h0:(fPN ((q).1 - (p).1,(q).2 - (p).2)).p u0 W) (h1:RVp k t u1 W)=>zHf (p:=((q).1 - (p).1,(q).2 - (p).2)) (zAz (p:=((q).1 - (p).1,(q).2 - (p).2)) (m:=M) ((show QB _ _/\QB _ _ from ⟨hq.1.sub hp.1,hq.2.sub hp.2⟩).1.mono (by first|omega|decide)) ((show QB _ _/\QB _ _ from ⟨hq.1.sub hp.1,hq.2.sub hp.2⟩).2.mono (by first|omega|decide)) h0) (RVp.mono h1 oO) ⟨(show QB _ _/\QB _ _ from ⟨hq.1.sub hp.1,hq.2.sub hp.2⟩).1.mono oO,(show QB _ _/\QB _ _ from ⟨hq.1.sub hp.1,hq.2.sub hp.2⟩).2.mono oO⟩ (ht.mono oO) oO))<|oc (zI zE zVL (fun u0 u1 W hb (h0:(fPV m p).p u0 W) (h1:(fPN (((q).1 - (p).1)*t,((q).2 - (p).2)*t)).p u1 W)=>zRn (p:=p) (q:=(((q).1 - (p).1)*t,((q).2 - (p).2)*t)) (zE8 (m':=M) oO h0) (zAz (p:=(((q).1 - (p).1)*t,((q).2 - (p).2)*t)) (m:=M) ((show QB _ _/\QB _ _ from ⟨(hq.1.sub hp.1).mul ht,(hq.2.sub hp.2).mul ht⟩).1.mono (by first|omega|decide)) ((show QB _ _/\QB _ _ from ⟨(hq.1.sub hp.1).mul ht,(hq.2.sub hp.2).mul ht⟩).2.mono (by first|omega|decide)) h1) ⟨hp.1.mono oO,hp.2.mono oO⟩ ⟨(show QB _ _/\QB _ _ from ⟨(hq.1.sub hp.1).mul ht,(hq.2.sub hp.2).mul ht⟩).1.mono oO,(show QB _ _/\QB _ _ from ⟨(hq.1.sub hp.1).mul ht,(hq.2.sub hp.2).mul ht⟩).2.mono oO⟩ oO))<|zD) fun Q' hQ a w2 s=> ?_
 refine zS (wC (fPN (seg p q t))) ((fPN (seg p q t)).tS) rfl s kH rfl rfl rfl iiz iiz yV fun a w s=> ?_
 refine zA rfl (hQ _ _ ?_)
 refine zXh ?_
 exact wH s (wC (fPN (seg p q t))) rfl kH rfl rfl (zO _ _) (fun cs W h=>h)
theorem zWo (s:Bool) (A A':Wl Addr) (n n' c c':Nat) (s2:Bool) (B B':Wl Addr) (k k' d d':Nat):z5 prog 22 1 [(0,.agg #[.bool s,.slice A n c,.slice A' n' c',.bool s2,.slice B k d,.slice B' k' d'])]=some (30,#[.bool s,.slice A n c,.slice A' n' c',.bool s2,.slice B k d,.slice B' k' d']):=by kernel_rfl
theorem zI2 {u:Wj} (h:(fPT f g).p u W): ∃e cs,z5 prog 22 1 [(0,u)]=some (e,cs)/\(wD 6 [wC (fPT f g)]).p (.slice (some ⟨W.heap.size,0,none⟩) 1 1) (W.alloc (.cells cs e)):=by
 obtain ⟨s,A,n,c,A',n',c',s2,B,k,d,B',k',d',rfl,h1,h2⟩:=h
 refine ⟨_,_,zWo s A A' n n' c c' s2 B B' k k' d d',some ⟨W.heap.size,0,none⟩,1,rfl,zXm _,by decide,fun e=>(by cases e),fun i C hi=> ?_⟩
 have hb:=zCg W (.cells #[.bool s,.slice A n c,.slice A' n' c',.bool s2,.slice B k d,.slice B' k' d'] 30)
 have hm:=zBz W #[.bool s,.slice A n c,.slice A' n' c',.bool s2,.slice B k d,.slice B' k' d'] 30
 obtain rfl:i=0:=by have:=(zXi.1 hi).1;simp at this;omega
 obtain rfl:wC (fPT f g)=C:=by simpa using hi
 refine ⟨W.heap.size,0, [.bool s,.slice A n c,.slice A' n' c',.bool s2,.slice B k d,.slice B' k' d'],rfl, ?_,(wC (fPT f g)).us _ _ _ ⟨s,A,n,c,A',n',c',s2,B,k,d,B',k',d',rfl,h1,h2⟩ (zV hb)⟩
 rw [show 0+0*6=0 from rfl]
 exact hm
theorem zLX (f g:UF): ∀C,C∈ [wC (fPT f g)]->CU.ok 6 C:=fun C hC=>by
 obtain rfl:C=wC (fPT f g):=by simpa using hC
 exact zDD f g
theorem zJk (h:k<ps.length):pns (ps.take (k+1))=pns (ps.take k)++ [wC (fPN (at_ ps k))]:=by
 unfold pns at_
 rw [zXK,List.map_append,List.getD_eq_getElem?_getD,zX0 h]
 rfl
theorem zN7 (hl:(wD 6 (pvs m ps)).p l W) (hm:m<=2000) (hps:ps.length<=1000000):Calls prog 145 #[l] W (Ret W (wJ W 30 6 (pns ps))):=by
 refine z7 [(wB l).tS] func145 rfl kH ⟨rfl,trivial⟩ fun a s=> ?_
 replace s:=s.renew [(0,.u (wB l))] (fmz ⟨.inr ⟨_,rfl,.head _⟩,fnz⟩)
 refine zXg ?_
 refine zB 1 ((2,.u (wB (sN))):: []) hmix s kH
  (oc zG<|zD) fun a w1 s=> ?_
 refine zA rfl ?_
 refine zXg ?_
 refine zB 1 ((3,.u (wB (sN))):: []) hmix s kH
  (oc zG<|zD) fun a w2 s=> ?_
 refine zA rfl ?_
 refine zXg ?_
 refine zXg ?_
 refine zB 1 ((4,.u (uI 0)):: []) hmix s kH
  (oc zG<|zD) fun a w3 s=> ?_
 refine zA rfl ?_
 refine zXs ?_
 refine zD4 (fun (p:Nat×Wj) w=>p.1<=ps.length/\W.heap.size<=w.heap.size/\zAE w W.heap.size 30 6 p.2 (pns (ps.take p.1))) (fun p=> [(0,.u (wB l)),(3,.u (wB (p.2))),(4,.u (uI (p.1:Int)))]) (fun p=>ps.length - p.1) (0, sN) (⟨zXn _,s.gr.size,zAE.nil _ _ _ _⟩) (s.keepK _ (fmz ⟨mz3,fmz ⟨mz1,fmz ⟨.head _,fnz⟩⟩⟩)) fun p a w hI s=> ?_
 have s0:=s
 replace s:=s.reb rfl [(0,.o (wD 6 (pvs m ps))),(0,.u (wB l)),(3,.u (wB (p.2))),(4,.u (uI (p.1:Int)))] (fmz ⟨.inr ⟨_,rfl,(wD 6 (pvs m ps)).st _ _ _ (by rw [show a.tmps.getD (0,KF.o (wD 6 (pvs m ps))).1 undef=l from s.val (.head _)];exact hl) s.below⟩,fmz ⟨.inl (.head _),fmz ⟨.inl mz1,fmz ⟨.inl mz2,fnz⟩⟩⟩⟩)
 refine zXg ?_
 refine zXg ?_
 refine zB 4 ((5,.Z (uI (p.1:Int)))::(6,.s (wD 6 (pvs m ps)))::(7,.Z (uI ((pvs m ps).length:Int)))::(8,.u (uB (ltz p.1 ((pvs m ps).length)))):: []) hmix s kH
  (oc zC<|oc zC<|oc (zDh (z:=6) (Cs:=pvs m ps) kH iiz (fun _=>rfl))<|oc (zR .i64 (p.1:Int) ((pvs m ps).length:Int) (ltz p.1 ((pvs m ps).length)) iiz iiz rfl rfl)<|zD) fun a w4 s=> ?_
 refine zA rfl ?_
 refine StS.cond s (ltz p.1 ((pvs m ps).length)) iiz (fun e=> ?_) (fun e=> ?_)
 ·have hk:p.1<ps.length:=by have:=zXk e;simp at this;omega
  refine zXo ?_
  refine zXg ?_
  refine zXs ?_
  refine zCr (K:= [(8,.u (uB (ltz p.1 ((pvs m ps).length)))),(0,.o (wD 6 (pvs m ps))),(0,.u (wB l)),(4,.u (uI (p.1:Int)))]) [(3,.u (wB (p.2)))] [0,1,2,7,8] 15 ((11,.u (wB (p.2)))::(12,.s (wD 6 (pvs m ps)))::(13,.Z (uI (p.1:Int)))::(14,.Y (fPV m (at_ ps p.1)))::(15,.X (fPV m (at_ ps p.1)) 0)::(16,.Z (fRV m ((at_ ps p.1).1)))::(17,.Z (fQN ((at_ ps p.1).1)))::(18,.s (wD 6 (pvs m ps)))::(19,.Z (uI (p.1:Int)))::(20,.Y (fPV m (at_ ps p.1)))::(21,.X (fPV m (at_ ps p.1)) 3)::(22,.Z (fRV m ((at_ ps p.1).2)))::(23,.Z (fQN ((at_ ps p.1).2)))::(24,.Z (fPN ((at_ ps p.1).1,(at_ ps p.1).2)))::(25,.s (wD 6 [wC (fPN ((at_ ps p.1).1,(at_ ps p.1).2))])):: []) hmix (s.keepK _ (fmz ⟨mz3,fmz ⟨.head _,fmz ⟨mz1,fmz ⟨mz2,fmz ⟨mz4,fnz⟩⟩⟩⟩⟩)) kH
   (oc zC<|oc zC<|oc zC<|oc (zBg (z:=6) (Cs:=pvs m ps) (i:=p.1) (C:=wC (fPV m (at_ ps p.1))) kH (qI hk) iiz iiz)<|oc (zL (C:=cg (fPV m (at_ ps p.1))) 0 kH)<|oc (zT (C:=cg (fPV m (at_ ps p.1))) (k:=0) 3 kH (h:=zC6))<|oc (zH zE zGK (fun u0 W hb (h0:RVp m ((at_ ps p.1).1) u0 W)=>zBq h0 hm))<|oc zC<|oc zC<|oc (zBg (z:=6) (Cs:=pvs m ps) (i:=p.1) (C:=wC (fPV m (at_ ps p.1))) kH (qI hk) iiz iiz)<|oc (zL (C:=cg (fPV m (at_ ps p.1))) 3 kH)<|oc (zT (C:=cg (fPV m (at_ ps p.1))) (k:=3) 3 kH (h:=zCj))<|oc (zH zE zGK (fun u0 W hb (h0:RVp m ((at_ ps p.1).2) u0 W)=>zBq h0 hm))<|oc (y6 (fun u v W (hu:QNp ((at_ ps p.1).1) u W) (hv:QNp ((at_ ps p.1).2) v W)=>zQC (zAu _) (zAu _) hu hv))<|oc (zAb (fun u W (hu:(fPN ((at_ ps p.1).1,(at_ ps p.1).2)).p u W)=>zI2 hu))<|zD) fun Q' hQ a w5 s hr=> ?_
  refine zKV ([wC (fPN ((at_ ps p.1).1,(at_ ps p.1).2))]) s0 (s.keepK [(11,.u (wB (p.2))),(8,.u (uB (ltz p.1 ((pvs m ps).length)))),(0,.u (wB l)),(4,.u (uI (p.1:Int)))] (fmz ⟨.head _,fmz ⟨mz1,fmz ⟨mz3,fmz ⟨mz4,fnz⟩⟩⟩⟩)) lr hI.2 rfl kH kH kH (s.fct (.tmp 11)) (hr (_,_) zWe) (zLX _ _) (by simp;omega) (fun q hq=>by cases hq) fun v' a w hI' s=> ?_
  have s1:=s
  replace s:=s.reb rfl [(26,.u (wB v')),(11,.u (wB (p.2))),(8,.u (uB (ltz p.1 ((pvs m ps).length)))),(0,.u (wB l)),(4,.u (uI (p.1:Int)))] (fmz ⟨.inl (.head _),fmz ⟨.inl mz1,fmz ⟨.inl mz2,fmz ⟨.inl mz3,fmz ⟨.inl mz4,fnz⟩⟩⟩⟩⟩)
  refine yP (wB v') rfl s kH iiz fun a w s=> ?_
  refine zA rfl (hQ _ _ ?_)
  refine zX 2 ((9,.Z (uI (p.1:Int)))::(10,.u (uI ((p.1+1:Nat):Int))):: []) s kH
   (oc zC<|oc (yM .i64 (p.1:Int) 1 ((p.1+1:Nat):Int) iiz iiz (wrap64 _ _ oO oO))<|zD) fun a w6 s=> ?_
  replace s:=s.drop [4]
  refine yP (uI ((p.1+1:Nat):Int)) rfl s kH iiz fun a w s=> ?_
  refine zA rfl ?_
  have hbw:=s.below
  replace s:=s1.back (s.keepK [(4,.u (uI ((p.1+1:Nat):Int))),(10,.u (uI ((p.1+1:Nat):Int))),(3,.u (wB v')),(26,.u (wB v')),(11,.u (wB (p.2))),(8,.u (uB (ltz p.1 ((pvs m ps).length)))),(0,.u (wB l))] (fmz ⟨.head _,fmz ⟨mz1,fmz ⟨mz2,fmz ⟨mz3,fmz ⟨mz4,fmz ⟨mz5,fmz ⟨mz6,fnz⟩⟩⟩⟩⟩⟩⟩)) rfl
  exact ⟨(p.1+1,v'),(by show ps.length - (p.1+1)<ps.length - p.1;omega),⟨hk,zXp hI'.1 hbw.size,by rw [zJk hk];exact hI'.2.below hbw⟩,s.keepK _ (fmz ⟨mz6,fmz ⟨mz2,fmz ⟨.head _,fnz⟩⟩⟩)⟩
 ·have hk:p.1=ps.length:=by have:=zXu e;simp at this;omega
  refine zXE ?_
  refine zXg ?_
  refine zB 2 ((27,.Z (wB (p.2)))::(2,.u (wB (p.2))):: []) hmix s kH
   (oc zC<|oc zG<|zD) fun a w7 s=> ?_
  refine zA rfl ?_
  refine zXh ?_
  exact StS.resN s s0.below rfl (by rw [s.val (.head _)];have:=hI.2.2.below s.below;rw [hk,List.take_length] at this;exact this)
theorem zB6 (hm0:0<m) {p:V2} {v:Wj} {W:Wi} (h:(fPV m p).p v W):QB p.1 m/\QB p.2 m:=by
 obtain ⟨_,_,_,_,_,_,_,_,_,_,_,_,_,_,_,h1,h2⟩:=h
 exact ⟨h1.qb hm0,h2.qb hm0⟩
theorem zHa (h:(wD z Cs).p v W):v.cells=#[v]/\yA v=true:=by
 obtain ⟨A,c,rfl,_⟩:=h
 exact ⟨rfl,rfl⟩
theorem zHY (h:vs.length=k) (h1: ∀u,u∈vs->u.oneCell'=true) (h2:vs.all yA=true) (v:Wj) (W:Wi) (e:(wB (.agg vs.toArray)).p v W): ∃us:List Wj,v= .agg us.toArray/\us.length=k/\(∀u,u∈us->u.oneCell'=true)/\us.all yA=true/\(wC (wB (.agg vs.toArray))).p us W:=⟨vs,e,h,h1,h2,rfl⟩
theorem zEm {u:Wj} (h:vs[k]?=some u): ∀cs W,(wC (wB (.agg vs.toArray))).p cs W-> ∃x,cs[k]?=some x/\(wB u).p x W:=fun cs W e=>by
 have:=zXv Array.toList (jH e)
 simp at this
 rw [this]
 exact ⟨u,h,rfl⟩
section
variable {F:Fence} {m:Nat} {P:Wn} {w0:Wi} {ops:Array Oper} {G:Nat->SF} {d:Tmp} {ty:Wk} {pos:String} {aft:Array Edge}
theorem zL2 (u v r:Wj) (hx: ∀q W,(fct G x).p q W->q=u) (hy: ∀q W,(fct G y).p q W->q=v) (hr: ∀W,(Instr.index t u v).run P W= .ok r W) (hd: ∀W,(G d).p r W:=by exact fun _=>rfl):qK F m P w0 ops G ⟨some d,.index t x y,ty,pos,aft,none⟩:=
 qJ (fun _ e=>by cases e) (fun _ e=>by cases e) fun b W hb hh=>by
  have e1:=hx _ _ (hh x (by simp [Op.operands]))
  have e2:=hy _ _ (hh y (by simp [Op.operands]))
  exact ⟨r,by simp [execOp,e1,e2,hr W],hd _⟩
end
abbrev V6:=V2×V2×V2
abbrev tl (t:V6):List V2:= [t.1,t.2.1,t.2.2]
theorem zGl {m':Nat} (hm:m<=m') {ps:List V2} (v:Wj) (W:Wi) (hv:(wD 6 (pvs m ps)).p v W):(wD 6 (pvs m' ps)).p v W:=
 zIf fN (fun i C D hC hD cs W h=>by
  have hi:i<ps.length:=by have:=(zXi.1 hC).1;simpa using this
  rw [qI hi] at hC
  rw [qI hi] at hD
  cases hC;cases hD
  exact zE8 hm h) v W hv
section
variable {F:Fence} {m:Nat} {P:Wn} {w0:Wi} {ops:Array Oper} {G:Nat->SF} {d:Tmp} {ty:Wk} {pos:String} {aft:Array Edge}
end
theorem zBd {W':Wi} (h:W.heap.size<=W'.heap.size) (v:Wj) (w:Wi) (hv:(wJ W' e z Cs).p v w):(wJ W e z Cs).p v w:=zAE.mono hv h
theorem zJi (hm0:0<m) {ps:List V2} {v:Wj} {W:Wi} (h:(wD 6 (pvs m ps)).p v W): ∀x,x∈ps->QB x.1 m/\QB x.2 m:=fun x hx=>by
 obtain ⟨i,hi,rfl⟩:=zTx hx
 obtain ⟨_,_,_,_,_,_,h5⟩:=h
 obtain ⟨b,o,cs,_,_,h6⟩:=h5 i _ (qI hi)
 exact zB6 hm0 (v:= .agg cs.toArray) h6
abbrev zDq (L:List Nat):List CU:=L.map fun z=>wF [.int .i64 ((z:Nat):Int)]
theorem zL9 (L:List Nat) (k:Nat):zDq (L++ [k])=zDq L++ [wF [.int .i64 (k:Int)]]:=by simp [zDq]
theorem zP5 (z:Int): ∀C,C∈ [wF [.int .i64 z]]->CU.ok 1 C:=fun C hC cs W h=>by
 obtain rfl:C=_:=by simpa using hC
 obtain rfl:cs=_:=h
 exact ⟨rfl,rfl,fun u hu=>by obtain rfl:=List.mem_singleton.1 hu;rfl⟩
theorem zUP (z:Int):z5 prog 41 1 [(0,.int .i64 z)]=some (3,#[.int .i64 z]):=by kernel_rfl
theorem zK1 {z:Int} {u:Wj} (h:u= .int .i64 z): ∃e cs,z5 prog 41 1 [(0,u)]=some (e,cs)/\(wD 1 [wF [.int .i64 z]]).p (.slice (some ⟨W.heap.size,0,none⟩) 1 1) (W.alloc (.cells cs e)):=by
 subst h
 refine ⟨_,_,zUP z,some ⟨W.heap.size,0,none⟩,1,rfl,zXm _,by decide,fun e=>(by cases e),fun i C hi=> ?_⟩
 have hm:=zBz W #[.int .i64 z] 3
 obtain rfl:i=0:=by have:=(zXi.1 hi).1;simp at this;omega
 obtain rfl:wF [.int .i64 z]=C:=by simpa using hi
 exact ⟨W.heap.size,0, [.int .i64 z],rfl,hm,rfl⟩
abbrev PX:=QX×QX
abbrev PX.p (x:PX):V2:=(x.1.q,x.2.q)
abbrev PX.u (x:PX):UF:=fPT (fQX x.1.n x.1.n' x.1.k x.1.d) (fQX x.2.n x.2.n' x.2.k x.2.d)
abbrev PX.cu (x:PX):CU:=wC x.u
abbrev pxs (L:List PX):List CU:=L.map PX.cu
abbrev pps (L:List PX):List V2:=L.map PX.p
theorem zWu {x:PX} (cs:List Wj) (W:Wi) (h:(PX.cu x).p cs W): ∃u,cs[1]?=some u/\(fSl x.1.n).p u W:=by
 obtain ⟨s,A,n,c,A',n',c',s2,B,k,d,B',k',d',e,h1,h2⟩:=h
 rw [zDY e]
 have:=zLI _ W (show (QX.cu x.1).p [Value.bool s,.slice A n c,.slice A' n' c'] W from h1)
 exact this
theorem zWt {x:PX} (cs:List Wj) (W:Wi) (h:(PX.cu x).p cs W): ∃u,cs[2]?=some u/\(fSl x.1.n').p u W:=by
 obtain ⟨s,A,n,c,A',n',c',s2,B,k,d,B',k',d',e,h1,h2⟩:=h
 rw [zDY e]
 have:=zLH _ W (show (QX.cu x.1).p [Value.bool s,.slice A n c,.slice A' n' c'] W from h1)
 exact this
theorem zWs {x:PX} (cs:List Wj) (W:Wi) (h:(PX.cu x).p cs W): ∃u,cs[4]?=some u/\(fSl x.2.n).p u W:=by
 obtain ⟨s,A,n,c,A',n',c',s2,B,k,d,B',k',d',e,h1,h2⟩:=h
 rw [zDY e]
 have:=zLI _ W (show (QX.cu x.2).p [Value.bool s2,.slice B k d,.slice B' k' d'] W from h2)
 exact this
theorem zWr {x:PX} (cs:List Wj) (W:Wi) (h:(PX.cu x).p cs W): ∃u,cs[5]?=some u/\(fSl x.2.n').p u W:=by
 obtain ⟨s,A,n,c,A',n',c',s2,B,k,d,B',k',d',e,h1,h2⟩:=h
 rw [zDY e]
 have:=zLH _ W (show (QX.cu x.2).p [Value.bool s2,.slice B k d,.slice B' k' d'] W from h2)
 exact this
section
variable {F:Fence} {m:Nat} {P:Wn} {w0:Wi} {ops:Array Oper} {G:Nat->SF} {d:Tmp} {ty:Wk} {pos:String} {aft:Array Edge}
theorem zRK {z u:Wm} {ats:Array Wk} (a b c e:Nat) (hx: ∀q W,(fct G x).p q W->q= .int .i64 (a:Nat)) (hy: ∀q W,(fct G y).p q W->q= .int .i64 (b:Nat)) (hz: ∀q W,(fct G z).p q W->q= .int .i64 (c:Nat)) (hu: ∀q W,(fct G u).p q W->q= .int .i64 (e:Nat)) (hd: ∀W,(G d).p (.int .i64 ((max (max (max a b) c) e:Nat):Int)) W:=by exact fun _=>rfl):qK F m P w0 ops G ⟨some d,.call ⟨.builtin .max,#[x,y,z,u],ats⟩,ty,pos,aft,none⟩:=by
 intro bb W K Q hb hr hK
 have e1:=hx _ _ (y4 hr (x:=x) (by simp [Op.operands,Call.operands]))
 have e2:=hy _ _ (y4 hr (x:=y) (by simp [Op.operands,Call.operands]))
 have e3:=hz _ _ (y4 hr (x:=z) (by simp [Op.operands,Call.operands]))
 have e4:=hu _ _ (y4 hr (x:=u) (by simp [Op.operands,Call.operands]))
 refine ⟨fun f hf=>(by
  unfold Oper.about at hf
  simp [resolve,go_sem] at hf), ?_⟩
 rw [Oper.semAt_eq _ _ _ (fun _ e=>by cases e)]
 have:(execOp bb.eval ⟨some d,.call ⟨.builtin .max,#[x,y,z,u],ats⟩,ty,pos,aft,none⟩).run P W= .ok (.value (.int .i64 ((max (max (max a b) c) e:Nat):Int))) W:=by
  have m2: ∀p q:Nat,(if (p:Int)<(q:Int) then Value.int .i64 (q:Nat) else .int .i64 (p:Nat))= .int .i64 ((max p q:Nat):Int):=fun p q=>by
   split<;>(congr 1;omega)
  simp only [execOp,resolve,invoke,builtin,e1,e2,e3,e4,Sem.run_bind,Sem.run_pure,Result.andThen_ok,List.map_toArray,List.map_cons,List.map_nil]
  simp [Builtin.max_,Builtin.max2,m2,Sem.run_bind,Sem.run_pure]
  have m3: ∀p q:Nat,(if (p:Int)<(q:Int) then (q:Int) else (p:Int))=((max p q:Nat):Int):=fun p q=>by split<;>omega
  try simp only [m3]
  try (congr 1;omega)
 rw [this]
 exact hK _ _ (fun d' e'=>by cases e';exact hd _) (zXl _ _)
end
def jI (p q:V2):Int:=if qsg p.1 q.1=0 then qsg p.2 q.2 else qsg p.1 q.1
theorem zQz {p q:V2} (h:(qsg p.1 q.1 !=0)=true):jI p q=qsg p.1 q.1:=by unfold jI;rw [if_neg (by simpa using h)]
theorem zQy {p q:V2} (h:(qsg p.1 q.1 !=0)=false):jI p q=qsg p.2 q.2:=by unfold jI;rw [if_pos (by simpa using h)]
theorem zD9 (a n:Nat):(a:Int).tmod (n:Int)=((a % n:Nat):Int):=rfl
theorem zA8 {p q:V2} (hp:QB p.1 m/\QB p.2 m) (hq:QB q.1 m/\QB q.2 m):QB (p.1 - q.1) (2*m+1)/\QB (p.2 - q.2) (2*m+1):=⟨(hp.1.sub hq.1).mono oO,(hp.2.sub hq.2).mono oO⟩
theorem zLq {u:Wj} {p q:V2} (h1:(fPV m p).p u W) (h2:(fPV m q).p v W) (hm:m<=990) (hm0:0<m):Calls prog 53 #[u,v] W (Ret W (fI (jI p q)).tS):=by
 refine z7 [(fPV m p).tS,(fPV m q).tS] func53 rfl kH ⟨h1,h2,trivial⟩ fun a s=> ?_
 refine zXg ?_
 refine zB 0 [] hmix s kH
  zD fun a w1 s=> ?_
 refine yG (wC (fPV m p)) rfl s kH (fun v W h=>yO h) fun b2 a w s=> ?_
 refine yG (wC (fPV m q)) rfl s kH (fun v W h=>yO h) fun b3 a w s=> ?_
 refine yP (uI 0) rfl s kH iiz fun a w s=> ?_
 refine zA rfl ?_
 refine zXg ?_
 refine zB 6 ((6,.X (fPV m p) 0)::(7,.Z (fRV m ((p).1)))::(8,.X (fPV m q) 0)::(9,.Z (fRV m ((q).1)))::(10,.Z (uI (qsg (p).1 (q).1)))::(5,.u (uI (qsg (p).1 (q).1))):: []) hmix s kH
  (oc (zL (C:=cg (fPV m p)) 0 kH)<|oc (zT (C:=cg (fPV m p)) (k:=0) 3 kH (h:=zC6))<|oc (zL (C:=cg (fPV m q)) 0 kH)<|oc (zT (C:=cg (fPV m q)) (k:=0) 3 kH (h:=zC6))<|oc (zI zE zIH (fun u0 u1 W hb (h0:RVp m ((p).1) u0 W) (h1:RVp m ((q).1) u1 W)=>zDc h0 h1 hm hm0))<|oc zG<|zD) fun a w2 s=> ?_
 refine zA rfl ?_
 refine zXg ?_
 refine zXg ?_
 refine zB 2 ((11,.Z (uI (qsg (p).1 (q).1)))::(12,.u (uB (qsg (p).1 (q).1 !=0))):: []) hmix s kH
  (oc zC<|oc (zR .i64 (qsg (p).1 (q).1) 0 (qsg (p).1 (q).1 !=0) iiz iiz rfl rfl)<|zD) fun a w3 s=> ?_
 refine zA rfl ?_
 refine StS.cond s (qsg (p).1 (q).1 !=0) iiz (fun e=> ?_) (fun e=> ?_)
 ·refine zXg ?_
  replace s:=s.drop [4]
  refine zB 2 ((13,.Z (uI (qsg (p).1 (q).1)))::(4,.u (uI (qsg (p).1 (q).1))):: []) hmix s kH
   (oc zC<|oc zG<|zD) fun a w4 s=> ?_
  refine zA rfl ?_
  refine zXh ?_
  exact wG s (t:=4) rfl (fun v W h=>by rw [zQz e];exact h)
 ·refine zXo ?_
  refine zXg ?_
  replace s:=s.drop [4]
  refine zB 6 ((14,.X (fPV m p) 3)::(15,.Z (fRV m ((p).2)))::(16,.X (fPV m q) 3)::(17,.Z (fRV m ((q).2)))::(18,.Z (uI (qsg (p).2 (q).2)))::(4,.u (uI (qsg (p).2 (q).2))):: []) hmix s kH
   (oc (zL (C:=cg (fPV m p)) 3 kH)<|oc (zT (C:=cg (fPV m p)) (k:=3) 3 kH (h:=zCj))<|oc (zL (C:=cg (fPV m q)) 3 kH)<|oc (zT (C:=cg (fPV m q)) (k:=3) 3 kH (h:=zCj))<|oc (zI zE zIH (fun u0 u1 W hb (h0:RVp m ((p).2) u0 W) (h1:RVp m ((q).2) u1 W)=>zDc h0 h1 hm hm0))<|oc zG<|zD) fun a w5 s=> ?_
  refine zA rfl ?_
  refine zXh ?_
  exact wG s (t:=4) rfl (fun v W h=>by rw [zQy e];exact h)
section
variable {F:Fence} {m:Nat} {P:Wn} {w0:Wi} {ops:Array Oper} {G:Nat->SF} {d:Tmp} {ty:Wk} {pos:String} {aft:Array Edge}
theorem zBY {j:Nat} {z:Wm} (h: ∀u v q W,(fct G x).p u W->(fct G y).p v W->(fct G z).p q W-> ∃cells,P.built t [(i,u),(j,v),(k,q)]=some cells/\(G d).p (.agg cells) W):qK F m P w0 ops G ⟨some d,.build t #[(i,x),(j,y),(k,z)],ty,pos,aft,none⟩:=
 zGu fun b W hb hh=>by
  obtain ⟨cells,h1,h2⟩:=h _ _ _ W (hh x fN) (hh y fN) (hh z fN)
  exact ⟨cells,by simpa using h1,h2⟩
end
theorem qbz {z:Int} (h:z.natAbs<100):QB ((z:Int):Rat) 1:=QB.int (Nat.lt_trans h dA) dA
def TGp (u v q:UF) (x:Wj) (w:Wi):Prop:= ∃a b c:List Wj,x= .agg (a++b++c).toArray/\(wC u).p a w/\(wC v).p b w/\(wC q).p c w
def fTG (u v q:UF):UF:= .mk' (TGp u v q) fun _ _ _ ⟨a,b,c,e,h1,h2,h3⟩ k=>⟨a,b,c,e,(wC u).us _ _ _ h1 k,(wC v).us _ _ _ h2 k,(wC q).us _ _ _ h3 k⟩
section
variable {f g f' g' f'' g'':UF}
theorem zEA (h:(wC (fTG (fPT f g) (fPT f' g') (fPT f'' g''))).p cs W): ∃a b c:List Wj,cs=a++b++c/\a.length=6/\b.length=6/\c.length=6/\(wC (fPT f g)).p a W/\(wC (fPT f' g')).p b W/\(wC (fPT f'' g'')).p c W:=by
 obtain ⟨a,b,c,e,h1,h2,h3⟩:=h
 have:=zXv Array.toList (jH e)
 have this:cs=a++b++c:=this
 exact ⟨a,b,c,this,(zDD _ _ a W h1).1,(zDD _ _ b W h2).1,(zDD _ _ c W h3).1,h1,h2,h3⟩
theorem zUG:CU.ok 18 (wC (fTG (fPT f g) (fPT f' g') (fPT f'' g''))):=fun cs W h=>by
 obtain ⟨a,b,c,rfl,l1,l2,l3,h1,h2,h3⟩:=zEA h
 have o1:=zDD _ _ a W h1;have o2:=zDD _ _ b W h2;have o3:=zDD _ _ c W h3
 refine ⟨by simp [l1,l2,l3],zIM o1.2.1 o2.2.1 o3.2.1,fun u hu=> ?_⟩
 rcases zXF.1 hu with hu|hu
 ·rcases zXF.1 hu with hu|hu
  ·exact o1.2.2 u hu
  ·exact o2.2.2 u hu
 ·exact o3.2.2 u hu
theorem zSE (h:(fTG (fPT f g) (fPT f' g') (fPT f'' g'')).p v W):(wC (fTG (fPT f g) (fPT f' g') (fPT f'' g''))).p v.cells.toList W/\v.cells.toList.all yA=true:=by
 obtain ⟨a,b,c,rfl,h1⟩:=id h
 exact ⟨h,(zUG _ W h).2.1⟩
theorem zPF (cs:List Wj) (W:Wi) (h:(wC (fTG (fPT f g) (fPT f' g') (fPT f'' g''))).p cs W):0+6<=cs.length/\(fPT f g).p (.agg ((cs.drop 0).take 6).toArray) W:=by
 obtain ⟨a,b,c,rfl,l1,l2,l3,h1,_⟩:=zEA h
 refine ⟨by simp [l1,l2,l3], ?_⟩
 rw [zX6,List.append_assoc,zXM oO,zXG oO]
 exact h1
theorem zSD (cs:List Wj) (W:Wi) (h:(wC (fTG (fPT f g) (fPT f' g') (fPT f'' g''))).p cs W):6+6<=cs.length/\(fPT f' g').p (.agg ((cs.drop 6).take 6).toArray) W:=by
 obtain ⟨a,b,c,rfl,l1,l2,l3,_,h2,_⟩:=zEA h
 refine ⟨by simp [l1,l2,l3], ?_⟩
 rw [List.append_assoc,zXN oO,zXO oO,zXx,zXM oO,zXG oO]
 exact h2
theorem zQ0 (cs:List Wj) (W:Wi) (h:(wC (fTG (fPT f g) (fPT f' g') (fPT f'' g''))).p cs W):12+6<=cs.length/\(fPT f'' g'').p (.agg ((cs.drop 12).take 6).toArray) W:=by
 obtain ⟨a,b,c,rfl,l1,l2,l3,_,_,h3⟩:=zEA h
 refine ⟨by simp [l1,l2,l3], ?_⟩
 rw [zXN (by simp;omega),zXO (by simp;omega),zXx,zXG oO]
 exact h3
theorem zGd (hlen:Cs.length<=9223372036854775807) (h: ∀(i:Nat) (C:CU),Cs[i]?=some C-> ∃p:List Wj,(∀j u,p[j]?=some u->cs[i*z+j]?=some u)/\C.p p W):(wD z Cs).p (.slice (some ⟨W.heap.size,0,none⟩) Cs.length Cs.length) (W.alloc (.cells cs.toArray e)):=by
 refine ⟨some ⟨W.heap.size,0,none⟩,Cs.length,rfl,zXm _,hlen,fun e=>(by cases e),fun i C hi=> ?_⟩
 obtain ⟨p,h1,h2⟩:=h i C hi
 refine ⟨W.heap.size,0,p,rfl,fun j u hj=> ?_,C.us _ _ _ h2 (zV (zCg W _))⟩
 have:=zBz W cs.toArray e (i*z+j) u (by simpa using h1 j u hj)
 rwa [<-zX5] at this
theorem zWn (s:Bool) (A A':Wl Addr) (n n' c c':Nat) (s2:Bool) (B B':Wl Addr) (k k' d d':Nat) (t:Bool) (C C':Wl Addr) (i i' j j':Nat) (t2:Bool) (D D':Wl Addr) (x x' y y':Nat) (r:Bool) (E E':Wl Addr) (p p' q q':Nat) (r2:Bool) (F F':Wl Addr) (g g' h h':Nat):z5 prog 22 3 [(0,.agg #[.bool s,.slice A n c,.slice A' n' c',.bool s2,.slice B k d,.slice B' k' d']),(1,.agg #[.bool t,.slice C i j,.slice C' i' j',.bool t2,.slice D x y,.slice D' x' y']),(2,.agg #[.bool r,.slice E p q,.slice E' p' q',.bool r2,.slice F g h,.slice F' g' h'])]=some (30,#[.bool s,.slice A n c,.slice A' n' c',.bool s2,.slice B k d,.slice B' k' d',.bool t,.slice C i j,.slice C' i' j',.bool t2,.slice D x y,.slice D' x' y',.bool r,.slice E p q,.slice E' p' q',.bool r2,.slice F g h,.slice F' g' h']):=by kernel_rfl
theorem zSR {u q:Wj} (hu:(fPT f g).p u W) (hv:(fPT f' g').p v W) (hq:(fPT f'' g'').p q W): ∃e cs,z5 prog 22 3 [(0,u),(1,v),(2,q)]=some (e,cs)/\(wD 6 [wC (fPT f g),wC (fPT f' g'),wC (fPT f'' g'')]).p (.slice (some ⟨W.heap.size,0,none⟩) 3 3) (W.alloc (.cells cs e)):=by
 obtain ⟨s,A,n,c,A',n',c',s2,B,k,d,B',k',d',rfl,h1,h2⟩:=hu
 obtain ⟨s3,A3,n3,c3,A4,n4,c4,s4,B3,k3,d3,B4,k4,d4,rfl,h3,h4⟩:=hv
 obtain ⟨s5,A5,n5,c5,A6,n6,c6,s6,B5,k5,d5,B6,k6,d6,rfl,h5,h6⟩:=hq
 refine ⟨_,_,zWn ..,zGd (Cs:= [wC (fPT f g),wC (fPT f' g'),wC (fPT f'' g'')]) (cs:=_) fN fun i C hi=> ?_⟩
 have hlt:=(zXi.1 hi).1
 simp at hlt
 rcases (by omega:i=0∨i=1∨i=2) with rfl|rfl|rfl
 ·obtain rfl:wC (fPT f g)=C:=by simpa using hi
  exact ⟨[.bool s,.slice A n c,.slice A' n' c',.bool s2,.slice B k d,.slice B' k' d'],fun j u hj=>by
   have h9:=(zXi.1 hj).1
   simp at h9
   rcases (by omega:j=0∨j=1∨j=2∨j=3∨j=4∨j=5) with rfl|rfl|rfl|rfl|rfl|rfl<;>exact hj,s,A,n,c,A',n',c',s2,B,k,d,B',k',d',rfl,h1,h2⟩
 ·obtain rfl:wC (fPT f' g')=C:=by simpa using hi
  exact ⟨[.bool s3,.slice A3 n3 c3,.slice A4 n4 c4,.bool s4,.slice B3 k3 d3,.slice B4 k4 d4],fun j u hj=>by
   have h9:=(zXi.1 hj).1
   simp at h9
   rcases (by omega:j=0∨j=1∨j=2∨j=3∨j=4∨j=5) with rfl|rfl|rfl|rfl|rfl|rfl<;>exact hj,s3,A3,n3,c3,A4,n4,c4,s4,B3,k3,d3,B4,k4,d4,rfl,h3,h4⟩
 ·obtain rfl:wC (fPT f'' g'')=C:=by simpa using hi
  exact ⟨[.bool s5,.slice A5 n5 c5,.slice A6 n6 c6,.bool s6,.slice B5 k5 d5,.slice B6 k6 d6],fun j u hj=>by
   have h9:=(zXi.1 hj).1
   simp at h9
   rcases (by omega:j=0∨j=1∨j=2∨j=3∨j=4∨j=5) with rfl|rfl|rfl|rfl|rfl|rfl<;>exact hj,s5,A5,n5,c5,A6,n6,c6,s6,B5,k5,d5,B6,k6,d6,rfl,h5,h6⟩
end
def PX.b (x:PX):Nat:=x.1.n+x.1.n'+(x.2.n+x.2.n')
section
variable {F:Fence} {m:Nat} {P:Wn} {w0:Wi} {ops:Array Oper} {G:Nat->SF} {d:Tmp} {ty:Wk} {pos:String} {aft:Array Edge}
theorem zFd {op:BinOp} (u v r:Bool) (ht:P.underlying t=some .bool) (hx: ∀q W,(fct G x).p q W->q= .bool u) (hy: ∀q W,(fct G y).p q W->q= .bool v) (hr:(match op with| .eql=>u==v| .neq=>u !=v|_=>false)=r) (ho:(match op with| .eql| .neq=>true|_=>false)=true) (hd: ∀W,(G d).p (.bool r) W:=by exact fun _=>rfl):qK F m P w0 ops G ⟨some d,.binOp op t x y t',ty,pos,aft,none⟩:=
 zDH (.bool u) (.bool v) (.bool r) hx hy (fun W=>by cases op<;>first|(cases ho;done)|simp [eqGuard]) (fun W=>by cases op<;>first|(cases ho;done)|(subst hr;cases u<;>cases v<;>simp [go_sem,ht])) hd
end
section
variable {F:Fence} {m:Nat} {P:Wn} {w0:Wi} {ops:Array Oper} {G:Nat->SF} {d:Tmp} {ty:Wk} {pos:String} {aft:Array Edge}
end
def yQ (a b p:V2):Int:=(crs a b p).num.sign
def zUZ (a b r:Rat):Bool:=(!(qsg a b==0))||(qsg a r==0)
def zSm (a b r:Rat):Bool:=decide (qsg a r*qsg r b≥0)&&zUZ a b r
def onB (a b p:V2):Bool:=((yQ a b p==0)&&zSm a.1 b.1 p.1)&&zSm a.2 b.2 p.2
abbrev QP (m:Nat) (p:V2):Prop:=QB p.1 m/\QB p.2 m
theorem QP.sub {p q:V2} (hp:QP m p) (hq:QP m q):QP (2*m+1) (p.1 - q.1,p.2 - q.2):=⟨(hp.1.sub hq.1).mono oO,(hp.2.sub hq.2).mono oO⟩
theorem zUF (hm0:0<m) {a b c:V2} {x:Wj} {W:Wi} (h:(fTG (fPV m a) (fPV m b) (fPV m c)).p x W):QP m a/\QP m b/\QP m c:=by
 obtain ⟨u,v,q,_,h1,h2,h3⟩:=h
 exact ⟨zB6 hm0 (v:= .agg u.toArray) h1,zB6 hm0 (v:= .agg v.toArray) h2,zB6 hm0 (v:= .agg q.toArray) h3⟩
theorem thB (s:Bool) (A A':Wl Addr) (n n' c c':Nat) (s2:Bool) (B B':Wl Addr) (k k' d d':Nat) (t:Bool) (C C':Wl Addr) (i i' j j':Nat) (t2:Bool) (D D':Wl Addr) (x x' y y':Nat) (r:Bool) (E E':Wl Addr) (p p' q q':Nat) (r2:Bool) (F F':Wl Addr) (g g' h h':Nat):prog.built 94 [(0,.agg #[.bool s,.slice A n c,.slice A' n' c',.bool s2,.slice B k d,.slice B' k' d']),(1,.agg #[.bool t,.slice C i j,.slice C' i' j',.bool t2,.slice D x y,.slice D' x' y']),(2,.agg #[.bool r,.slice E p q,.slice E' p' q',.bool r2,.slice F g h,.slice F' g' h'])]=some #[.bool s,.slice A n c,.slice A' n' c',.bool s2,.slice B k d,.slice B' k' d',.bool t,.slice C i j,.slice C' i' j',.bool t2,.slice D x y,.slice D' x' y',.bool r,.slice E p q,.slice E' p' q',.bool r2,.slice F g h,.slice F' g' h']:=by kernel_rfl
theorem zWJ {f' g' f'' g'':UF} {u q:Wj} (hu:(fPT f g).p u W) (hv:(fPT f' g').p v W) (hq:(fPT f'' g'').p q W): ∃cells,prog.built 94 [(0,u),(1,v),(2,q)]=some cells/\(fTG (fPT f g) (fPT f' g') (fPT f'' g'')).p (.agg cells) W:=by
 obtain ⟨s,A,n,c,A',n',c',s2,B,k,d,B',k',d',rfl,h1,h2⟩:=hu
 obtain ⟨s3,A3,n3,c3,A4,n4,c4,s4,B3,k3,d3,B4,k4,d4,rfl,h3,h4⟩:=hv
 obtain ⟨s5,A5,n5,c5,A6,n6,c6,s6,B5,k5,d5,B6,k6,d6,rfl,h5,h6⟩:=hq
 exact ⟨_,thB ..,_,_,_,rfl,⟨s,A,n,c,A',n',c',s2,B,k,d,B',k',d',rfl,h1,h2⟩,⟨s3,A3,n3,c3,A4,n4,c4,s4,B3,k3,d3,B4,k4,d4,rfl,h3,h4⟩,⟨s5,A5,n5,c5,A6,n6,c6,s6,B5,k5,d5,B6,k6,d6,rfl,h5,h6⟩⟩
theorem zQY {p q:V2} {x:Wj} (hx:(fTG (fPV m p) (fPV m q) (fPV m r)).p x W) (hm:m<=159) (hm0:0<m) (hT:Tab W):Calls prog 61 #[x] W (Ret W (fI (yQ p q r)).tS):=by
 have hq:=zUF hm0 hx
 refine z7 [(fTG (fPV m p) (fPV m q) (fPV m r)).tS] func61 rfl kH ⟨hx,trivial⟩ fun a s=> ?_
 replace s:=s.renew [(0,.u (fTG (fPV m p) (fPV m q) (fPV m r)))] (fmz ⟨.inr ⟨_,rfl,.head _⟩,fnz⟩)
 refine zXg ?_
 refine zB 0 [] hmix s kH
  zD fun a w1 s=> ?_
 refine yG (wC (fTG (fPV m p) (fPV m q) (fPV m r))) rfl s kH (fun v W h=>zSE h) fun b1 a w s=> ?_
 refine yP (uI 0) rfl s kH iiz fun a w s=> ?_
 refine zA rfl ?_
 refine zXg ?_
 replace s:=s.drop [2]
 refine zB 13 ((3,.X (fTG (fPV m p) (fPV m q) (fPV m r)) 6)::(4,.Z (fPV m q))::(5,.X (fTG (fPV m p) (fPV m q) (fPV m r)) 0)::(6,.Z (fPV m p))::(7,.Z (fPN ((q).1 - (p).1,(q).2 - (p).2)))::(8,.X (fTG (fPV m p) (fPV m q) (fPV m r)) 12)::(9,.Z (fPV m r))::(10,.X (fTG (fPV m p) (fPV m q) (fPV m r)) 0)::(11,.Z (fPV m p))::(12,.Z (fPN ((r).1 - (p).1,(r).2 - (p).2)))::(13,.Z (fQN (((q).1 - (p).1,(q).2 - (p).2).1*((r).1 - (p).1,(r).2 - (p).2).2 - ((q).1 - (p).1,(q).2 - (p).2).2*((r).1 - (p).1,(r).2 - (p).2).1)))::(14,.Z (uI (yQ p q r)))::(2,.u (uI (yQ p q r))):: []) hmix s kH
  (oc (zL (C:=cg (fTG (fPV m p) (fPV m q) (fPV m r))) 6 kH)<|oc (zT (C:=cg (fTG (fPV m p) (fPV m q) (fPV m r))) (k:=6) 6 kH (h:=zSD))<|oc (zL (C:=cg (fTG (fPV m p) (fPV m q) (fPV m r))) 0 kH)<|oc (zT (C:=cg (fTG (fPV m p) (fPV m q) (fPV m r))) (k:=0) 6 kH (h:=zPF))<|oc (zI zE zSh (fun u0 u1 W hb (h0:(fPV m q).p u0 W) (h1:(fPV m p).p u1 W)=>zKP (p:=q) (q:=p) h0 h1 oO hm0 (hT.below (s.up hb))))<|oc (zL (C:=cg (fTG (fPV m p) (fPV m q) (fPV m r))) 12 kH)<|oc (zT (C:=cg (fTG (fPV m p) (fPV m q) (fPV m r))) (k:=12) 6 kH (h:=zQ0))<|oc (zL (C:=cg (fTG (fPV m p) (fPV m q) (fPV m r))) 0 kH)<|oc (zT (C:=cg (fTG (fPV m p) (fPV m q) (fPV m r))) (k:=0) 6 kH (h:=zPF))<|oc (zI zE zSh (fun u0 u1 W hb (h0:(fPV m r).p u0 W) (h1:(fPV m p).p u1 W)=>zKP (p:=r) (q:=p) h0 h1 oO hm0 (hT.below (s.up hb))))<|oc (zI zE zVg (fun u0 u1 W hb (h0:(fPN ((q).1 - (p).1,(q).2 - (p).2)).p u0 W) (h1:(fPN ((r).1 - (p).1,(r).2 - (p).2)).p u1 W)=>zNA (m:=(2*m+1)) (p:=((q).1 - (p).1,(q).2 - (p).2)) (q:=((r).1 - (p).1,(r).2 - (p).2)) (zAz (p:=((q).1 - (p).1,(q).2 - (p).2)) (m:=(2*m+1)) ((QP.sub hq.2.1 hq.1).1.mono (by first|omega|decide)) ((QP.sub hq.2.1 hq.1).2.mono (by first|omega|decide)) h0) (zAz (p:=((r).1 - (p).1,(r).2 - (p).2)) (m:=(2*m+1)) ((QP.sub hq.2.2 hq.1).1.mono (by first|omega|decide)) ((QP.sub hq.2.2 hq.1).2.mono (by first|omega|decide)) h1) (QP.sub hq.2.1 hq.1) (QP.sub hq.2.2 hq.1) oO oO (hT.below (s.up hb))))<|oc (zH zE zVh (fun u0 W hb (h0:QNp (((q).1 - (p).1,(q).2 - (p).2).1*((r).1 - (p).1,(r).2 - (p).2).2 - ((q).1 - (p).1,(q).2 - (p).2).2*((r).1 - (p).1,(r).2 - (p).2).1) u0 W)=>zRl (wK h0 (QB.mono (((QP.sub hq.2.1 hq.1).1.mul (QP.sub hq.2.2 hq.1).2).sub ((QP.sub hq.2.1 hq.1).2.mul (QP.sub hq.2.2 hq.1).1)) (m':=8*m+5) oO)) oO oO (hT.below (s.up hb))))<|oc zG<|zD) fun a w2 s=> ?_
 refine zA rfl ?_
 refine zXh ?_
 exact wG s (t:=2) rfl iiz
theorem zQ3 {p q:V2} {u x:Wj} (h1:(fPV m p).p u W) (h2:(fPV m q).p v W) (h3:(fPV m r).p x W) (hm:m<=159) (hm0:0<m) (hT:Tab W):Calls prog 32 #[u,v,x] W (Ret W (fI (yQ p q r)).tS):=by
 refine z7 [(fPV m p).tS,(fPV m q).tS,(fPV m r).tS] func32 rfl kH ⟨h1,h2,h3,trivial⟩ fun a s=> ?_
 replace s:=s.renew [(0,.u (fPV m p)),(1,.u (fPV m q)),(2,.u (fPV m r))] (fmz ⟨.inr ⟨_,rfl,.head _⟩,fmz ⟨.inr ⟨_,rfl,mz1⟩,fmz ⟨.inr ⟨_,rfl,mz2⟩,fnz⟩⟩⟩)
 refine zXg ?_
 refine zB 0 [] hmix s kH
  zD fun a w1 s=> ?_
 refine yG (wC (fPV m p)) rfl s kH (fun v W h=>yO h) fun b3 a w s=> ?_
 refine yG (wC (fPV m q)) rfl s kH (fun v W h=>yO h) fun b4 a w s=> ?_
 refine yG (wC (fPV m r)) rfl s kH (fun v W h=>yO h) fun b5 a w s=> ?_
 refine yP (uI 0) rfl s kH iiz fun a w s=> ?_
 refine zA rfl ?_
 refine zXg ?_
 replace s:=s.drop [6]
 refine zB 6 ((7,.Z (fPV m p))::(8,.Z (fPV m q))::(9,.Z (fPV m r))::(10,.Z (fTG (fPV m p) (fPV m q) (fPV m r)))::(11,.Z (uI (yQ p q r)))::(6,.u (uI (yQ p q r))):: []) hmix s kH
  (oc (zJ (f:=fPV m p) 6 kH (hz:=zO _ _))<|oc (zJ (f:=fPV m q) 6 kH (hz:=zO _ _))<|oc (zJ (f:=fPV m r) 6 kH (hz:=zO _ _))<|oc (zBY (fun u v z W (hu:(fPV m p).p u W) (hv:(fPV m q).p v W) (hz:(fPV m r).p z W)=>zWJ hu hv hz))<|oc (zH zE zVv (fun u0 W hb (h0:(fTG (fPV m p) (fPV m q) (fPV m r)).p u0 W)=>zQY h0 hm hm0 (hT.below (s.up hb))))<|oc zG<|zD) fun a w2 s=> ?_
 refine zA rfl ?_
 refine zXh ?_
 exact wG s (t:=6) rfl iiz
theorem zUf {b p:V2} (ha:QB a.1 m/\QB a.2 m) (hb:QB b.1 m/\QB b.2 m) (hp:QB p.1 M/\QB p.2 M):QB (crs a b p) ((2*m+1+(M+m+1))+(2*m+1+(M+m+1))+1):=
 ((((hb.1.sub ha.1).mul (hp.2.sub ha.2)).sub ((hb.2.sub ha.2).mul (hp.1.sub ha.1))).mono oO)
theorem zA9 {p q:V2} (hp:QB p.1 M/\QB p.2 M) (hq:QB q.1 m/\QB q.2 m):QB (p.1 - q.1) (M+m+1)/\QB (p.2 - q.2) (M+m+1):=⟨hp.1.sub hq.1,hp.2.sub hq.2⟩
theorem zKa {u:Wj} {p q:V2} (h1:(fPV M p).p u W) (h2:(fPV M q).p v W) (hp:QB p.1 m/\QB p.2 m) (hq:QB q.1 M/\QB q.2 M) (hmM:m<=M) (hm0:0<m) (hM:m+M<=990):Calls prog 82 #[u,v] W (Ret W (fQN (p.1*q.2 - p.2*q.1)).tS):=by
 refine z7 [(fPV M p).tS,(fPV M q).tS] func82 rfl kH ⟨h1,h2,trivial⟩ fun a s=> ?_
 refine zXg ?_
 refine zB 0 [] hmix s kH
  zD fun a w1 s=> ?_
 refine yG (wC (fPV M p)) rfl s kH (fun v W h=>yO h) fun b2 a w s=> ?_
 refine yG (wC (fPV M q)) rfl s kH (fun v W h=>yO h) fun b3 a w s=> ?_
 refine zZ (CU.len 3) (cs:=zR3) kH rfl s kH (fun W=>rfl) rfl fun b4 a w s=> ?_
 refine zA rfl ?_
 refine zXg ?_
 refine z9 [] 13 ((5,.X (fPV M p) 0)::(6,.Z (fRV M ((p).1)))::(7,.X (fPV M q) 3)::(8,.Z (fRV M ((q).2)))::(9,.s (wD 3 (rvs M [(p).1,(q).2])))::(10,.Z (fQN ((p).1*(q).2)))::(11,.X (fPV M p) 3)::(12,.Z (fRV M ((p).2)))::(13,.X (fPV M q) 0)::(14,.Z (fRV M ((q).1)))::(15,.s (wD 3 (rvs M [(p).2,(q).1])))::(16,.Z (fQN ((p).2*(q).1)))::(17,.u (fQN (((p).1*(q).2) - ((p).2*(q).1)))):: []) hmix s kH
  (oc (zL (C:=cg (fPV M p)) 0 kH)<|oc (zT (C:=cg (fPV M p)) (k:=0) 3 kH (h:=zC6))<|oc (zL (C:=cg (fPV M q)) 3 kH)<|oc (zT (C:=cg (fPV M q)) (k:=3) 3 kH (h:=zCj))<|oc (yI (fun u v W (hu:RVp M ((p).1) u W) (hv:RVp M ((q).2) v W)=>zBW hu hv))<|oc (zH zE zHN (fun u0 W hb (h0:(wD 3 (rvs M [(p).1,(q).2])).p u0 W)=>zBJ h0 (hp.1.mono hmM) hq.2 oO))<|oc (zL (C:=cg (fPV M p)) 3 kH)<|oc (zT (C:=cg (fPV M p)) (k:=3) 3 kH (h:=zCj))<|oc (zL (C:=cg (fPV M q)) 0 kH)<|oc (zT (C:=cg (fPV M q)) (k:=0) 3 kH (h:=zC6))<|oc (yI (fun u v W (hu:RVp M ((p).2) u W) (hv:RVp M ((q).1) v W)=>zBW hu hv))<|oc (zH zE zHN (fun u0 W hb (h0:(wD 3 (rvs M [(p).2,(q).1])).p u0 W)=>zBJ h0 (hp.2.mono hmM) hq.1 oO))<|oc (zI zE zPe (fun u0 u1 W hb (h0:QNp ((p).1*(q).2) u0 W) (h1:QNp ((p).2*(q).1) u1 W)=>zGi (wK h0 (hp.1.mul hq.2)) (wK h1 (hp.2.mul hq.1)) oO oO))<|zD) fun Q' hQ a w2 s=> ?_
 refine zS (wC (fQN (((p).1*(q).2) - ((p).2*(q).1)))) ((fQN (((p).1*(q).2) - ((p).2*(q).1))).tS) rfl s kH rfl rfl rfl iiz iiz yN fun a w s=> ?_
 refine zA rfl (hQ _ _ ?_)
 refine zXh ?_
 exact wH s (wC (fQN (p.1*q.2 - p.2*q.1))) rfl kH rfl rfl (jC _) (fun cs W h=>h)
theorem QB.inv {q:Rat} (h:QB q m):QB q⁻¹ m:=by
 by_cases e:q=0
 ·subst e
  rw [Rat.inv_zero];exact h
 ·have hn:q.num≠0:=fun h0=>e (zX4.1 h0)
  refine vC h.pos (X:=(q.den:Int)) (D:=q.num) ?_ hn (q7 h.2) h.1
  have h1:(q.num:Rat)=q*((q.den:Nat):Rat):=zFg q
  rw [h1, <-Rat.mul_assoc,Rat.inv_mul_cancel q e,zXJ]
  rfl
theorem QB.div {p q:Rat} (h:QB p m) (h':QB q n):QB (p / q) (m+n):=by
 rw [Rat.div_def]
 exact h.mul h'.inv
def zII (p q:V2):Rat:=p.1*q.1+p.2*q.2
def onS (a b p:V2):Bool:=if ((crs a b p).num.sign !=0)=true then false else decide ((zII (p.1 - a.1,p.2 - a.2) (p.1 - b.1,p.2 - b.2)).num.sign<=0)
theorem zU2 {b p:V2} (h:((crs a b p).num.sign !=0)=true):onS a b p=false:=if_pos h
theorem zU3 {b p:V2} (h:((crs a b p).num.sign !=0)=false):onS a b p=decide ((zII (p.1 - a.1,p.2 - a.2) (p.1 - b.1,p.2 - b.2)).num.sign<=0):=if_neg (by rw [h];decide)
def zJ1 (f:Nat->Bool) (N:Nat):Nat:=match (List.range N).find? (fun k=> !(f k)) with|some k=>k|none=>N
theorem zKW {f:Nat->Bool} (h: ∀j,j<N->f j=true):zJ1 f N=N:=by
 unfold zJ1
 rw [List.find?_eq_none.2 (fun x hx=>by rw [h x (zX7.1 hx)];simp)]
theorem zNL {f:Nat->Bool} (hk:k<N) (h: ∀j,j<k->f j=true) (e:f k=false):zJ1 f N=k:=by
 unfold zJ1
 have:(List.range N).find? (fun k=> !(f k))=some k:=by
  rw [List.find?_range_eq_some]
  exact ⟨by rw [e];rfl,zX7.2 hk,fun j hj=>by rw [h j hj];rfl⟩
 rw [this]
def zNr (L:List V2) (p:V2):Nat:=zJ1 (fun k=>decide (jI (at_ L k) p<0)) L.length
def zGn (L:List V2) (p:V2):List V2:=if (decide (zNr L p<L.length)&&(jI (at_ L (zNr L p)) p==0))=true then L else L.take (zNr L p)++ [p]++L.drop (zNr L p)
theorem zTg {p:V2} (hk:zNr L p=k) (h:(decide ((k:Int)<((pns L).length:Int))&&(jI (at_ L k) p==0))=true):zGn L p=L:=by
 unfold zGn
 rw [hk]
 refine if_pos ?_
 rw [zXD] at h ⊢
 exact ⟨zXw (by have:=zXk h.1;simp at this;omega),h.2⟩
theorem zTh {p:V2} (hk:zNr L p=k) (h:(decide ((k:Int)<((pns L).length:Int))&&(jI (at_ L k) p==0))=false):zGn L p=L.take k++ [p]++L.drop k:=by
 unfold zGn
 rw [hk]
 refine if_neg fun h'=> ?_
 rw [zXD] at h'
 rw [zX1] at h
 rcases h with h|h
 ·have:=zXu h
  have:=zXk h'.1
  simp at*
  omega
 ·rw [h] at h';exact absurd h'.2 dA
theorem zRG (L:List V2) (p:V2):zNr L p<=L.length:=by
 unfold zNr zJ1
 split
 ·rename_i k h
  have:=zX7.1 (List.mem_of_find?_eq_some h)
  omega
 ·exact zXm _
theorem zOo (L:List V2) (p:V2):(zGn L p).length<=L.length+1:=by
 unfold zGn
 split
 ·omega
 ·have:=zRG L p
  simp
  omega
theorem zOn {p x:V2} (h:x∈zGn L p):x=p∨x∈L:=by
 unfold zGn at h
 split at h
 ·exact .inr h
 ·rw [zXF,zXF,List.mem_singleton] at h
  rcases h with (h|h)|h
  ·exact .inr (List.mem_of_mem_take h)
  ·exact .inl h
  ·exact .inr (List.mem_of_mem_drop h)
def yR (a b c d:V2):Nat->List V2
 |0=> []
 |i+1=>if (onS a b (at_ [a,b,c,d] i)&&onS c d (at_ [a,b,c,d] i))=true then zGn (yR a b c d i) (at_ [a,b,c,d] i) else yR a b c d i
theorem zSa {b c d:V2} (h:(onS a b (at_ [a,b,c,d] i)&&onS c d (at_ [a,b,c,d] i))=true):yR a b c d (i+1)=zGn (yR a b c d i) (at_ [a,b,c,d] i):=if_pos h
theorem zSb {b c d:V2} (h:(onS a b (at_ [a,b,c,d] i)&&onS c d (at_ [a,b,c,d] i))=false):yR a b c d (i+1)=yR a b c d i:=if_neg (by rw [h];decide)
theorem zFo (a b c d:V2): ∀i,(yR a b c d i).length<=i
 |0=>zXm _
 | i+1=>by
  have ih:=zFo a b c d i
  show (if _ then _ else _:List V2).length<=_
  split
  ·have:=zOo (yR a b c d i) (at_ [a,b,c,d] i)
   omega
  ·omega
theorem zJG {m:Nat} {a b c d:V2} (h: ∀p,p∈ [a,b,c,d]->QB p.1 m/\QB p.2 m): ∀i,i<=4-> ∀p,p∈yR a b c d i->QB p.1 m/\QB p.2 m
 |0,_,p,hp=>absurd hp List.not_mem_nil
 | i+1,hi,p,hp=>by
  have ih:=zJG h i oO
  have hp':p∈(if (onS a b (at_ [a,b,c,d] i)&&onS c d (at_ [a,b,c,d] i))=true then zGn (yR a b c d i) (at_ [a,b,c,d] i) else yR a b c d i):=hp
  split at hp'
  ·rcases zOn hp' with e|e
   ·rw [e];exact h _ (zBC (by simp;omega))
   ·exact ih p e
  ·exact ih p hp'
def fRW (W0:Wi) (z:Nat) (Cs:List CU):UF:=⟨⟨fun v _=>(wD z Cs).p v W0,fun _ _ _ h _=>h⟩,fun _ _ _ h _=>h⟩
section
variable {F:Fence} {m:Nat} {P:Wn} {w0:Wi} {ops:Array Oper} {G:Nat->SF} {d:Tmp} {ty:Wk} {pos:String} {aft:Array Edge}
theorem zDa (hu:P.underlying t=some (.slice e')) (hie:P.info? e'=some ie) (hsz:ie.size=z) (A:Wl Addr) (n c k:Nat) (hk:k<=n) (w:Wi):(Instr.sliceAt t (.slice A n c) (some (.int .i64 (k:Int))) none none).run P w= .ok (.slice (if c=k then A else A.map (·.add (k*z))) (n - k) (c - k)) w:=by
 simp [Instr.sliceAt,Instr.slice,Instr.sliceBounds,run_underlying hu,sizeOf,typeInfo,hie,hsz,go_sem,hk]
theorem zG7 (hu:P.underlying t=some (.slice e')) (hie:P.info? e'=some ie) (A:Wl Addr) (n c k:Nat) (hk:k<=c) (w:Wi):(Instr.sliceAt t (.slice A n c) none (some (.int .i64 (k:Int))) none).run P w= .ok (.slice A k c) w:=by
 simp [Instr.sliceAt,Instr.slice,Instr.sliceBounds,run_underlying hu,sizeOf,typeInfo,hie,go_sem,hk]
theorem zSv (hz:jJ P t=some z) (hk:k<=Cs.length) (hx: ∀v W,bW w0 W->(fct G x).p v W->(wD z Cs).p v W) (hh: ∀v W,(fct G lo).p v W->v= .int .i64 (k:Int)) (hd: ∀v W,(wD z (Cs.drop k)).p v W->(G d).p v W:=by exact fun _ _ h=>h):qK F m P w0 ops G ⟨some d,.slice t x (some lo) none none,ty,pos,aft,none⟩:=
 qJ (fun _ e=>by cases e) (fun _ e=>by cases e) fun b W hb hp=>by
  obtain ⟨A,c,e,h2,h3,h4,h5⟩:=hx _ _ hb (hp x (by simp [Op.operands]))
  have e2:=hh _ _ (hp lo (by simp [Op.operands]))
  unfold jJ at hz
  split at hz<;>try cases hz
  rename_i e' hu
  obtain ⟨ie,hie,hsz⟩:=zXP.1 hz
  refine ⟨.slice (if c=k then A else A.map (·.add (k*z))) (Cs.length - k) (c - k),by simp [execOp,e,e2,zDa hu hie hsz A Cs.length c k hk],hd _ _ ⟨_,c - k,by rw [zXQ],by rw [zXQ];omega,by omega,fun hA=> ?_,fun i C hi=> ?_⟩⟩
  ·split at hA
   ·omega
   ·cases A with
    |none=>have:=h4 rfl;omega
    |some q=>cases hA
  ·rw [List.getElem?_drop] at hi
   have hlt:=(zXi.1 hi).1
   obtain ⟨b',o,cs,rfl,h6,h7⟩:=h5 _ C hi
   rw [if_neg oO]
   refine ⟨b',o+k*z,cs,by simp [Addr.add_lit], ?_,h7⟩
   rwa [show o+(k+i)*z=o+k*z+i*z by rw [Nat.add_mul];omega] at h6
theorem zOz {hi:Wm} (hz:jJ P t=some z) (hk:k<=Cs.length) (hx: ∀v W,bW w0 W->(fct G x).p v W->(wD z Cs).p v W) (hh: ∀v W,(fct G hi).p v W->v= .int .i64 (k:Int)) (hd: ∀v W,(wD z (Cs.take k)).p v W->(G d).p v W:=by exact fun _ _ h=>h):qK F m P w0 ops G ⟨some d,.slice t x none (some hi) none,ty,pos,aft,none⟩:=
 qJ (fun _ e=>by cases e) (fun _ e=>by cases e) fun b W hb hp=>by
  obtain ⟨A,c,e,h2,h3,h4,h5⟩:=hx _ _ hb (hp x (by simp [Op.operands]))
  have e2:=hh _ _ (hp hi (by simp [Op.operands]))
  unfold jJ at hz
  split at hz<;>try cases hz
  rename_i e' hu
  obtain ⟨ie,hie,hsz⟩:=zXP.1 hz
  have hkc:k<=c:=zXp hk h2
  refine ⟨.slice A k c,by simp [execOp,e,e2,zG7 hu hie A Cs.length c k hkc],hd _ _ ⟨A,c,by rw [List.length_take,Nat.min_eq_left hk],by rw [List.length_take];omega,h3,h4,fun i C hi=> ?_⟩⟩
  rw [List.getElem?_take] at hi
  split at hi
  ·exact h5 i C hi
  ·cases hi
theorem zIs (hz:jJ P t=some z) (hk:k<=Cs.length) (hl:(wD z Cs).p l0 W0) (hx: ∀v W,(fct G x).p v W->v=l0) (hh: ∀v W,(fct G lo).p v W->v= .int .i64 (k:Int)) (hd: ∀v W,(wD z (Cs.drop k)).p v W0->(G d).p v W):qK F m P w0 ops G ⟨some d,.slice t x (some lo) none none,ty,pos,aft,none⟩:=
 qJ (fun _ e=>by cases e) (fun _ e=>by cases e) fun b W hb hp=>by
  have e0:=hx _ _ (hp x (by simp [Op.operands]))
  obtain ⟨A,c,e,h2,h3,h4,h5⟩:=hl
  have e2:=hh _ _ (hp lo (by simp [Op.operands]))
  rw [e] at e0
  unfold jJ at hz
  split at hz<;>try cases hz
  rename_i e' hu
  obtain ⟨ie,hie,hsz⟩:=zXP.1 hz
  refine ⟨.slice (if c=k then A else A.map (·.add (k*z))) (Cs.length - k) (c - k),by simp [execOp,e0,e2,zDa hu hie hsz A Cs.length c k hk],hd _ _ ⟨_,c - k,by rw [zXQ],by rw [zXQ];omega,by omega,fun hA=> ?_,fun i C hi=> ?_⟩⟩
  ·split at hA
   ·omega
   ·cases A with
    |none=>have:=h4 rfl;omega
    |some q=>cases hA
  ·rw [List.getElem?_drop] at hi
   have hlt:=(zXi.1 hi).1
   obtain ⟨b',o,cs,rfl,h6,h7⟩:=h5 _ C hi
   rw [if_neg oO]
   refine ⟨b',o+k*z,cs,by simp [Addr.add_lit], ?_,h7⟩
   rwa [show o+(k+i)*z=o+k*z+i*z by rw [Nat.add_mul];omega] at h6
end
theorem zIF {d:Tmp} (hz:jJ P t=some z) (hk:k<=Cs.length) (hl:(wD z Cs).p l0 W0) (hx: ∀v W,(fct G x).p v W->v=l0) (hh: ∀v W,(fct G lo).p v W->v= .int .i64 (k:Int)):zFy P w0 ops G ⟨some d,.slice t x (some lo) none none,ty,pos,aft,none⟩:=
 zFm (fun _ e=>by cases e) fun b W _ hp=>by
  have e0:=hx _ _ (hp x (by simp [Op.operands]))
  obtain ⟨A,c,e,h2,h3,h4,h5⟩:=hl
  have e2:=hh _ _ (hp lo (by simp [Op.operands]))
  rw [e] at e0
  unfold jJ at hz
  split at hz<;>try cases hz
  rename_i e' hu
  obtain ⟨ie,hie,hsz⟩:=zXP.1 hz
  exact ⟨.slice (if c=k then A else A.map (·.add (k*z))) (Cs.length - k) (c - k),fun W' _=>by simp [execOp,e0,e2,zDa hu hie hsz A Cs.length c k hk]⟩
section
variable {S:Nat->Prop} {F:Fence} {m:Nat} {P:Wn} {Q:Exit->Act->Wi->Prop} {w0:Wi} {K:List (Nat×KF)} {B:List Bx} {n:Nat} {ds:List Deferred} {a:Act} {w:Wi}
theorem zPG (f:UF) (ho:ops[k]?=some ⟨some d,.assign x,ty,pos,aft,none⟩) (h:StS S w0 K B n ds a w) (hf:zAc K B n d=true) (hx: ∀v W,(Wd.fct (jS K B) x).p v W->f.p v W)
  (fin: ∀a,StS S w0 ((d,.u f)::K) B n ds a w->zA7 F m P ops Q (k+1) a w):zA7 F m P ops Q k a w:=
 zAX ho rfl (zBL (fun _ e=>by cases e) (fun _ e=>by cases e) (W':=w) (v:=a.eval x) rfl (fin _ (h.set hf (zXl _ _) (hx _ _ (h.fct x)))))
end
theorem zOq (ps:List V2) (k:Nat):(pns ps).take k=pns (ps.take k):=by unfold pns;rw [List.map_take]
theorem zOr (ps:List V2) (k:Nat):(pns ps).drop k=pns (ps.drop k):=by unfold pns;rw [List.map_drop]
theorem zLQ (a b:List V2) (p:V2):pns a++pns [p]++pns b=pns (a++ [p]++b):=by simp [pns]
theorem zWm (a1 a2 a3 a4 a5 a6 b1 b2 b3 b4 b5 b6 c1 c2 c3 c4 c5 c6 d1 d2 d3 d4 d5 d6:Wj):z5 prog 22 4 [(0,.agg #[a1,a2,a3,a4,a5,a6]),(1,.agg #[b1,b2,b3,b4,b5,b6]),(2,.agg #[c1,c2,c3,c4,c5,c6]),(3,.agg #[d1,d2,d3,d4,d5,d6])]=some (30,#[a1,a2,a3,a4,a5,a6,b1,b2,b3,b4,b5,b6,c1,c2,c3,c4,c5,c6,d1,d2,d3,d4,d5,d6]):=by kernel_rfl
theorem zTz (h:cs.length=6): ∃u0 u1 u2 u3 u4 u5,cs= [u0,u1,u2,u3,u4,u5]:=by
 match cs,h with
 | [u0,u1,u2,u3,u4,u5],_=>exact ⟨u0,u1,u2,u3,u4,u5,rfl⟩
theorem zJj (h:(fPT f g).p v W): ∃u0 u1 u2 u3 u4 u5,v= .agg #[u0,u1,u2,u3,u4,u5]/\(wC (fPT f g)).p [u0,u1,u2,u3,u4,u5] W:=by
 obtain ⟨vs,rfl,hl,_,_,hc⟩:=yV v W h
 obtain ⟨u0,u1,u2,u3,u4,u5,rfl⟩:=zTz hl
 exact ⟨u0,u1,u2,u3,u4,u5,rfl,hc⟩
theorem zSQ {p q s:V2} {u x y:Wj} (hu:(fPV m p).p u W) (hv:(fPV m q).p v W) (hx:(fPV m r).p x W) (hy:(fPV m s).p y W): ∃e cs,z5 prog 22 4 [(0,u),(1,v),(2,x),(3,y)]=some (e,cs)/\(wD 6 (pvs m [p,q,r,s])).p (.slice (some ⟨W.heap.size,0,none⟩) 4 4) (W.alloc (.cells cs e)):=by
 obtain ⟨a1,a2,a3,a4,a5,a6,rfl,ha⟩:=zJj hu
 obtain ⟨b1,b2,b3,b4,b5,b6,rfl,hb⟩:=zJj hv
 obtain ⟨c1,c2,c3,c4,c5,c6,rfl,hc⟩:=zJj hx
 obtain ⟨d1,d2,d3,d4,d5,d6,rfl,hd⟩:=zJj hy
 refine ⟨_,_,zWm ..,zGd (Cs:=pvs m [p,q,r,s]) (cs:= [a1,a2,a3,a4,a5,a6,b1,b2,b3,b4,b5,b6,c1,c2,c3,c4,c5,c6,d1,d2,d3,d4,d5,d6]) fN fun i C hi=> ?_⟩
 have hlt:=(zXi.1 hi).1
 simp at hlt
 rcases (by omega:i=0∨i=1∨i=2∨i=3) with rfl|rfl|rfl|rfl
 ·obtain rfl:wC (fPV m p)=C:=by simpa using hi
  exact ⟨_,fun j u hj=>by have:=(zXi.1 hj).1;simp at this;rcases (by omega:j=0∨j=1∨j=2∨j=3∨j=4∨j=5) with rfl|rfl|rfl|rfl|rfl|rfl<;>simpa using hj,ha⟩
 ·obtain rfl:wC (fPV m q)=C:=by simpa using hi
  exact ⟨_,fun j u hj=>by have:=(zXi.1 hj).1;simp at this;rcases (by omega:j=0∨j=1∨j=2∨j=3∨j=4∨j=5) with rfl|rfl|rfl|rfl|rfl|rfl<;>simpa using hj,hb⟩
 ·obtain rfl:wC (fPV m r)=C:=by simpa using hi
  exact ⟨_,fun j u hj=>by have:=(zXi.1 hj).1;simp at this;rcases (by omega:j=0∨j=1∨j=2∨j=3∨j=4∨j=5) with rfl|rfl|rfl|rfl|rfl|rfl<;>simpa using hj,hc⟩
 ·obtain rfl:wC (fPV m s)=C:=by simpa using hi
  exact ⟨_,fun j u hj=>by have:=(zXi.1 hj).1;simp at this;rcases (by omega:j=0∨j=1∨j=2∨j=3∨j=4∨j=5) with rfl|rfl|rfl|rfl|rfl|rfl<;>simpa using hj,hd⟩
theorem zLZ {d:Tmp} {z q:Wm} (h: ∀u v r s W,(fct G x).p u W->(fct G y).p v W->(fct G z).p r W->(fct G q).p s W-> ∃e cs,z5 P t 4 [(0,u),(1,v),(2,r),(3,s)]=some (e,cs)/\(G d).p (.slice (some ⟨W.heap.size,0,none⟩) 4 4) (W.alloc (.cells cs e))):qK F m P w0 ops G ⟨some d,.buildSlice t 4 #[(0,x),(1,y),(2,z),(3,q)],ty,pos,aft,none⟩:=
 zDF fun b W hb hh=>by
  obtain ⟨e,cs,h1,h2⟩:=h _ _ _ _ W (hh x fN) (hh y fN) (hh z fN) (hh q fN)
  exact ⟨e,cs,by simpa using h1,h2⟩
theorem zRm {u:Wj} {p q:V2} (h1:(fPV M p).p u W) (h2:(fPV M q).p v W) (hp:QB p.1 M/\QB p.2 M) (hq:QB q.1 M/\QB q.2 M) (hM:M<=495):Calls prog 128 #[u,v] W (Ret W (fQN (zII p q)).tS):=by
 refine z7 [(fPV M p).tS,(fPV M q).tS] func128 rfl kH ⟨h1,h2,trivial⟩ fun a s=> ?_
 refine zXg ?_
 refine zB 0 [] hmix s kH
  zD fun a w1 s=> ?_
 refine yG (wC (fPV M p)) rfl s kH (fun v W h=>yO h) fun b2 a w s=> ?_
 refine yG (wC (fPV M q)) rfl s kH (fun v W h=>yO h) fun b3 a w s=> ?_
 refine zZ (CU.len 3) (cs:=zR3) kH rfl s kH (fun W=>rfl) rfl fun b4 a w s=> ?_
 refine zA rfl ?_
 refine zXg ?_
 refine z9 [] 14 ((5,.X (fPV M p) 0)::(6,.Z (fRV M ((p).1)))::(7,.X (fPV M q) 0)::(8,.Z (fRV M ((q).1)))::(9,.s (wD 3 (rvs M [(p).1,(q).1])))::(10,.Z (fQN ((p).1*(q).1)))::(11,.X (fPV M p) 3)::(12,.Z (fRV M ((p).2)))::(13,.X (fPV M q) 3)::(14,.Z (fRV M ((q).2)))::(15,.s (wD 3 (rvs M [(p).2,(q).2])))::(16,.Z (fQN ((p).2*(q).2)))::(17,.s (wD 3 (rvs (M+M) [((p).1*(q).1),((p).2*(q).2)])))::(18,.u (fQN (((p).1*(q).1)+((p).2*(q).2)))):: []) hmix s kH
  (oc (zL (C:=cg (fPV M p)) 0 kH)<|oc (zT (C:=cg (fPV M p)) (k:=0) 3 kH (h:=zC6))<|oc (zL (C:=cg (fPV M q)) 0 kH)<|oc (zT (C:=cg (fPV M q)) (k:=0) 3 kH (h:=zC6))<|oc (yI (fun u v W (hu:RVp M ((p).1) u W) (hv:RVp M ((q).1) v W)=>zBW hu hv))<|oc (zH zE zHN (fun u0 W hb (h0:(wD 3 (rvs M [(p).1,(q).1])).p u0 W)=>zBJ h0 hp.1 hq.1 oO))<|oc (zL (C:=cg (fPV M p)) 3 kH)<|oc (zT (C:=cg (fPV M p)) (k:=3) 3 kH (h:=zCj))<|oc (zL (C:=cg (fPV M q)) 3 kH)<|oc (zT (C:=cg (fPV M q)) (k:=3) 3 kH (h:=zCj))<|oc (yI (fun u v W (hu:RVp M ((p).2) u W) (hv:RVp M ((q).2) v W)=>zBW hu hv))<|oc (zH zE zHN (fun u0 W hb (h0:(wD 3 (rvs M [(p).2,(q).2])).p u0 W)=>zBJ h0 hp.2 hq.2 oO))<|oc (yI (fun u v W (hu:QNp ((p).1*(q).1) u W) (hv:QNp ((p).2*(q).2) v W)=>zBW (wK hu (hp.1.mul hq.1)) (wK hv (hp.2.mul hq.2))))<|oc (zH zE zMV (fun u0 W hb (h0:(wD 3 (rvs (M+M) [((p).1*(q).1),((p).2*(q).2)])).p u0 W)=>zDz h0 (hp.1.mul hq.1) (hp.2.mul hq.2) oO))<|zD) fun Q' hQ a w2 s=> ?_
 refine zS (wC (fQN (((p).1*(q).1)+((p).2*(q).2)))) ((fQN (((p).1*(q).1)+((p).2*(q).2))).tS) rfl s kH rfl rfl rfl iiz iiz yN fun a w s=> ?_
 refine zA rfl (hQ _ _ ?_)
 refine zXh ?_
 exact wH s (wC (fQN (p.1*q.1+p.2*q.2))) rfl kH rfl rfl (jC _) (fun cs W h=>h)
theorem zCP {u:Wj} {p q:V2} (h1:(fPV m p).p u W) (h2:(fPV m q).p v W) (hm:m<=990) (hm0:0<m):Calls prog 24 #[u,v] W (Ret W (fB (jI p q==0)).tS):=by
 refine z7 [(fPV m p).tS,(fPV m q).tS] func24 rfl kH ⟨h1,h2,trivial⟩ fun a s=> ?_
 refine zXg ?_
 refine zB 0 [] hmix s kH
  zD fun a w1 s=> ?_
 refine yG (wC (fPV m p)) rfl s kH (fun v W h=>yO h) fun b2 a w s=> ?_
 refine yG (wC (fPV m q)) rfl s kH (fun v W h=>yO h) fun b3 a w s=> ?_
 refine yP (uB false) rfl s kH iiz fun a w s=> ?_
 refine zA rfl ?_
 refine zXg ?_
 replace s:=s.drop [4]
 refine zB 5 ((5,.Z (fPV m p))::(6,.Z (fPV m q))::(7,.Z (uI (jI p q)))::(8,.Z (uB (jI p q==0)))::(4,.u (uB (jI p q==0))):: []) hmix s kH
  (oc (zJ (f:=fPV m p) 6 kH (hz:=zO _ _))<|oc (zJ (f:=fPV m q) 6 kH (hz:=zO _ _))<|oc (zI zE zTU (fun u0 u1 W hb (h0:(fPV m p).p u0 W) (h1:(fPV m q).p u1 W)=>zLq h0 h1 hm hm0))<|oc (zR .i64 (jI p q) 0 (jI p q==0) iiz iiz rfl rfl)<|oc zG<|zD) fun a w2 s=> ?_
 refine zA rfl ?_
 refine zXh ?_
 exact wG s (t:=4) rfl iiz
theorem zGk {u x:Wj} {ca cb p:V2} (h1:(fPV m ca).p u W) (h2:(fPV m cb).p v W) (h3:(fPV M p).p x W) (hmM:m<=M) (hm0:0<m) (hM:M+m+1<=495) (hM2:3*m+M+2<=990):Calls prog 107 #[u,v,x] W (Ret W (fB (onS ca cb p)).tS):=by
 have hqa:=zB6 hm0 h1
 have hqb:=zB6 hm0 h2
 have hqp:=zB6 oO h3
 refine z7 [(fPV m ca).tS,(fPV m cb).tS,(fPV M p).tS] func107 rfl kH ⟨h1,h2,h3,trivial⟩ fun a s=> ?_
 refine zXg ?_
 refine zB 0 [] hmix s kH
  zD fun a w1 s=> ?_
 refine yG (wC (fPV m ca)) rfl s kH (fun v W h=>yO h) fun b3 a w s=> ?_
 refine yG (wC (fPV m cb)) rfl s kH (fun v W h=>yO h) fun b4 a w s=> ?_
 refine yG (wC (fPV M p)) rfl s kH (fun v W h=>yO h) fun b5 a w s=> ?_
 refine yP (uB false) rfl s kH iiz fun a w s=> ?_
 refine zA rfl ?_
 refine zXg ?_
 refine zXg ?_
 refine zB 9 ((7,.Z (fPV m cb))::(8,.Z (fPV m ca))::(9,.Z (fPN ((cb).1 - (ca).1,(cb).2 - (ca).2)))::(10,.Z (fPV M p))::(11,.Z (fPV m ca))::(12,.Z (fPN ((p).1 - (ca).1,(p).2 - (ca).2)))::(13,.Z (fQN (crs ca cb p)))::(14,.Z (uI ((crs ca cb p).num.sign)))::(15,.u (uB ((crs ca cb p).num.sign !=0))):: []) hmix s kH
  (oc (zJ (f:=fPV m cb) 6 kH (hz:=zO _ _))<|oc (zJ (f:=fPV m ca) 6 kH (hz:=zO _ _))<|oc (zI zE zFE (fun u0 u1 W hb (h0:(fPV m cb).p u0 W) (h1:(fPV m ca).p u1 W)=>zBQ (m:=m) (p:=cb) (q:=ca) h0 h1 oO hm0))<|oc (zJ (f:=fPV M p) 6 kH (hz:=zO _ _))<|oc (zJ (f:=fPV m ca) 6 kH (hz:=zO _ _))<|oc (zI zE zFE (fun u0 u1 W hb (h0:(fPV M p).p u0 W) (h1:(fPV m ca).p u1 W)=>zBQ (m:=M) (p:=p) (q:=ca) h0 (zE8 oO h1) oO oO))<|oc (zI zE zPb (fun u0 u1 W hb (h0:(fPN ((cb).1 - (ca).1,(cb).2 - (ca).2)).p u0 W) (h1:(fPN ((p).1 - (ca).1,(p).2 - (ca).2)).p u1 W)=>zKa (m:=2*m+1) (M:=M+m+1) (p:=((cb).1 - (ca).1,(cb).2 - (ca).2)) (q:=((p).1 - (ca).1,(p).2 - (ca).2)) (zAz (p:=((cb).1 - (ca).1,(cb).2 - (ca).2)) (m:=(M+m+1)) ((zA8 hqb hqa).1.mono (by first|omega|decide)) ((zA8 hqb hqa).2.mono (by first|omega|decide)) h0) (zAz (p:=((p).1 - (ca).1,(p).2 - (ca).2)) (m:=(M+m+1)) ((zA9 hqp hqa).1.mono (by first|omega|decide)) ((zA9 hqp hqa).2.mono (by first|omega|decide)) h1) (zA8 hqb hqa) (zA9 hqp hqa) oO oO oO))<|oc (zH zE zPi (fun u0 W hb (h0:QNp (crs ca cb p) u0 W)=>zEE (m:=((2*m+1+(M+m+1))+(2*m+1+(M+m+1))+1)) (wK h0 (zUf hqa hqb hqp)) oO))<|oc (zR .i64 ((crs ca cb p).num.sign) 0 ((crs ca cb p).num.sign !=0) iiz iiz rfl rfl)<|zD) fun a w2 s=> ?_
 refine zA rfl ?_
 refine StS.cond s ((crs ca cb p).num.sign !=0) iiz (fun e=> ?_) (fun e=> ?_)
 ·refine zXg ?_
  replace s:=s.drop [6]
  refine zB 1 ((6,.u (uB false)):: []) hmix s kH
   (oc zG<|zD) fun a w3 s=> ?_
  refine zA rfl ?_
  refine zXh ?_
  exact wG s (t:=6) rfl (fun v W h=>by rw [zU2 e];exact h)
 ·refine zXo ?_
  refine zXg ?_
  replace s:=s.drop [6]
  refine zB 10 ((16,.Z (fPV M p))::(17,.Z (fPV m ca))::(18,.Z (fPN ((p).1 - (ca).1,(p).2 - (ca).2)))::(19,.Z (fPV M p))::(20,.Z (fPV m cb))::(21,.Z (fPN ((p).1 - (cb).1,(p).2 - (cb).2)))::(22,.Z (fQN (zII ((p).1 - (ca).1,(p).2 - (ca).2) ((p).1 - (cb).1,(p).2 - (cb).2))))::(23,.Z (uI ((zII ((p).1 - (ca).1,(p).2 - (ca).2) ((p).1 - (cb).1,(p).2 - (cb).2)).num.sign)))::(24,.Z (uB (decide ((zII ((p).1 - (ca).1,(p).2 - (ca).2) ((p).1 - (cb).1,(p).2 - (cb).2)).num.sign<=0))))::(6,.u (uB (decide ((zII ((p).1 - (ca).1,(p).2 - (ca).2) ((p).1 - (cb).1,(p).2 - (cb).2)).num.sign<=0)))):: []) hmix s kH
   (oc (zJ (f:=fPV M p) 6 kH (hz:=zO _ _))<|oc (zJ (f:=fPV m ca) 6 kH (hz:=zO _ _))<|oc (zI zE zFE (fun u0 u1 W hb (h0:(fPV M p).p u0 W) (h1:(fPV m ca).p u1 W)=>zBQ (m:=M) (p:=p) (q:=ca) h0 (zE8 oO h1) oO oO))<|oc (zJ (f:=fPV M p) 6 kH (hz:=zO _ _))<|oc (zJ (f:=fPV m cb) 6 kH (hz:=zO _ _))<|oc (zI zE zFE (fun u0 u1 W hb (h0:(fPV M p).p u0 W) (h1:(fPV m cb).p u1 W)=>zBQ (m:=M) (p:=p) (q:=cb) h0 (zE8 oO h1) oO oO))<|oc (zI zE zT5 (fun u0 u1 W hb (h0:(fPN ((p).1 - (ca).1,(p).2 - (ca).2)).p u0 W) (h1:(fPN ((p).1 - (cb).1,(p).2 - (cb).2)).p u1 W)=>zRm (M:=M+m+1) (p:=((p).1 - (ca).1,(p).2 - (ca).2)) (q:=((p).1 - (cb).1,(p).2 - (cb).2)) (zAz (p:=((p).1 - (ca).1,(p).2 - (ca).2)) (m:=(M+m+1)) ((zA9 hqp hqa).1.mono (by first|omega|decide)) ((zA9 hqp hqa).2.mono (by first|omega|decide)) h0) (zAz (p:=((p).1 - (cb).1,(p).2 - (cb).2)) (m:=(M+m+1)) ((zA9 hqp hqb).1.mono (by first|omega|decide)) ((zA9 hqp hqb).2.mono (by first|omega|decide)) h1) (zA9 hqp hqa) (zA9 hqp hqb) oO))<|oc (zH zE zPi (fun u0 W hb (h0:QNp (zII ((p).1 - (ca).1,(p).2 - (ca).2) ((p).1 - (cb).1,(p).2 - (cb).2)) u0 W)=>zEE (m:=((M+m+1)+(M+m+1)+((M+m+1)+(M+m+1))+1)) (wK h0 (((zA9 hqp hqa).1.mul (zA9 hqp hqb).1).add ((zA9 hqp hqa).2.mul (zA9 hqp hqb).2))) oO))<|oc (zR .i64 ((zII ((p).1 - (ca).1,(p).2 - (ca).2) ((p).1 - (cb).1,(p).2 - (cb).2)).num.sign) 0 (decide ((zII ((p).1 - (ca).1,(p).2 - (ca).2) ((p).1 - (cb).1,(p).2 - (cb).2)).num.sign<=0)) iiz iiz rfl rfl)<|oc zG<|zD) fun a w4 s=> ?_
  refine zA rfl ?_
  refine zXh ?_
  exact wG s (t:=6) rfl (fun v W h=>by rw [zU3 e];exact h)
theorem zOf {u:Wj} {p:V2} (hl:(wD 6 (pns L)).p l W) (h1:(fPV m p).p u W) (hqL: ∀x,x∈L->QB x.1 m/\QB x.2 m) (hm:m<=990) (hm0:0<m) (hn:L.length<=1000000):Calls prog 127 #[l,u] W (Ret W (wD 6 (pns (zGn L p)))):=by
 refine z7 [(wB l).tS,(fPV m p).tS] func127 rfl kH ⟨rfl,h1,trivial⟩ fun a s=> ?_
 replace s:=s.renew [(0,.u (wB l)),(1,.u (fPV m p))] (fmz ⟨.inr ⟨_,rfl,.head _⟩,fmz ⟨.inr ⟨_,rfl,mz1⟩,fnz⟩⟩)
 refine zXg ?_
 refine zB 0 [] hmix s kH
  zD fun a w1 s=> ?_
 refine yG (wC (fPV m p)) rfl s kH (fun v W h=>yO h) fun b3 a w s=> ?_
 refine yP (wB (sN)) rfl s kH iiz fun a w s=> ?_
 refine zA rfl ?_
 refine zXg ?_
 refine zB 1 ((5,.u (uI 0)):: []) hmix s kH
  (oc zG<|zD) fun a w2 s=> ?_
 refine zA rfl ?_
 refine zXg ?_
 refine zXs ?_
 refine zAZ (fun k=>k<=L.length/\ ∀j,j<k->decide (jI (at_ L j) p<0)=true) (fun k=> [(0,.u (wB l)),(5,.u (uI ((k:Nat):Int)))]) (fun k=>L.length - k) (0:Nat) (⟨zXn _,fun j hj=>absurd hj (Nat.not_lt_zero _)⟩) (s.keepK _ (fmz ⟨mz2,fmz ⟨.head _,fnz⟩⟩)) fun k a w hx s=> ?_
 refine zXg ?_
 refine zXg ?_
 refine zB 13 ((7,.Z (uI (k:Int)))::(8,.Z (wB l))::(9,.Z (uI ((pns L).length:Int)))::(10,.Z (uB (ltz k ((pns L).length))))::(11,.Z (uB (ltz k ((pns L).length))))::(12,.s (SF.imp ((ltz k ((pns L).length))=true) ((wB l).tS)))::(13,.s (SF.imp ((ltz k ((pns L).length))=true) ((uI (k:Int)).tS)))::(14,.s (SF.imp ((ltz k ((pns L).length))=true) (wE (cg (fPN (at_ L k))))))::(15,.s (SF.imp ((ltz k ((pns L).length))=true) ((fPN (at_ L k)).tS)))::(16,.s (SF.imp ((ltz k ((pns L).length))=true) ((fPV m p).tS)))::(17,.s (SF.imp ((ltz k ((pns L).length))=true) ((uI (jI (at_ L k) p)).tS)))::(18,.s (SF.imp ((ltz k ((pns L).length))=true) ((uB (decide (jI (at_ L k) p<0))).tS)))::(19,.u (uB ((ltz k ((pns L).length))&&(decide (jI (at_ L k) p<0))))):: []) hmix s kH
  (oc zC<|oc zC<|oc (yW (z:=6) (Cs:=pns L) kH (fun v W hb h=>(yU hl h (s.up hb))) (fun _=>rfl))<|oc (zR .i64 (k:Int) ((pns L).length:Int) (ltz k ((pns L).length)) iiz iiz rfl rfl)<|oc zC<|oc (zF 11 (ltz k ((pns L).length)) kH iiz (fun e=>zQ [] ((wB l).tS) fnz fM kH zC) fL)<|oc (zF 11 (ltz k ((pns L).length)) kH iiz (fun e=>zQ [] ((uI (k:Int)).tS) fnz fM kH zC) fL)<|oc (zF 11 (ltz k ((pns L).length)) kH iiz (fun e=>zQ [(12,(wB l).tS),(13,(uI (k:Int)).tS)] (wE (cg (fPN (at_ L k)))) (fmz ⟨fun v W h=>zK (c:=(ltz k ((pns L).length))=true) (f:=(wB l).tS) e h,fmz ⟨fun v W h=>zK (c:=(ltz k ((pns L).length))=true) (f:=(uI (k:Int)).tS) e h,fnz⟩⟩) fM kH (yL (z:=6) (Cs:=pns L) (i:=k) (C:=wC (fPN (at_ L k))) kH (zDe (by have:=zXk e;simp at this;omega)) (fun v W hb h=>(yU hl h (s.up hb))) iiz)) fL)<|oc (zF 11 (ltz k ((pns L).length)) kH iiz (fun e=>zQ [(14,wE (cg (fPN (at_ L k))))] ((fPN (at_ L k)).tS) (fmz ⟨fun v W h=>zK (c:=(ltz k ((pns L).length))=true) (f:=wE (cg (fPN (at_ L k)))) e h,fnz⟩) fM kH (zJ (f:=fPN (at_ L k)) 6 kH (hz:=zO _ _))) fL)<|oc (zF 11 (ltz k ((pns L).length)) kH iiz (fun e=>zQ [] ((fPV m p).tS) fnz fM kH (zJ (f:=fPV m p) 6 kH (hz:=zO _ _))) fL)<|oc (zF 11 (ltz k ((pns L).length)) kH iiz (fun e=>zQ [(15,(fPN (at_ L k)).tS),(16,(fPV m p).tS)] ((uI (jI (at_ L k) p)).tS) (fmz ⟨fun v W h=>zK (c:=(ltz k ((pns L).length))=true) (f:=(fPN (at_ L k)).tS) e h,fmz ⟨fun v W h=>zK (c:=(ltz k ((pns L).length))=true) (f:=(fPV m p).tS) e h,fnz⟩⟩) fM kH (zI zE zTU (fun u0 u1 W hb (h0:(fPN (at_ L k)).p u0 W) (h1:(fPV m p).p u1 W)=>zLq (m:=m) (p:=at_ L k) (q:=p) (zAz (p:=at_ L k) (m:=m) (hqL _ (zBC (l:=L) (i:=k) (by have:=zXk e;simp at this;omega))).1 (hqL _ (zBC (l:=L) (i:=k) (by have:=zXk e;simp at this;omega))).2 h0) h1 hm hm0))) fL)<|oc (zF 11 (ltz k ((pns L).length)) kH iiz (fun e=>zQ [(17,(uI (jI (at_ L k) p)).tS)] ((uB (decide (jI (at_ L k) p<0))).tS) (fmz ⟨fun v W h=>zK (c:=(ltz k ((pns L).length))=true) (f:=(uI (jI (at_ L k) p)).tS) e h,fnz⟩) fM kH (zR .i64 (jI (at_ L k) p) 0 (decide (jI (at_ L k) p<0)) iiz iiz rfl rfl)) fL)<|oc (yJ (ltz k ((pns L).length)) iiz (fun e v W h=>jU (zK e h) e) (fun e v W h=>jD h e))<|zD) fun a w3 s=> ?_
 refine zA rfl ?_
 refine StS.cond s ((ltz k ((pns L).length))&&(decide (jI (at_ L k) p<0))) iiz (fun e=> ?_) (fun e=> ?_)
 ·rw [zXD] at e
  have hk:k<L.length:=by have:=zXk e.1;simp at this;omega
  have hlt:=e.2
  refine zXo ?_
  refine zXs ?_
  refine zX 2 ((20,.Z (uI (k:Int)))::(21,.u (uI ((k+1:Nat):Int))):: []) s kH
   (oc zC<|oc (yM .i64 (k:Int) 1 ((k+1:Nat):Int) iiz iiz (wrap64 _ _ oO oO))<|zD) fun a w4 s=> ?_
  replace s:=s.drop [5]
  refine yP (uI ((k+1:Nat):Int)) rfl s kH iiz fun a w s=> ?_
  refine zA rfl ?_
  exact ⟨k+1,⟨hk,fun j hj=>by rcases Nat.lt_or_eq_of_le (Nat.le_of_lt_succ hj) with h|h;exact hx.2 j h;rw [h];exact hlt⟩,(by show L.length - (k+1)<L.length - k;omega),s.keepK _ (fmz ⟨mz3,fmz ⟨.head _,fnz⟩⟩)⟩
 ·have hkl:=hx.1
  have hpos:zNr L p=k:=by
   rw [zX1] at e
   rcases Nat.lt_or_eq_of_le hkl with h|h
   ·exact zNL h hx.2 (by rcases e with e|e;exact absurd (show (k:Int)<((pns L).length:Int) by simp;omega) (zXu e);exact e)
   ·unfold zNr;rw [h];exact zKW (by rw [<-h];exact hx.2)
  clear e
  refine zXE ?_
  refine zXg ?_
  refine zXg ?_
  refine zB 12 ((22,.Z (uI (k:Int)))::(23,.Z (wB l))::(24,.Z (uI ((pns L).length:Int)))::(25,.Z (uB (ltz k ((pns L).length))))::(26,.Z (uB (ltz k ((pns L).length))))::(27,.s (SF.imp ((ltz k ((pns L).length))=true) ((wB l).tS)))::(28,.s (SF.imp ((ltz k ((pns L).length))=true) ((uI (k:Int)).tS)))::(29,.s (SF.imp ((ltz k ((pns L).length))=true) (wE (cg (fPN (at_ L k))))))::(30,.s (SF.imp ((ltz k ((pns L).length))=true) ((fPN (at_ L k)).tS)))::(31,.s (SF.imp ((ltz k ((pns L).length))=true) ((fPV m p).tS)))::(32,.s (SF.imp ((ltz k ((pns L).length))=true) ((uB (jI (at_ L k) p==0)).tS)))::(33,.u (uB ((ltz k ((pns L).length))&&(jI (at_ L k) p==0)))):: []) hmix s kH
   (oc zC<|oc zC<|oc (yW (z:=6) (Cs:=pns L) kH (fun v W hb h=>(yU hl h (s.up hb))) (fun _=>rfl))<|oc (zR .i64 (k:Int) ((pns L).length:Int) (ltz k ((pns L).length)) iiz iiz rfl rfl)<|oc zC<|oc (zF 26 (ltz k ((pns L).length)) kH iiz (fun e=>zQ [] ((wB l).tS) fnz fM kH zC) fL)<|oc (zF 26 (ltz k ((pns L).length)) kH iiz (fun e=>zQ [] ((uI (k:Int)).tS) fnz fM kH zC) fL)<|oc (zF 26 (ltz k ((pns L).length)) kH iiz (fun e=>zQ [(27,(wB l).tS),(28,(uI (k:Int)).tS)] (wE (cg (fPN (at_ L k)))) (fmz ⟨fun v W h=>zK (c:=(ltz k ((pns L).length))=true) (f:=(wB l).tS) e h,fmz ⟨fun v W h=>zK (c:=(ltz k ((pns L).length))=true) (f:=(uI (k:Int)).tS) e h,fnz⟩⟩) fM kH (yL (z:=6) (Cs:=pns L) (i:=k) (C:=wC (fPN (at_ L k))) kH (zDe (by have:=zXk e;simp at this;omega)) (fun v W hb h=>(yU hl h (s.up hb))) iiz)) fL)<|oc (zF 26 (ltz k ((pns L).length)) kH iiz (fun e=>zQ [(29,wE (cg (fPN (at_ L k))))] ((fPN (at_ L k)).tS) (fmz ⟨fun v W h=>zK (c:=(ltz k ((pns L).length))=true) (f:=wE (cg (fPN (at_ L k)))) e h,fnz⟩) fM kH (zJ (f:=fPN (at_ L k)) 6 kH (hz:=zO _ _))) fL)<|oc (zF 26 (ltz k ((pns L).length)) kH iiz (fun e=>zQ [] ((fPV m p).tS) fnz fM kH (zJ (f:=fPV m p) 6 kH (hz:=zO _ _))) fL)<|oc (zF 26 (ltz k ((pns L).length)) kH iiz (fun e=>zQ [(30,(fPN (at_ L k)).tS),(31,(fPV m p).tS)] ((uB (jI (at_ L k) p==0)).tS) (fmz ⟨fun v W h=>zK (c:=(ltz k ((pns L).length))=true) (f:=(fPN (at_ L k)).tS) e h,fmz ⟨fun v W h=>zK (c:=(ltz k ((pns L).length))=true) (f:=(fPV m p).tS) e h,fnz⟩⟩) fM kH (zI zE zKw (fun u0 u1 W hb (h0:(fPN (at_ L k)).p u0 W) (h1:(fPV m p).p u1 W)=>zCP (m:=m) (p:=at_ L k) (q:=p) (zAz (p:=at_ L k) (m:=m) (hqL _ (zBC (l:=L) (i:=k) (by have:=zXk e;simp at this;omega))).1 (hqL _ (zBC (l:=L) (i:=k) (by have:=zXk e;simp at this;omega))).2 h0) h1 hm hm0))) fL)<|oc (yJ (ltz k ((pns L).length)) iiz (fun e v W h=>jU (zK e h) e) (fun e v W h=>jD h e))<|zD) fun a w5 s=> ?_
  refine zA rfl ?_
  refine StS.cond s ((ltz k ((pns L).length))&&(jI (at_ L k) p==0)) iiz (fun e=> ?_) (fun e=> ?_)
  ·refine zXg ?_
   refine zB 2 ((34,.Z (wB l))::(4,.u (wB l)):: []) hmix s kH
    (oc zC<|oc zG<|zD) fun a w6 s=> ?_
   refine zA rfl ?_
   refine zXh ?_
   exact StS.resN s (zXl _ _) (t:=4) rfl (by rw [s.val (.head _),zTg hpos e];exact (wD 6 _).st _ _ _ hl s.below)
  ·refine zXo ?_
   refine zXg ?_
   have hbX:=s.below
   have hlX:=(wD 6 _).st _ _ _ hl hbX
   have hX3:b3<w5.heap.size:=s.old _ (.head _)
   replace s:StS _ _ _ [⟨3,30,wC (fPV m p),b3,true⟩] _ _ _ _:=s.freeze
   replace s:=s.reb rfl [(33,.u (uB ((ltz k ((pns L).length))&&(jI (at_ L k) p==0)))),(19,.u (uB ((ltz k ((pns L).length))&&(decide (jI (at_ L k) p<0))))),(0,.u (wB l)),(5,.u (uI (k:Int)))] (fmz ⟨.inl (.head _),fmz ⟨.inl mz1,fmz ⟨.inl mz2,fmz ⟨.inl mz3,fnz⟩⟩⟩⟩)
   refine qS 5 ((35,.s (wZ w5 30))::(36,.Z (wB l))::(37,.Z (uI (k:Int)))::(38,.s (wD 6 (pns (L.take k))))::(39,.s (wJ w5 30 6 (pns (L.take k)))):: []) hmix s kH
    (oc (zHu (z:=6) kH)<|oc zC<|oc zC<|oc (zOz (z:=6) (k:=k) (Cs:=pns L) kH (by simp;omega) (fun v W hb h=>(yU hlX h (s.up hb))) iiz (fun v W h=>by rw [zOq] at h;exact h))<|oc (zL6 (pns (L.take k)) kH iiz (fun v W hb h=>h) (zLR _) (by simp;omega))<|zD) fun a w7 s hr=> ?_
   obtain ⟨v39,e39⟩: ∃v,a.tmps.getD 39 undef=v:=⟨_,rfl⟩
   have hv39:zAE w7 w5.heap.size 30 6 v39 (pns (L.take k)):=e39▸(hr (_,_) mz4)
   replace s:=s.learn 39 v39 e39
   refine zPG (wB v39) rfl s kH iiz fun a s=> ?_
   refine zA rfl ?_
   refine zXg ?_
   have sb:=s;have so: ∀q,q∈ [(⟨3,30,wC (fPV m p),b3,true⟩:Bx)]->q.b<w5.heap.size:=fun q hq=>by rcases List.mem_cons.1 hq with rfl|hq;exact hX3;cases hq
   have sg:w5.heap.size<=w5.heap.size:=zXm _
   have hwX:=s.below
   refine zIh (GW w5) hmix s fun w8 hw8 s=> ?_
   have hwb:=hwX.trans (hw8.mono hwX.size)
   have hz:=hwb.size
   refine zD8 [5,6,7] [0,1,2,3,5,6,7] ((40,.u (wB v39))::(41,.Z (fPV m p))::(42,.s (wD 6 [wC (fPV m p)]))::(43,.s (wD 6 (pns [p])))::(45,.Z (wB l))::(46,.Z (uI (k:Int)))::(47,.u (fRW w5 6 (pns (L.drop k)))):: []) (zIC hwb) s kH
    (oc zC<|oc (zJ (f:=fPV m p) 6 kH (hz:=zO _ _))<|oc (zAb (fun u W (hu:(fPV m p).p u W)=>zI2 hu))<|oc (zH zE zT0 (fun u0 W hb h0=>(zN7 (m:=m) (ps:= [p]) h0 oO fN).mono (wI zCW)))<|oc zC<|oc zC<|oc (zIs (W0:=w5) (l0:=l) (z:=6) (k:=k) (Cs:=pns L) kH (by simp;omega) hlX iiz iiz (fun v W h=>by rw [zOr] at h;exact h))<|zD)
    (zA2 rfl (zFy.c zFn hwb) (zA2 rfl (zFy.c zFn hwb) (zA2 rfl (zFy.c (zIF (x:= .tmp 45) (lo:= .tmp 46) (l0:=l) (z:=6) (k:=k) (Cs:=pns L) kH (by simp;omega) hlX iiz iiz) hwb) zEk))) fun a w9 hbw s hr=> ?_
   replace hwb:=hwb.trans (hbw.mono hwb.size)
   have hN:=hv39.below (hw8.trans (hbw.mono hw8.size))
   refine zGf (i:=4) (x:= .tmp 40) (y:= .tmp 43) (pns [p]) hwb s sg hN rfl (zB3 rfl) kH kH kH (s.fct (.tmp 40)) (hr (_,_) mz3) (zLR _) (by simp;omega) so fun v44 a w10 hwb hN44 s=> ?_
   have hR44:=hN44.row
   refine zGf (i:=8) (x:= .tmp 44) (y:= .tmp 47) (pns (L.drop k)) hwb s sg hN44 rfl (zB3 rfl) kH kH kH (s.fct (.tmp 44)) ((wD 6 _).st _ _ _ (s.sl (47,.u (fRW w5 6 (pns (L.drop k)))) mz2) hwb) (zLR _) (by simp;omega) so fun v48 a w11 hwb hN48 s=> ?_
   have hR48:=hN48.row
   have hR:(wD 6 (pns (zGn L p))).p v48 w11:=by have:=hR48;rw [zLQ, <-zTh hpos e] at this;exact this
   replace s:=s.drop [4]
   refine zD8 [] [9] ((4,.u (wB v48)):: []) (zIC hwb) s kH (zJq zG<|zD) zEk fun a w12 hbw s hr=> ?_
   refine zGe kH ?_
   refine zXh ?_
   exact StS.resN s hbX (t:=4) rfl (by rw [s.val (.head _)];exact (wD 6 _).st _ _ _ hR hbw)
def PRp (u v:UF) (x:Wj) (w:Wi):Prop:= ∃a b:List Wj,x= .agg (a++b).toArray/\(wC u).p a w/\(wC v).p b w
def fPR (u v:UF):UF:= .mk' (PRp u v) fun _ _ _ ⟨a,b,e,h1,h2⟩ k=>⟨a,b,e,(wC u).us _ _ _ h1 k,(wC v).us _ _ _ h2 k⟩
section
variable {f g f' g':UF}
theorem zBf (h:(wC (fPR (fPT f g) (fPT f' g'))).p cs W): ∃a b:List Wj,cs=a++b/\a.length=6/\b.length=6/\(wC (fPT f g)).p a W/\(wC (fPT f' g')).p b W:=by
 obtain ⟨a,b,e,h1,h2⟩:=h
 have:=zXv Array.toList (jH e)
 have this:cs=a++b:=this
 exact ⟨a,b,this,(zDD _ _ a W h1).1,(zDD _ _ b W h2).1,h1,h2⟩
theorem zKh:CU.ok 12 (wC (fPR (fPT f g) (fPT f' g'))):=fun cs W h=>by
 obtain ⟨a,b,rfl,l1,l2,h1,h2⟩:=zBf h
 have o1:=zDD _ _ a W h1;have o2:=zDD _ _ b W h2
 refine ⟨by simp [l1,l2],by rw [List.all_append,o1.2.1,o2.2.1];rfl,fun u hu=> ?_⟩
 rcases zXF.1 hu with hu|hu
 ·exact o1.2.2 u hu
 ·exact o2.2.2 u hu
theorem zC7: ∀cs:List Wj, ∀W,(fPR (fPT f g) (fPT f' g')).p (.agg cs.toArray) W->cs.length=12:=fun cs W h=>(zKh cs W h).1
theorem zPW (h:(fPR (fPT f g) (fPT f' g')).p v W):(wC (fPR (fPT f g) (fPT f' g'))).p v.cells.toList W/\v.cells.toList.all yA=true:=by
 obtain ⟨a,b,rfl,h1⟩:=id h
 exact ⟨h,(zKh _ W h).2.1⟩
theorem zBK (v:Wj) (W:Wi) (h:(fPR (fPT f g) (fPT f' g')).p v W): ∃vs:List Wj,v= .agg vs.toArray/\vs.length=12/\(∀u,u∈vs->u.oneCell'=true)/\vs.all yA=true/\(wC (fPR (fPT f g) (fPT f' g'))).p vs W:=by
 obtain ⟨a,b,rfl,h1⟩:=id h
 have:=zKh _ W h
 exact ⟨_,rfl,this.1,this.2.2,this.2.1,h⟩
theorem zE9 (cs:List Wj) (W:Wi) (h:(wC (fPR (fPT f g) (fPT f' g'))).p cs W):0+6<=cs.length/\(fPT f g).p (.agg ((cs.drop 0).take 6).toArray) W:=by
 obtain ⟨a,b,rfl,l1,l2,h1,_⟩:=zBf h
 refine ⟨by simp [l1,l2], ?_⟩
 rw [zX6,zXM oO,zXG oO]
 exact h1
theorem zFQ (cs:List Wj) (W:Wi) (h:(wC (fPR (fPT f g) (fPT f' g'))).p cs W):6+6<=cs.length/\(fPT f' g').p (.agg ((cs.drop 6).take 6).toArray) W:=by
 obtain ⟨a,b,rfl,l1,l2,_,h2⟩:=zBf h
 refine ⟨by simp [l1,l2], ?_⟩
 rw [zXN oO,zXO oO,zXx,zXG oO]
 exact h2
theorem zUW (cs:List Wj) (W:Wi) (h:(wC (fPR (fPT f g) (fPT f' g'))).p cs W):3+3<=cs.length/\g.p (.agg ((cs.drop 3).take 3).toArray) W:=by
 obtain ⟨a,b,rfl,l1,l2,h1,_⟩:=zBf h
 refine ⟨by simp [l1,l2], ?_⟩
 have:=(zCj a W h1).2
 rwa [zXN oO,zXM (by simp;omega)]
theorem zTk (cs:List Wj) (W:Wi) (h:(wC (fPR (fPT f g) (fPT f' g'))).p cs W):9+3<=cs.length/\g'.p (.agg ((cs.drop 9).take 3).toArray) W:=by
 obtain ⟨a,b,rfl,l1,l2,_,h2⟩:=zBf h
 refine ⟨by simp [l1,l2], ?_⟩
 have:=(zCj b W h2).2
 rwa [show 9=a.length+3 by omega,List.drop_append,zXO oO,zXx,Nat.add_sub_cancel_left]
end
section
variable {F:Fence} {m:Nat} {P:Wn} {u w0:Wi} {ops:Array Oper} {G:Nat->SF} {d:Tmp} {ty:Wk} {pos:String} {aft:Array Edge}
variable {l:Wj} {x y:Wm} {t:Wk} {z:Nat} {Cs:List CU} {i:Nat} {C:CU}
theorem zHv (hz:jJ P t=some z) (hi:Cs[i]?=some C) (hl:(wD z Cs).p l u) (hx: ∀v W,(fct G x).p v W->v=l) (hy: ∀v W,(fct G y).p v W->v= .int .i64 (i:Int)) (hd: ∀v W,(fOp u C).p v W->(G d).p v W:=by exact fun _ _ h=>h):qK F m P w0 ops G ⟨some d,.indexAddr t x y,ty,pos,aft,none⟩:=
 qJ (fun _ e=>by cases e) (fun _ e=>by cases e) fun b W hb hh=>by
  have e1:=hx _ _ (hh x (by simp [Op.operands]))
  have e2:=hy _ _ (hh y (by simp [Op.operands]))
  obtain ⟨A,c,rfl,h2,h3,h4,h5⟩:=hl
  obtain ⟨b',o,cs,rfl,h6,h7⟩:=h5 i C hi
  refine ⟨.pointer (some ⟨b',o+i*z,none⟩), ?_,hd _ _ ⟨b',o+i*z,cs,rfl,h7,h6⟩⟩
  simp [execOp,e1,e2,zFK hz (zXi.1 hi).1]
theorem zJn (hu:bW u w0) (f:UF) (k:Nat) (hk:j9 P t=some k) (hx: ∀v W,(fct G x).p v W->(fOp u C).p v W) (h: ∀cs W,C.p cs W->0+k<=cs.length/\f.p (.agg ((cs.drop 0).take k).toArray) W) (hd: ∀v W,f.p v W->(G d).p v W:=by exact fun _ _ h=>h):qK F m P w0 ops G ⟨some d,.load t x,ty,pos,aft,none⟩:=
 qJ (fun _ e=>by cases e) (fun _ e=>by cases e) fun b W hb hh=>by
  have hb:=hu.trans (hb.mono hu.size)
  obtain ⟨a,q,cs,e,h2,h3⟩:=hx _ _ (hh x (by simp [Op.operands]))
  obtain ⟨h4,h5⟩:=h cs W (C.us _ _ _ h2 (zV hb))
  rw [zX6] at h5
  exact ⟨_,by simp [execOp,Instr.loadAt,e,Instr.sureAddr,zAj hk (h3.below hb) oO],hd _ _ h5⟩
end
section
variable {S:Nat->Prop} {w0:Wi} {K:List (Nat×KF)} {B:List Bx} {n:Nat} {ds:List Deferred} {a:Act} {w:Wi}
theorem StS.own (h:St w0 K B n ds a w) {c:Nat} {y:Bx} (hB:zFx B c=some y) (hro:y.r=false):w0.heap.size<=y.b:=by
 obtain ⟨hy,_⟩:=zAL hB
 obtain ⟨_,_,h2,_⟩:=h.bx.mem y hy
 rcases h2 with e|e|e
 ·rw [hro] at e;cases e
 ·exact e
 ·exact e.elim
theorem zQd {wb:Wi} (h:bW wb w) {b:Nat} (hb:wb.heap.size<=b) (vs:Array Wj):Gr (GW wb) (w.setRow b vs):=zIC (zKB h hb)
end
theorem zK9 (m:Nat) (W:Wi):RVp m 0 (.agg #[.bool false, sN, sN]) W:=⟨iv false [],0,⟨_,_,_,rfl,⟨false,none,0,0, [],rfl,wN W,zBE,zXn _,rfl⟩,⟨none,0,0, [],rfl,wN W,zBE,zXn _,rfl⟩⟩,zXH _⟩
abbrev ptZ:List Wj:= [.bool false, sN, sN,.bool false, sN, sN]
theorem zGo (m:Nat) (W:Wi):(wC (fPV m (0,0))).p ptZ W:=⟨false,none,0,0,none,0,0,false,none,0,0,none,0,0,rfl,zK9 m W,zK9 m W⟩
def nE (ps:List V2):Nat:=if 2<=ps.length then ps.length else 0
section
variable {S:Nat->Prop} {w0:Wi} {K:List (Nat×KF)} {B:List Bx} {n:Nat} {a:Act} {w:Wi} {P:Wn} {Q:Exit->Act->Wi->Prop}
end
end Go.Proofs.Wd
