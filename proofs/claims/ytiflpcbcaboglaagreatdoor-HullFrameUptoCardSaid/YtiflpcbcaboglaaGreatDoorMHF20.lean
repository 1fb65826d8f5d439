/- Natural numbers as values; the walks of gcd's Reduce, Lcm, Coprime; Th and what it needs. -/
import Derived.Test.YtiflpcbcaboglaaGreatDoorMHF18
import Derived.Test.YtiflpcbcaboglaaGreatDoorMHF13
import Derived.Test.YtiflpcbcaboglaaGreatDoorMHF7
import Derived.Test.YtiflpcbcaboglaaGreatDoorMHF19
import Derived.Test.YtiflpcbcaboglaaGreatDoorMHF17
import Derived.Test.YtiflpcbcaboglaaGreatDoorMHF6
import Derived.Test.YtiflpcbcaboglaaGreatDoorMHF1
import Derived.Test.YtiflpcbcaboglaaGreatDoorMHF9
import Derived.Test.YtiflpcbcaboglaaGreatDoorMHF16
theorem kH {P:Prop} (h:P:=by kernel_rfl):P:=h
theorem oO {P:Prop} (h:P:=by omega):P:=h
theorem dA {P:Prop} (h:P:=by decide):P:=h
theorem fL {c:Prop} {α:Sort _} {R:α->Prop} (e:¬c) (w:α) (h:c):R w:=absurd h e
theorem fM {β γ:Sort _} {p q:β->γ->Prop} (b:β) (c:γ) (h:p b c) (_:q b c):p b c:=h
theorem fN {P:Prop} (h:P:=by simp):P:=h
abbrev zXP:=@Go.wpIn_seq
abbrev zXQ:=@Go.wpIn_ret
abbrev zXR:=@Nat.lt_of_le_of_lt
abbrev zXS:=@List.getElem?_eq_some_iff
abbrev zXT:=@of_decide_eq_true
abbrev zXU:=@Nat.zero_le
abbrev zXV:=@Go.RowKit.Below.refl
abbrev zXW:=@Nat.le_refl
abbrev zXX:=@Go.wpIn_skip
abbrev zXY:=@Nat.le_trans
abbrev zXZ:=@Nat.lt_of_lt_of_le
abbrev zX0:=@Nat.div_le_self
abbrev zX1:=@Go.wpIn_block
abbrev zX2:=@Nat.pow_le_pow_right
abbrev zX3:=@decide_eq_true
abbrev zX4:=@List.nil_append
abbrev zX5:=@congrArg
abbrev zX6:=@Nat.eq_zero_or_pos
abbrev zX7:=@decide_eq_false
abbrev zX8:=@Option.some.inj
abbrev zX9:=@Go.KeepsOthers.setCell
abbrev zYa:=@of_decide_eq_false
abbrev zYb:=@Go.wpIn_exit
abbrev zYc:=@List.mem_append
abbrev zYd:=@List.take_of_length_le
abbrev zYe:=@Rat.mkRat_zero
abbrev zYf:=@Nat.le_of_lt
abbrev zYg:=@Rat.one_mul
abbrev zYh:=@Nat.mul_assoc
abbrev zYi:=@Bool.and_eq_true
abbrev zYj:=@List.getElem?_eq_getElem
abbrev zYk:=@List.length_map
abbrev zYl:=@List.take_append_of_le_length
abbrev zYm:=@List.drop_append_of_le_length
abbrev zYn:=@List.drop_of_length_le
abbrev zYo:=@List.mem_range
abbrev zYp:=@Option.map_eq_some_iff
abbrev zYq:=@List.length_drop
abbrev zYr:=@List.mem_cons
abbrev zYs:=@Go.World.block_lt_of_cell?
abbrev zYt:=@List.size_toArray
abbrev zYu:=@List.length_cons
abbrev zYv:=@List.length_nil
abbrev zYw:=@Array.replicate_succ
abbrev zYx:=@Array.replicate_zero
abbrev zYy:=@List.push_toArray
abbrev zYz:=@List.append_toArray
abbrev zYA:=@List.cons_append
abbrev zYB:=@Classical.byContradiction
abbrev zYC:=@Int.tdiv_eq_ediv_of_nonneg
abbrev zYD:=@Rat.num_eq_zero
abbrev zYE:=@Int.sign_eq_neg_one_of_neg
abbrev zYF:=@Int.sign_eq_one_of_pos
abbrev zYG:=@List.getD_eq_getElem?_getD
abbrev zYH:=@Nat.lt_or_eq_of_le
abbrev zYI:=@List.drop_zero
abbrev zYJ:=@Nat.gcd_pos_of_pos_right
abbrev Wi:=Go.World
abbrev Wj:=Go.Value
abbrev Wk:=Go.TypeId
abbrev Wl:=Option
abbrev Wm:=Go.Operand
abbrev Wn:=Go.Program
namespace Go.Proofs.Wd
open Tryz
variable {W w w':Wi} {B a b b' d m m' n n' x:Nat} {f u v v':Wj} {g:FuncId} {cs cs':List Wj} {k:Int} {q q':Rat} {A:Wl Addr} {qs:List Rat} {p:V2} {y:Wm} {ats:Array Wk} {op:Rat->Rat->Rat}
set_option maxHeartbeats 2000000
open Go.RowKit Lb
theorem zVJ (h:LV W m v a) (h':LV W m v' b) (hm:m<=2000) (hT:Tab W):Calls prog 150 #[v,v'] W (zNU W (Nat.gcd a b)):=by
 obtain ⟨A,n,c,l,rfl,h1,h2,h3,rfl⟩:=h
 obtain ⟨A',n',c',l',rfl,h1',h2',h3',rfl⟩:=h'
 exact (zSH A n c l A' n' c' l' W h1 h1' h2 h2' oO oO hT).mono fun _ _=>jP.v
theorem zQM (ha:a<BB^m) (hb:b<BB^m):Nat.gcd a b<BB^m:=by
 rcases zX6 a with rfl|h
 ·rwa [Nat.gcd_zero_left]
 ·exact zXR (Nat.gcd_le_left b h) ha
theorem zNF {vg:Wj} {g:Nat} (h:LV W m v a) (hg:LV W m vg g) (hm:m<=2000) (hg0:0<g) (hc:W.cell? ⟨B,0,none⟩=some vg):
  Calls prog 159 #[v,pO B 0] W (zNU W (a / g)):=by
 obtain ⟨A,n,c,l,rfl,h1,h2,h3,h4⟩:=h
 obtain ⟨A',n',c',l',rfl,h1',h2',h3',h4'⟩:=hg
 have hd:=zJx a g hg0 A n c l A' n' c' l' W h1 h2 h1' h2' h4 h4' oO oO
 have H4:=hid h4;have H4':=hid h4'
 clear h4 h4'
 go_enter func159,ntmps159
 go_wp2_with fail
 refine hd.mono ?_
 rintro e w4 ⟨A4,n4,c4,l4,A5,n5,c5,l5,rfl,hi4,hr4,hi5,hr5,hb5⟩
 go_wp2_with fail
 go_ret
 exact ⟨_,rfl,⟨A4,n4,c4,l4,rfl,hi4,hr4⟩,hb5⟩
theorem zUT (A:Wl Addr) (n c:Nat) (w:Wi):
  Calls prog 151 #[.slice A n c] w fun e w'=>e= .returned (.func (.func 159) #[] #[pO w.heap.size 0])/\w'=w.alloc (.cells #[.slice A n c] 24):=by
 go_enter func151,ntmps151
 go_wp2
 go_ret
 exact ⟨rfl,rfl⟩
theorem zOC (h:LV W m v a) (h':LV W m v' b) (hm:m<=2000) (hT:Tab W):Calls prog 142 #[v,v'] W (zWB W (a / Nat.gcd a b) (b / Nat.gcd a b)):=by
 have hgc:=zVJ h h' hm hT
 have hgl:=zQM h.bound h'.bound
 have hen: ∀args w,(callFunc 159 args).run prog w= .ok (.enter 159 args) w:=enters_of func159 kH rfl
 obtain ⟨g,hg⟩: ∃g,Nat.gcd a b=g:=⟨_,rfl⟩
 rw [hg] at hgc hgl ⊢
 rcases zX6 g with h0|h0
 ·have HZ:=hid h0
  go_enter func142,ntmps142
  go_wp2_with fail
  refine hgc.mono ?_
  rintro e w4 ⟨v4,rfl,⟨A4,n4,c4,l4,rfl,hi4,hr4⟩,hb4⟩
  obtain rfl:n4=0:=by rw [<-hr4.len];exact hi4.zero_iff.1 HZ.out
  go_wp2_with fail
  go_ret2
  exact ⟨_,_,rfl,⟨none,0,0, [],rfl,by rw [HZ.out,Nat.div_zero];exact Is.nil,wN _⟩,⟨none,0,0, [],rfl,by rw [HZ.out,Nat.div_zero];exact Is.nil,wN _⟩,hb4⟩
 ·clear hg
  go_enter func142,ntmps142
  go_wp2_with fail
  refine hgc.mono ?_
  rintro e w4 ⟨v4,rfl,⟨A4,n4,c4,l4,rfl,hi4,hr4⟩,hb4⟩
  have hn4:0<n4:=by rw [<-hr4.len];exact hi4.pos_iff.1 h0
  have hb5:=hb4.trans ((zXV _ w4).alloc (zXW _) (.cells #[.slice A4 n4 c4] 24)|>.mono hb4.size)
  have x5:=Boxed.new w4 24 (.slice A4 n4 c4)
  obtain ⟨W5,hW5⟩: ∃W5,w4.alloc (.cells #[.slice A4 n4 c4] 24)=W5:=⟨_,rfl⟩
  rw [hW5] at hb5 x5
  have hg5:LV W5 m (.slice A4 n4 c4) g:=by rw [<-hW5];exact (qU.lv ⟨A4,n4,c4,l4,rfl,hi4,hr4⟩ hgl).below ((zXV _ w4).alloc (zXW _) _)
  have hby:=zUT A4 n4 c4 w4
  rw [hW5] at hby
  clear hW5
  go_wp2_with fail
  refine hby.mono ?_
  rintro e w6 ⟨rfl,rfl⟩
  go_wp2_with fail
  refine (zNF (h.below hb5) hg5 hm h0 x5.cell).mono ?_
  rintro e w7 ⟨v7,rfl,hv7,hb7⟩
  go_wp2_with fail
  refine (zNF ((h'.below hb5).below hb7) (hg5.below hb7) hm h0 ((hb7.cell (p:=⟨w4.heap.size,0,none⟩) (z4 x5.cell)).trans x5.cell)).mono ?_
  rintro e w8 ⟨v8,rfl,hv8,hb8⟩
  go_wp2_with fail
  go_ret2
  have t1:=hb5.trans (hb7.mono hb5.size)
  exact ⟨_,_,rfl,hv7.below hb8,hv8,t1.trans (hb8.mono t1.size)⟩
set_option maxRecDepth 100000
theorem zQa (h:LV W m v x) (hm:m<=100000):Calls prog 134 #[v] W (zNU W x):=by
 obtain ⟨A,n,c,l,rfl,h1,h2,h3,rfl⟩:=h
 exact (q9 A n c l W h1 h2 oO).mono fun _ _=>jP.v
theorem Tab.bls {te:Wk} (hT:Tab W) (hb:W.heap[b]?=some (.cells cs.toArray te (0,0))) (h0: ∃s,cs[0]?=some (.bool s)) (hg:BlS (fun k=>k=b) W w):Tab w:=fun j hj=>by
 have h1:=hT j hj
 have hne:(0:Nat)≠b:=fun e=>by
  have h2:=hT 0 dA
  obtain ⟨s,hs⟩:=h0
  unfold World.cell? at h2
  rw [show ((⟨0,0,none⟩:Addr).block)=b from e,hb] at h2
  simp [hs] at h2
 exact (World.cell?_of_block (a:=⟨0,j,none⟩) (hg.block _ (z4 h1) hne)).trans h1
theorem zIB (h:QVp m k d (.agg cs.toArray) W): ∃s,cs[0]?=some (.bool s):=by
 obtain ⟨u,h1,s,rfl⟩:=zTE cs W h
 exact ⟨s,h1⟩
theorem zB9 (h:QVp m k d (.agg cs.toArray) W):cs.all yA=true:=by
 have:=(zFc (v:= .agg cs.toArray) h).2
 simpa [Value.cells] using this
theorem zF8 (h:qU W v x):Calls prog 104 #[v] W (Ret W (fNV (x:Int)).tS):=by
 refine z9 [(jF x).tS] func104 rfl kH ⟨h,trivial⟩ fun a s=> ?_
 refine zXP ?_
 refine zB 0 [] hmix s kH
  zC fun a w1 s=> ?_
 refine zZ (CU.len 2) (cs:= [.bool false, sN]) kH rfl s kH (fun W=>rfl) rfl fun b2 a w s=> ?_
 refine zA rfl ?_
 refine zXP ?_
 refine zB 2 ((3,.Z (jF x))::(4,.u (fNV (x:Int))):: []) hmix s kH
  (oc zE<|oc (zFk (fun u W (hu:qU W u x)=>zNJ hu))<|zC) fun a w2 s=> ?_
 refine zQ (wC (fNV (x:Int))) ((fNV (x:Int)).tS) rfl s kH rfl rfl rfl iiz iiz zGD fun a w s=> ?_
 refine zA rfl ?_
 refine zXQ ?_
 exact wI s (wC (fNV (x:Int))) rfl kH rfl rfl (zQA _) (fun cs W h=>h)
theorem zOB (z:Int) (hz: -9223372036854775808<=z/\z<=9223372036854775807):Calls prog 73 #[.int .i64 z] W (Ret W (fQN (z:Rat)).tS):=by
 refine z9 [(fI z).tS] func73 rfl kH ⟨rfl,trivial⟩ fun a s=> ?_
 refine zXP ?_
 refine zB 0 [] hmix s kH
  zC fun a w1 s=> ?_
 refine zZ (CU.len 3) (cs:=zR3) kH rfl s kH (fun W=>rfl) rfl fun b2 a w s=> ?_
 refine zA rfl ?_
 refine zXP ?_
 refine zB 4 ((3,.Z (uI z))::(4,.Z (fNV z))::(5,.Z (jF 1))::(6,.u (fQN (z:Rat))):: []) hmix s kH
  (oc zE<|oc (zJ zD zVP (fun u0 W hb (h0:u0= .int .i64 z)=>by subst h0;exact zW3 z hz))<|oc (jI (fun u W (hu:u= .int .u32 1)=>zQg hu))<|oc (y4 (fun u v W (hu:NV W u z) (hv:qU W v 1)=>zIf (q:=(z:Rat)) hu hv))<|zC) fun a w2 s=> ?_
 refine zQ (wC (fQN (z:Rat))) ((fQN (z:Rat)).tS) rfl s kH rfl rfl rfl iiz iiz yI fun a w s=> ?_
 refine zA rfl ?_
 refine zXQ ?_
 exact wI s (wC (fQN (z:Rat))) rfl kH rfl rfl (qX _) (fun cs W h=>h)
theorem zRL (hh:W.heap[b]?=some (.cells cs.toArray 127 (0,0))) (hc:QVp m k d (.agg cs.toArray) W) (hm:m<=2000) (hd:d=0):Calls prog 122 #[pO b 0] W (zLb W b 127 (wC (fQN ((0:Int):Rat))) (uB false).tS):=by
 have hz:true=decide (d=0):=(zX3 hd).symm
 refine zE7 b [(0,wB (pO b 0))] [⟨0,127,wC (fQV m k d),b,false⟩] func122 rfl kH (fun q hq=>by simp at hq;subst hq;exact ⟨by simp,rfl⟩) ⟨⟨cs,rfl,.inr (.inr rfl),hh,hc,zB9 hc,fun y hy=>by cases hy⟩,trivial⟩ (fun x hx=>by simp at hx;subst hx;simp) fun a s=> ?_
 refine zXP ?_
 refine zB 1 ((2,.u (uB false)):: []) hmix s kH
  (oc zF<|zC) fun a w1 s=> ?_
 refine zA rfl ?_
 refine zXP ?_
 refine zXP ?_
 refine zB 8 ((3,.s (wK b (cg (fQV m k d))))::(4,.Y (fQV m k d))::(5,.X (fQV m k d) 0)::(6,.X (fQV m k d) 2)::(7,.Z (fLV m d))::(8,.Z (jF d))::(9,.s (zQW d))::(10,.u (uB true)):: []) hmix s kH
  (oc zE<|oc (qF (C:=cg (fQV m k d)))<|oc (zL (C:=cg (fQV m k d)) 0 kH)<|oc (yW (C:=cg (fQV m k d)) 0 2 kH)<|oc (jJ (C:=cg (fQV m k d)) (k:=2) kH (h:=zHB))<|oc (zJ zD zQY (fun u0 W hb (h0:LV W m u0 d)=>zQa h0 oO))<|oc (zEd kH iiz)<|oc (zEe hz)<|zC) fun a w2 s=> ?_
 refine zA rfl ?_
 refine StS.cond s true iiz (fun e=> ?_) (fun e=>by cases e)
 refine zXP ?_
 refine zB 4 ((11,.Z (wB (pO b 0)))::(12,.u (fQN ((0:Int):Rat)))::(13,.Z (wB (pO b 0)))::(14,.u (wB (pO b 0))):: []) hmix s kH
  (oc (zE (fun _ _ _ h=>h.1))<|oc (zJ zD zSO (fun u0 W hb (h0:u0= .int .i64 0)=>by subst h0;exact zOB 0 dA))<|oc (j9 (a:=⟨b,0,none⟩) iiz)<|oc (qC (b:=b) (o:=0) 0 kH iiz)<|zC) fun a w3 s=> ?_
 refine jA (c:=0) (o:=0) (kk:=3) (wC (fQN ((0:Int):Rat))) ((fQN ((0:Int):Rat)).tS) rfl s kH rfl rfl iiz iiz zOn fun a w s=> ?_
 refine zA rfl ?_
 refine zXP ?_
 replace s:=s.drop [2]
 refine zB 1 ((2,.u (uB false)):: []) hmix s kH
  (oc zF<|zC) fun a w4 s=> ?_
 refine zA rfl ?_
 refine zXQ ?_
 exact vJ s (c:=0) (C:=wC (fQN ((0:Int):Rat))) rfl rfl rfl rfl iiz
theorem zRM (hh:W.heap[b]?=some (.cells cs.toArray 127 (0,0))) (hc:QVp m k d (.agg cs.toArray) W) (hm:m<=2000) (hd0:0<d) (hT:Tab W):Calls prog 122 #[pO b 0] W (zLb W b 127 (wC (fQN (mkRat k d))) (uB true).tS):=by
 have hz:false=decide (d=0):=(zX7 oO).symm
 have bk:k.natAbs<BB^m:=by obtain ⟨_,_,_,_,h1,_⟩:=hc;exact h1.bound
 have hred: ∀W u0 u1,Tab W->LV W m u0 k.natAbs->LV W m u1 d->Calls prog 142 #[u0,u1] W (Ret W (wY (jF (k.natAbs / Nat.gcd k.natAbs d)).tS (jF (d / Nat.gcd k.natAbs d)).tS)):=fun W u0 u1 hT h0 h1=>(zOC h0 h1 hm hT).mono fun e w' ⟨v,v',e1,h1,h2,hb⟩=>⟨_,e1,⟨v,v',rfl,h1,h2⟩,hb⟩
 refine zE7 b [(0,wB (pO b 0))] [⟨0,127,wC (fQV m k d),b,false⟩] func122 rfl kH (fun q hq=>by simp at hq;subst hq;exact ⟨by simp,rfl⟩) ⟨⟨cs,rfl,.inr (.inr rfl),hh,hc,zB9 hc,fun y hy=>by cases hy⟩,trivial⟩ (fun x hx=>by simp at hx;subst hx;simp) fun a s=> ?_
 refine zXP ?_
 refine zB 1 ((2,.u (uB false)):: []) hmix s kH
  (oc zF<|zC) fun a w1 s=> ?_
 refine zA rfl ?_
 refine zXP ?_
 refine zXP ?_
 refine zB 8 ((3,.s (wK b (cg (fQV m k d))))::(4,.Y (fQV m k d))::(5,.X (fQV m k d) 0)::(6,.X (fQV m k d) 2)::(7,.Z (fLV m d))::(8,.Z (jF d))::(9,.s (zQW d))::(10,.u (uB false)):: []) hmix s kH
  (oc zE<|oc (qF (C:=cg (fQV m k d)))<|oc (zL (C:=cg (fQV m k d)) 0 kH)<|oc (yW (C:=cg (fQV m k d)) 0 2 kH)<|oc (jJ (C:=cg (fQV m k d)) (k:=2) kH (h:=zHB))<|oc (zJ zD zQY (fun u0 W hb (h0:LV W m u0 d)=>zQa h0 oO))<|oc (zEd kH iiz)<|oc (zEe hz)<|zC) fun a w2 s=> ?_
 refine zA rfl ?_
 refine StS.cond s false iiz (fun e=>by cases e) (fun e=> ?_)
 refine zXX ?_
 refine zXP ?_
 refine zB 10 ((15,.Z (wB (pO b 0)))::(16,.s (wK b (cg (fQV m k d))))::(17,.Y (fQV m k d))::(18,.X (fQV m k d) 0)::(19,.X (fQV m k d) 0)::(20,.Z (fUV m k))::(21,.u (fNV k))::(22,.Z (wB (pO b 0)))::(23,.Z (wB (pO b 0)))::(24,.u (wB (pO b 0))):: []) hmix s kH
  (oc (zE (fun _ _ _ h=>h.1))<|oc zE<|oc (qF (C:=cg (fQV m k d)))<|oc (zL (C:=cg (fQV m k d)) 0 kH)<|oc (yW (C:=cg (fQV m k d)) 0 0 kH)<|oc (zR (C:=cg (fQV m k d)) (k:=0) 2 kH (h:=zMf))<|oc (zJ zD zUF (fun u0 W hb (h0:UV W m u0 k)=>zTX h0 oO))<|oc (j9 (a:=⟨b,0,none⟩) iiz)<|oc (qC (b:=b) (o:=0) 0 kH iiz)<|oc (qC (b:=b) (o:=0) 0 kH iiz)<|zC) fun a w3 s=> ?_
 refine jA (c:=0) (o:=0) (kk:=2) (wC (fQM m k d)) ((fNV k).tS) rfl s kH rfl rfl iiz iiz zRE fun a w s=> ?_
 refine zA rfl ?_
 refine zXP ?_
 refine z7 [0,1,2,8] 15 ((26,.u (wB (pO b 0)))::(27,.u (wB (pO b 0)))::(28,.s (wK b (cg (fQM m k d))))::(29,.Y (fQM m k d))::(30,.X (fQM m k d) 0)::(31,.X (fQM m k d) 0)::(32,.X (fQM m k d) 1)::(33,.Z (jF (k.natAbs)))::(34,.s (wK b (cg (fQM m k d))))::(35,.Y (fQM m k d))::(36,.X (fQM m k d) 0)::(37,.X (fQM m k d) 2)::(38,.Z (fLV m d))::(39,.Z (zAC (jF (k.natAbs / Nat.gcd k.natAbs d)) (jF (d / Nat.gcd k.natAbs d))))::(25,.u (zAC (jF (k.natAbs / Nat.gcd k.natAbs d)) (jF (d / Nat.gcd k.natAbs d)))):: []) hmix s kH
  (oc (zE (fun _ _ _ h=>h.1))<|oc (zE (fun _ _ _ h=>h.1))<|oc zE<|oc (qF (C:=cg (fQM m k d)))<|oc (zL (C:=cg (fQM m k d)) 0 kH)<|oc (yW (C:=cg (fQM m k d)) 0 0 kH)<|oc (yW (C:=cg (fQM m k d)) 0 1 kH)<|oc (jJ (C:=cg (fQM m k d)) (k:=1) kH (h:=zTI))<|oc zE<|oc (qF (C:=cg (fQM m k d)))<|oc (zL (C:=cg (fQM m k d)) 0 kH)<|oc (yW (C:=cg (fQM m k d)) 0 2 kH)<|oc (jJ (C:=cg (fQM m k d)) (k:=2) kH (h:=zTH))<|oc (zI zD zUC (fun u0 u1 W hb (h0:qU W u0 (k.natAbs)) (h1:LV W m u1 d)=>hred W u0 u1 (hT.bls hh (zIB hc) (s.gr.trans hb)) (qU.lv h0 bk) h1))<|oc zE<|zC) fun Q' hQ a w4 s=> ?_
 refine zAN (jF (k.natAbs / Nat.gcd k.natAbs d)) rfl s kH (zAR (A:=(jF (k.natAbs / Nat.gcd k.natAbs d)).tS) (B:=(jF (d / Nat.gcd k.natAbs d)).tS) iiz) kH fun a w s=> ?_
 refine zAN (jF (d / Nat.gcd k.natAbs d)) rfl s kH (zAQ (A:=(jF (k.natAbs / Nat.gcd k.natAbs d)).tS) (B:=(jF (d / Nat.gcd k.natAbs d)).tS) iiz) kH fun a w s=> ?_
 refine zAN (wB (pO b 0)) rfl s kH (j9 (a:=⟨b,0,none⟩) iiz) kH fun a w s=> ?_
 refine zAN (wB (pO b 0)) rfl s kH (qC (b:=b) (o:=0) 0 kH iiz) kH fun a w s=> ?_
 refine zAN (wB (pO b 0)) rfl s kH (qC (b:=b) (o:=0) 0 kH iiz) kH fun a w s=> ?_
 refine zAN (wB (pO b 1)) rfl s kH (qC (b:=b) (o:=0) 1 kH iiz) kH fun a w s=> ?_
 refine jA (c:=0) (o:=1) (kk:=1) (wC (fQA m (decide (k<0)) (k.natAbs / Nat.gcd k.natAbs d) d)) ((jF (k.natAbs / Nat.gcd k.natAbs d)).tS) rfl s kH rfl rfl iiz iiz zTm fun a w s=> ?_
 refine zAN (wB (pO b 0)) rfl s kH (j9 (a:=⟨b,0,none⟩) iiz) kH fun a w s=> ?_
 refine zAN (wB (pO b 0)) rfl s kH (qC (b:=b) (o:=0) 0 kH iiz) kH fun a w s=> ?_
 refine zAN (wB (pO b 2)) rfl s kH (qC (b:=b) (o:=0) 2 kH iiz) kH fun a w s=> ?_
 refine jA (c:=0) (o:=2) (kk:=1) (wC (fQN (mkRat k d))) ((jF (d / Nat.gcd k.natAbs d)).tS) rfl s kH rfl rfl iiz iiz (zTj (zCj k d hd0).symm (zDH k d hd0).symm (zCI k d hd0).symm) fun a w s=> ?_
 refine zA rfl (hQ _ _ ?_)
 refine zXP ?_
 replace s:=s.drop [2]
 refine zB 1 ((2,.u (uB true)):: []) hmix s kH
  (oc zF<|zC) fun a w5 s=> ?_
 refine zA rfl ?_
 refine zXQ ?_
 exact vJ s (c:=0) (C:=wC (fQN (mkRat k d))) rfl rfl rfl rfl iiz
theorem zE9 (hh:W.heap[b]?=some (.cells cs.toArray 127 (0,0))) (hc:QVp m k d (.agg cs.toArray) W) (hm:m<=2000) (hT:Tab W):Calls prog 122 #[pO b 0] W (zLb W b 127 (wC (fQN (mkRat k d))) (uB (decide (0<d))).tS):=by
 rcases zX6 d with h|h
 ·have:=zRL hh hc hm h
  rw [h,zYe,zX7 oO]
  exact this
 ·rw [zX3 h]
  exact zRM hh hc hm h hT
theorem zVu (h:QVp m k d v W) (hm:m<=2000) (hT:Tab W):Calls prog 101 #[v] W (Ret W (wJ W 127 (wC (fQN (mkRat k d))))):=by
 refine z9 [(fQV m k d).tS] func101 rfl kH ⟨h,trivial⟩ fun a s=> ?_
 refine zXP ?_
 refine zB 0 [] hmix s kH
  zC fun a w1 s=> ?_
 refine yK (wC (fQV m k d)) rfl s kH (fun v W h=>zFc h) fun b1 a w s=> ?_
 refine yR (wB (.pointer none)) rfl s kH iiz fun a w s=> ?_
 refine zA rfl ?_
 refine zXP ?_
 refine zB 2 ((4,.Z (fQV m k d))::(5,.u (fQV m k d)):: []) hmix s kH
  (oc (zK (f:=fQV m k d) 3 kH (hz:=zQp _ _ _))<|oc (zFk (fun u W (hu:QVp m k d u W)=>zUU hu))<|zC) fun a w2 s=> ?_
 refine yK (wC (fQV m k d)) rfl s kH (fun v W h=>zFc h) fun b6 a w s=> ?_
 refine zVk rfl s kH fun a w s=> ?_
 refine zA rfl ?_
 refine zXP ?_
 refine zB 1 ((7,.u (wB (pO b6 0))):: []) hmix s kH
  (oc (zE (fun _ _ _ h=>h.1))<|zC) fun a w3 s=> ?_
 refine zGd (c:=3) (wC (fQN (mkRat k d))) (UF.any) rfl zD zNt s kH rfl rfl iiz (fun cs h1 h2=> ?_) fun a w s=> ?_
 ·exact (zE9 h1 h2 hm (hT.below s.gr.below)).mono fun e w' ⟨v,g1,_,g2⟩=>⟨v,g1,trivial,g2⟩
 refine zA rfl ?_
 refine zXP ?_
 replace s:=s.drop [2]
 refine zB 2 ((9,.s (wK b6 (cg (fQN (mkRat k d)))))::(2,.u (wB (pO b6 0))):: []) hmix s kH
  (oc zE<|oc (zF (fun _ _ _ h=>h.1))<|zC) fun a w4 s=> ?_
 refine zA rfl ?_
 refine zXQ ?_
 exact vP s (t:=2) (c:=3) rfl rfl rfl iiz
theorem zPd (hh:W.heap[b]?=some (.cells cs.toArray 127 (0,0))) (hc:QNp q (.agg cs.toArray) W) (hh':W.heap[b']?=some (.cells cs'.toArray 127 (0,0))) (hc':QNp q' (.agg cs'.toArray) W) (hne:b'≠b) (hq:QB q m) (hq':QB q' m') (hm:m+m'+1<=2000) (hT:Tab W):Calls prog 100 #[pO b 0,pO b' 0] W (zLb W b 127 (wC (fQN (q+q'))) SF.any):=by
 have bk:Bd (((q).num*((q').den:Int))+((q').num*((q).den:Int))) (m+m'+1):=hq.num_add hq'
 rw [Rat.add_def']
 refine zE7 b [(0,wB (pO b 0)),(1,wB (pO b' 0))] [⟨0,127,wC (fQN q),b,false⟩,⟨1,127,wC (fQN q'),b',true⟩] func100 rfl kH (fun x hx=>by simp at hx;rcases hx with rfl|rfl<;>exact ⟨by simp,rfl⟩) ⟨⟨cs,rfl,.inr (.inr rfl),hh,hc,zB9 (zID hc hq),fun y hy=>by simp at hy;subst hy;exact .inl hne⟩,⟨cs',rfl,.inl rfl,hh',hc',zB9 (zID hc' hq'),fun y hy=>by cases hy⟩,trivial⟩ (fun x hx=>by simp at hx;rcases hx with rfl|rfl<;>simp) fun a s=> ?_
 refine zXP ?_
 refine z7 [0,1,6,14,19] 32 ((4,.Z (wB (pO b 0)))::(5,.s (wK b (cg (fQN q))))::(6,.Y (fQN q))::(7,.X (fQN q) 0)::(8,.X (fQN q) 0)::(9,.Z (fNV ((q).num)))::(10,.s (wK b' (cg (fQN q'))))::(11,.Y (fQN q'))::(12,.X (fQN q') 0)::(13,.X (fQN q') 2)::(14,.Z (jF ((q').den)))::(15,.Z (fNV ((q').den:Int)))::(16,.s (zKZ (m+m') [(q).num,((q').den:Int)]))::(17,.Z (fNV ((q).num*((q').den:Int))))::(18,.s (wK b' (cg (fQN q'))))::(19,.Y (fQN q'))::(20,.X (fQN q') 0)::(21,.X (fQN q') 0)::(22,.Z (fNV ((q').num)))::(23,.s (wK b (cg (fQN q))))::(24,.Y (fQN q))::(25,.X (fQN q) 0)::(26,.X (fQN q) 2)::(27,.Z (jF ((q).den)))::(28,.Z (fNV ((q).den:Int)))::(29,.s (zKZ (m+m') [(q').num,((q).den:Int)]))::(30,.Z (fNV ((q').num*((q).den:Int))))::(31,.s (zKZ (m+m') [((q).num*((q').den:Int)),((q').num*((q).den:Int))]))::(32,.u (fNV (((q).num*((q').den:Int))+((q').num*((q).den:Int)))))::(33,.Z (wB (pO b 0)))::(34,.Z (wB (pO b 0)))::(35,.u (wB (pO b 0))):: []) hmix s kH
  (oc (zE (fun _ _ _ h=>h.1))<|oc zE<|oc (qF (C:=cg (fQN q)))<|oc (zL (C:=cg (fQN q)) 0 kH)<|oc (yW (C:=cg (fQN q)) 0 0 kH)<|oc (zR (C:=cg (fQN q)) (k:=0) 2 kH (h:=zBy))<|oc zE<|oc (qF (C:=cg (fQN q')))<|oc (zL (C:=cg (fQN q')) 0 kH)<|oc (yW (C:=cg (fQN q')) 0 2 kH)<|oc (jJ (C:=cg (fQN q')) (k:=2) kH (h:=zBc))<|oc (zJ zD zJ7 (fun u0 W hb (h0:qU W u0 ((q').den))=>zF8 h0))<|oc (yJ (fun u v W (hu:NV W u ((q).num)) (hv:NV W v ((q').den:Int))=>zBi (NV.uv' hu (Bd.mono (hq).1 (m':=(m+m')) (by first|omega|decide))) (NV.uv' hv (Bd.mono (jK hq'.2) (m':=(m+m')) (by first|omega|decide)))))<|oc (zJ zD zH5 (fun u0 W hb (h0:ISV W (m+m') u0 [(q).num,((q').den:Int)])=>zMG (k:=((q).num*((q').den:Int))) h0 (by show (m+m')*2+(m+m')+1<=40000;omega) fN fN))<|oc zE<|oc (qF (C:=cg (fQN q')))<|oc (zL (C:=cg (fQN q')) 0 kH)<|oc (yW (C:=cg (fQN q')) 0 0 kH)<|oc (zR (C:=cg (fQN q')) (k:=0) 2 kH (h:=zBy))<|oc zE<|oc (qF (C:=cg (fQN q)))<|oc (zL (C:=cg (fQN q)) 0 kH)<|oc (yW (C:=cg (fQN q)) 0 2 kH)<|oc (jJ (C:=cg (fQN q)) (k:=2) kH (h:=zBc))<|oc (zJ zD zJ7 (fun u0 W hb (h0:qU W u0 ((q).den))=>zF8 h0))<|oc (yJ (fun u v W (hu:NV W u ((q').num)) (hv:NV W v ((q).den:Int))=>zBi (NV.uv' hu (Bd.mono (hq').1 (m':=(m+m')) (by first|omega|decide))) (NV.uv' hv (Bd.mono (jK hq.2) (m':=(m+m')) (by first|omega|decide)))))<|oc (zJ zD zH5 (fun u0 W hb (h0:ISV W (m+m') u0 [(q').num,((q).den:Int)])=>zMG (k:=((q').num*((q).den:Int))) h0 (by show (m+m')*2+(m+m')+1<=40000;omega) fN fN))<|oc (yJ (fun u v W (hu:NV W u ((q).num*((q').den:Int))) (hv:NV W v ((q').num*((q).den:Int)))=>zBi (NV.uv' hu (Bd.mono (Bd.mul (hq).1 (jK hq'.2)) oO)) (NV.uv' hv (Bd.mono (Bd.mul (hq').1 (jK hq.2)) oO))))<|oc (zJ zD zUI (fun u0 W hb (h0:ISV W (m+m') u0 [((q).num*((q').den:Int)),((q').num*((q).den:Int))])=>zWx (k:=(((q).num*((q').den:Int))+((q').num*((q).den:Int)))) h0 oO fN fN))<|oc (j9 (a:=⟨b,0,none⟩) iiz)<|oc (qC (b:=b) (o:=0) 0 kH iiz)<|oc (qC (b:=b) (o:=0) 0 kH iiz)<|zC) fun Q' hQ a w1 s=> ?_
 refine jA (c:=0) (o:=0) (kk:=2) (wC (fQK (((q).num*((q').den:Int))+((q').num*((q).den:Int))) ((q).den))) ((fNV (((q).num*((q').den:Int))+((q').num*((q).den:Int)))).tS) rfl s kH rfl rfl iiz iiz (zIt (k0:=q.num) (d:=q.den)) fun a w s=> ?_
 refine zA rfl (hQ _ _ ?_)
 refine zXP ?_
 refine z7 [0,1,6] 15 ((36,.Z (wB (pO b 0)))::(37,.s (wK b (cg (fQK (((q).num*((q').den:Int))+((q').num*((q).den:Int))) ((q).den)))))::(38,.Y (fQK (((q).num*((q').den:Int))+((q').num*((q).den:Int))) ((q).den)))::(39,.X (fQK (((q).num*((q').den:Int))+((q').num*((q).den:Int))) ((q).den)) 0)::(40,.X (fQK (((q).num*((q').den:Int))+((q').num*((q).den:Int))) ((q).den)) 2)::(41,.Z (jF ((q).den)))::(42,.s (wK b' (cg (fQN q'))))::(43,.Y (fQN q'))::(44,.X (fQN q') 0)::(45,.X (fQN q') 2)::(46,.Z (jF ((q').den)))::(47,.u (jF (((q).den)*((q').den))))::(48,.Z (wB (pO b 0)))::(49,.Z (wB (pO b 0)))::(50,.u (wB (pO b 2))):: []) hmix s kH
  (oc (zE (fun _ _ _ h=>h.1))<|oc zE<|oc (qF (C:=cg (fQK (((q).num*((q').den:Int))+((q').num*((q).den:Int))) ((q).den))))<|oc (zL (C:=cg (fQK (((q).num*((q').den:Int))+((q').num*((q).den:Int))) ((q).den))) 0 kH)<|oc (yW (C:=cg (fQK (((q).num*((q').den:Int))+((q').num*((q).den:Int))) ((q).den))) 0 2 kH)<|oc (jJ (C:=cg (fQK (((q).num*((q').den:Int))+((q').num*((q).den:Int))) ((q).den))) (k:=2) kH (h:=zTK))<|oc zE<|oc (qF (C:=cg (fQN q')))<|oc (zL (C:=cg (fQN q')) 0 kH)<|oc (yW (C:=cg (fQN q')) 0 2 kH)<|oc (jJ (C:=cg (fQN q')) (k:=2) kH (h:=zBc))<|oc (zI zD zQZ (fun u0 u1 W hb (h0:qU W u0 ((q).den)) (h1:qU W u1 ((q').den))=>zTZ (LV.mono (qU.lv h0 hq.2) (m':=(m+m')) oO) (LV.mono (qU.lv h1 hq'.2) (m':=(m+m')) oO) oO))<|oc (j9 (a:=⟨b,0,none⟩) iiz)<|oc (qC (b:=b) (o:=0) 0 kH iiz)<|oc (qC (b:=b) (o:=0) 2 kH iiz)<|zC) fun Q' hQ a w2 s=> ?_
 refine jA (c:=0) (o:=2) (kk:=1) (wC (fQK (((q).num*((q').den:Int))+((q').num*((q).den:Int))) (((q).den)*((q').den)))) ((jF (((q).den)*((q').den))).tS) rfl s kH rfl rfl iiz iiz zLz fun a w s=> ?_
 refine zA rfl (hQ _ _ ?_)
 refine zB 1 ((51,.u (wB (pO b 0))):: []) hmix s kH
  (oc (zE (fun _ _ _ h=>h.1))<|zC) fun a w3 s=> ?_
 refine zGd (c:=0) (wC (fQN (mkRat (((q).num*((q').den:Int))+((q').num*((q).den:Int))) ((q).den*(q').den)))) (UF.any) rfl zD zNt s kH rfl rfl iiz (fun cs h1 h2=> ?_) fun a w s=> ?_
 ·exact (zE9 (m:=m+m'+1) h1 (zTJ h2 bk (zXZ (hq.den_mul hq') (zX2 qA oO))) oO (hT.bls hh (zIB (zID hc hq)) s.gr)).mono fun e w' ⟨v,g1,_,g2⟩=>⟨v,g1,trivial,g2⟩
 refine zA rfl ?_
 exact vD s (c:=0) (C:=wC (fQN (mkRat (((q).num*((q').den:Int))+((q').num*((q).den:Int))) ((q).den*(q').den)))) rfl rfl rfl rfl (fun _=>trivial)
theorem zPc (hh:W.heap[b]?=some (.cells cs.toArray 127 (0,0))) (hc:QNp q (.agg cs.toArray) W) (hh':W.heap[b']?=some (.cells cs'.toArray 127 (0,0))) (hc':QNp q' (.agg cs'.toArray) W) (hne:b'≠b) (hq:QB q m) (hq':QB q' m') (hm:m+m'+1<=2000) (hT:Tab W):Calls prog 130 #[pO b 0,pO b' 0] W (zLb W b 127 (wC (fQN (q*q'))) SF.any):=by
 have bk:Bd ((q).num*(q').num) (m+m'+1):=(hq.1.mul hq'.1).mono oO
 rw [Rat.mul_def']
 refine zE7 b [(0,wB (pO b 0)),(1,wB (pO b' 0))] [⟨0,127,wC (fQN q),b,false⟩,⟨1,127,wC (fQN q'),b',true⟩] func130 rfl kH (fun x hx=>by simp at hx;rcases hx with rfl|rfl<;>exact ⟨by simp,rfl⟩) ⟨⟨cs,rfl,.inr (.inr rfl),hh,hc,zB9 (zID hc hq),fun y hy=>by simp at hy;subst hy;exact .inl hne⟩,⟨cs',rfl,.inl rfl,hh',hc',zB9 (zID hc' hq'),fun y hy=>by cases hy⟩,trivial⟩ (fun x hx=>by simp at hx;rcases hx with rfl|rfl<;>simp) fun a s=> ?_
 refine zXP ?_
 refine z7 [0,1,2,7,14,19] 28 ((4,.Z (wB (pO b 0)))::(5,.u (wB (pO b 0)))::(6,.s (wK b (cg (fQN q))))::(7,.Y (fQN q))::(8,.X (fQN q) 0)::(9,.X (fQN q) 0)::(10,.Z (fNV ((q).num)))::(11,.s (wK b' (cg (fQN q'))))::(12,.Y (fQN q'))::(13,.X (fQN q') 0)::(14,.X (fQN q') 0)::(15,.Z (fNV ((q').num)))::(16,.s (zKZ (m+m') [(q).num,(q').num]))::(17,.u (fNV ((q).num*(q').num)))::(18,.s (wK b (cg (fQN q))))::(19,.Y (fQN q))::(20,.X (fQN q) 0)::(21,.X (fQN q) 2)::(22,.Z (jF ((q).den)))::(23,.s (wK b' (cg (fQN q'))))::(24,.Y (fQN q'))::(25,.X (fQN q') 0)::(26,.X (fQN q') 2)::(27,.Z (jF ((q').den)))::(28,.u (jF (((q).den)*((q').den))))::(29,.Z (wB (pO b 0)))::(30,.Z (wB (pO b 0)))::(31,.u (wB (pO b 0))):: []) hmix s kH
  (oc (zE (fun _ _ _ h=>h.1))<|oc (zE (fun _ _ _ h=>h.1))<|oc zE<|oc (qF (C:=cg (fQN q)))<|oc (zL (C:=cg (fQN q)) 0 kH)<|oc (yW (C:=cg (fQN q)) 0 0 kH)<|oc (zR (C:=cg (fQN q)) (k:=0) 2 kH (h:=zBy))<|oc zE<|oc (qF (C:=cg (fQN q')))<|oc (zL (C:=cg (fQN q')) 0 kH)<|oc (yW (C:=cg (fQN q')) 0 0 kH)<|oc (zR (C:=cg (fQN q')) (k:=0) 2 kH (h:=zBy))<|oc (yJ (fun u v W (hu:NV W u ((q).num)) (hv:NV W v ((q').num))=>zBi (NV.uv' hu (Bd.mono (hq).1 (m':=(m+m')) (by first|omega|decide))) (NV.uv' hv (Bd.mono (hq').1 (m':=(m+m')) (by first|omega|decide)))))<|oc (zJ zD zH5 (fun u0 W hb (h0:ISV W (m+m') u0 [(q).num,(q').num])=>zMG (k:=((q).num*(q').num)) h0 (by show (m+m')*2+(m+m')+1<=40000;omega) fN fN))<|oc zE<|oc (qF (C:=cg (fQN q)))<|oc (zL (C:=cg (fQN q)) 0 kH)<|oc (yW (C:=cg (fQN q)) 0 2 kH)<|oc (jJ (C:=cg (fQN q)) (k:=2) kH (h:=zBc))<|oc zE<|oc (qF (C:=cg (fQN q')))<|oc (zL (C:=cg (fQN q')) 0 kH)<|oc (yW (C:=cg (fQN q')) 0 2 kH)<|oc (jJ (C:=cg (fQN q')) (k:=2) kH (h:=zBc))<|oc (zI zD zQZ (fun u0 u1 W hb (h0:qU W u0 ((q).den)) (h1:qU W u1 ((q').den))=>zTZ (LV.mono (qU.lv h0 hq.2) (m':=(m+m')) oO) (LV.mono (qU.lv h1 hq'.2) (m':=(m+m')) oO) oO))<|oc (j9 (a:=⟨b,0,none⟩) iiz)<|oc (qC (b:=b) (o:=0) 0 kH iiz)<|oc (qC (b:=b) (o:=0) 0 kH iiz)<|zC) fun Q' hQ a w1 s=> ?_
 refine jA (c:=0) (o:=0) (kk:=2) (wC (fQK ((q).num*(q').num) ((q).den))) ((fNV ((q).num*(q').num)).tS) rfl s kH rfl rfl iiz iiz (zIt (k0:=q.num) (d:=q.den)) fun a w s=> ?_
 refine zAN (wB (pO b 0)) rfl s kH (j9 (a:=⟨b,0,none⟩) iiz) kH fun a w s=> ?_
 refine zAN (wB (pO b 0)) rfl s kH (qC (b:=b) (o:=0) 0 kH iiz) kH fun a w s=> ?_
 refine zAN (wB (pO b 2)) rfl s kH (qC (b:=b) (o:=0) 2 kH iiz) kH fun a w s=> ?_
 refine jA (c:=0) (o:=2) (kk:=1) (wC (fQK ((q).num*(q').num) (((q).den)*((q').den)))) ((jF (((q).den)*((q').den))).tS) rfl s kH rfl rfl iiz iiz zLz fun a w s=> ?_
 refine zA rfl (hQ _ _ ?_)
 refine zB 1 ((35,.u (wB (pO b 0))):: []) hmix s kH
  (oc (zE (fun _ _ _ h=>h.1))<|zC) fun a w2 s=> ?_
 refine zGd (c:=0) (wC (fQN (mkRat ((q).num*(q').num) ((q).den*(q').den)))) (UF.any) rfl zD zNt s kH rfl rfl iiz (fun cs h1 h2=> ?_) fun a w s=> ?_
 ·exact (zE9 (m:=m+m'+1) h1 (zTJ h2 bk (zXZ (hq.den_mul hq') (zX2 qA oO))) oO (hT.bls hh (zIB (zID hc hq)) s.gr)).mono fun e w' ⟨v,g1,_,g2⟩=>⟨v,g1,trivial,g2⟩
 refine zA rfl ?_
 exact vD s (c:=0) (C:=wC (fQN (mkRat ((q).num*(q').num) ((q).den*(q').den)))) rfl rfl rfl rfl (fun _=>trivial)
theorem zKC (h:RVp m q v W) (hm:m<=2000) (hT:Tab W):Calls prog 101 #[v] W (Ret W (wJ W 127 (wC (fQN q)))):=by
 obtain ⟨k,d,h1,rfl⟩:=h
 exact zVu h1 hm hT
theorem zD5 (h:RVp m q v W) (hm:m<=2000) (hm0:0<m) (hT:Tab W):Calls prog 81 #[v] W (Ret W (fQN q).tS):=by
 have hq:QB q m:=h.qb hm0
 refine z9 [(fRV m q).tS] func81 rfl kH ⟨h,trivial⟩ fun a s=> ?_
 refine zXP ?_
 refine zB 0 [] hmix s kH
  zC fun a w1 s=> ?_
 refine yK (wC (fRV m q)) rfl s kH (fun v W h=>jZ h) fun b1 a w s=> ?_
 refine zZ (CU.len 3) (cs:=zR3) kH rfl s kH (fun W=>rfl) rfl fun b2 a w s=> ?_
 refine zA rfl ?_
 refine zXP ?_
 refine zB 5 ((3,.Z (fRV m q))::(4,.s (wJ w 127 (wC (fQN q))))::(5,.Y (fQN q))::(6,.X (fQN q) 0)::(7,.u (fQN q)):: []) hmix s kH
  (oc (zK (f:=fRV m q) 3 kH (hz:=y5 _ _))<|oc (zJ zD zH6 (fun u0 W hb (h0:RVp m q u0 W)=>(zKC h0 oO (hT.below (s.up hb))).mono (wH (zCb hb.size))))<|oc (qF (C:=cg (fQN q)) zFV)<|oc (zL (C:=cg (fQN q)) 0 kH)<|oc (zR (C:=cg (fQN q)) (k:=0) 3 kH (h:=zJw))<|zC) fun a w2 s=> ?_
 refine zQ (wC (fQN q)) ((fQN q).tS) rfl s kH rfl rfl rfl iiz iiz yI fun a w s=> ?_
 refine zA rfl ?_
 refine zXQ ?_
 exact wI s (wC (fQN q)) rfl kH rfl rfl (qX _) (fun cs W h=>h)
theorem zRS (h:RVp m q v W) (hm:m<=2000) (hm0:0<m) (hT:Tab W):Calls prog 87 #[v] W (Ret W (fI q.num.sign).tS):=by
 have hq:QB q m:=h.qb hm0
 refine z9 [(fRV m q).tS] func87 rfl kH ⟨h,trivial⟩ fun a s=> ?_
 refine zXP ?_
 refine zB 0 [] hmix s kH
  zC fun a w1 s=> ?_
 refine yK (wC (fRV m q)) rfl s kH (fun v W h=>jZ h) fun b1 a w s=> ?_
 refine yR (uI 0) rfl s kH iiz fun a w s=> ?_
 refine zA rfl ?_
 refine zXP ?_
 replace s:=s.drop [2]
 refine zB 8 ((3,.Z (fRV m q))::(4,.s (wJ w 127 (wC (fQN q))))::(5,.Y (fQN q))::(6,.X (fQN q) 0)::(7,.X (fQN q) 0)::(8,.Z (fNV ((q).num)))::(9,.Z (uI (q.num.sign)))::(2,.u (uI (q.num.sign))):: []) hmix s kH
  (oc (zK (f:=fRV m q) 3 kH (hz:=y5 _ _))<|oc (zJ zD zH6 (fun u0 W hb (h0:RVp m q u0 W)=>(zKC h0 oO (hT.below (s.up hb))).mono (wH (zCb hb.size))))<|oc (qF (C:=cg (fQN q)) zFV)<|oc (zL (C:=cg (fQN q)) 0 kH)<|oc (yW (C:=cg (fQN q)) 0 0 kH)<|oc (zR (C:=cg (fQN q)) (k:=0) 2 kH (h:=zBy))<|oc (zJ zD zUL (fun u0 W hb (h0:NV W u0 ((q).num))=>zES (zTr (NV.uv' h0 (hq).1) oO)))<|oc zF<|zC) fun a w2 s=> ?_
 refine zA rfl ?_
 refine zXQ ?_
 exact wG s (t:=2) rfl iiz
theorem zB8 (h:RVp m q v W) (h':RVp m q' v' W) (hm:m<=2000) (hm0:0<m) (hT:Tab W):Calls prog 80 #[v,v'] W (Ret W (fI (qsg q q')).tS):=by
 have hq:QB q m:=h.qb hm0
 have hq':QB q' m:=h'.qb hm0
 refine z9 [(fRV m q).tS,(fRV m q').tS] func80 rfl kH ⟨h,h',trivial⟩ fun a s=> ?_
 refine zXP ?_
 refine zB 0 [] hmix s kH
  zC fun a w1 s=> ?_
 refine yK (wC (fRV m q)) rfl s kH (fun v W h=>jZ h) fun b2 a w s=> ?_
 refine yK (wC (fRV m q')) rfl s kH (fun v W h=>jZ h) fun b3 a w s=> ?_
 refine yR (uI 0) rfl s kH iiz fun a w s=> ?_
 refine zA rfl ?_
 refine zXP ?_
 have so:=s.old;have sg:=s.gr
 refine qV 6 ((7,.Z (fRV m q))::(8,.s (wJ w 127 (wC (fQN q))))::(9,.Z (fRV m q'))::(10,.s (wJ w 127 (wC (fQN q'))))::(5,.s (wJ w 127 (wC (fQN q))))::(6,.s (wJ w 127 (wC (fQN q')))):: []) hmix s kH
  (oc (zK (f:=fRV m q) 3 kH (hz:=y5 _ _))<|oc (zJ zD zH6 (fun u0 W hb (h0:RVp m q u0 W)=>(zKC h0 oO (hT.below (s.up hb))).mono (wH (zCb hb.size))))<|oc (zK (f:=fRV m q') 3 kH (hz:=y5 _ _))<|oc (zJ zD zH6 (fun u0 W hb (h0:RVp m q' u0 W)=>(zKC h0 oO (hT.below (s.up hb))).mono (wH (zCb hb.size))))<|oc zF<|oc zF<|zC) fun a w2 s hr=> ?_
 obtain ⟨b5,_,s⟩:=s.adopt true 5 (hr (_,_) mz4) sg (fun y hy=> .inl (so y hy))
 obtain ⟨b6,_,s⟩:=s.adopt true 6 (hr (_,_) mz5) sg (fun y hy=>by rcases zYr.1 hy with rfl|hy;exact .inr ⟨rfl,rfl⟩;exact .inl (so y hy))
 refine zA rfl ?_
 refine zXP ?_
 replace s:=s.drop [4]
 refine zB 28 ((11,.s (wK b5 (cg (fQN q))))::(12,.Y (fQN q))::(13,.X (fQN q) 0)::(14,.X (fQN q) 0)::(15,.Z (fNV ((q).num)))::(16,.s (wK b6 (cg (fQN q'))))::(17,.Y (fQN q'))::(18,.X (fQN q') 0)::(19,.X (fQN q') 2)::(20,.Z (jF ((q').den)))::(21,.Z (fNV ((q').den:Int)))::(22,.s (zKZ (m+m) [(q).num,((q').den:Int)]))::(23,.Z (fNV ((q).num*((q').den:Int))))::(24,.s (wK b6 (cg (fQN q'))))::(25,.Y (fQN q'))::(26,.X (fQN q') 0)::(27,.X (fQN q') 0)::(28,.Z (fNV ((q').num)))::(29,.s (wK b5 (cg (fQN q))))::(30,.Y (fQN q))::(31,.X (fQN q) 0)::(32,.X (fQN q) 2)::(33,.Z (jF ((q).den)))::(34,.Z (fNV ((q).den:Int)))::(35,.s (zKZ (m+m) [(q').num,((q).den:Int)]))::(36,.Z (fNV ((q').num*((q).den:Int))))::(37,.Z (uI (qsg q q')))::(4,.u (uI (qsg q q'))):: []) hmix s kH
  (oc zE<|oc (qF (C:=cg (fQN q)))<|oc (zL (C:=cg (fQN q)) 0 kH)<|oc (yW (C:=cg (fQN q)) 0 0 kH)<|oc (zR (C:=cg (fQN q)) (k:=0) 2 kH (h:=zBy))<|oc zE<|oc (qF (C:=cg (fQN q')))<|oc (zL (C:=cg (fQN q')) 0 kH)<|oc (yW (C:=cg (fQN q')) 0 2 kH)<|oc (jJ (C:=cg (fQN q')) (k:=2) kH (h:=zBc))<|oc (zJ zD zJ7 (fun u0 W hb (h0:qU W u0 ((q').den))=>zF8 h0))<|oc (yJ (fun u v W (hu:NV W u ((q).num)) (hv:NV W v ((q').den:Int))=>zBi (NV.uv' hu (Bd.mono (hq).1 (m':=(m+m)) (by first|omega|decide))) (NV.uv' hv (Bd.mono (jK hq'.2) (m':=(m+m)) (by first|omega|decide)))))<|oc (zJ zD zH5 (fun u0 W hb (h0:ISV W (m+m) u0 [(q).num,((q').den:Int)])=>zMG (k:=((q).num*((q').den:Int))) h0 (by show (m+m)*2+(m+m)+1<=40000;omega) fN fN))<|oc zE<|oc (qF (C:=cg (fQN q')))<|oc (zL (C:=cg (fQN q')) 0 kH)<|oc (yW (C:=cg (fQN q')) 0 0 kH)<|oc (zR (C:=cg (fQN q')) (k:=0) 2 kH (h:=zBy))<|oc zE<|oc (qF (C:=cg (fQN q)))<|oc (zL (C:=cg (fQN q)) 0 kH)<|oc (yW (C:=cg (fQN q)) 0 2 kH)<|oc (jJ (C:=cg (fQN q)) (k:=2) kH (h:=zBc))<|oc (zJ zD zJ7 (fun u0 W hb (h0:qU W u0 ((q).den))=>zF8 h0))<|oc (yJ (fun u v W (hu:NV W u ((q').num)) (hv:NV W v ((q).den:Int))=>zBi (NV.uv' hu (Bd.mono (hq').1 (m':=(m+m)) (by first|omega|decide))) (NV.uv' hv (Bd.mono (jK hq.2) (m':=(m+m)) (by first|omega|decide)))))<|oc (zJ zD zH5 (fun u0 W hb (h0:ISV W (m+m) u0 [(q').num,((q).den:Int)])=>zMG (k:=((q').num*((q).den:Int))) h0 (by show (m+m)*2+(m+m)+1<=40000;omega) fN fN))<|oc (zI zD zUO (fun u0 u1 W hb (h0:NV W u0 ((q).num*((q').den:Int))) (h1:NV W u1 ((q').num*((q).den:Int)))=>zES (zWt (NV.uv' h0 (Bd.mul (hq).1 (jK hq'.2))) (NV.uv' h1 (Bd.mul (hq').1 (jK hq.2))) oO)))<|oc zF<|zC) fun a w3 s=> ?_
 refine zA rfl ?_
 refine zXQ ?_
 exact wG s (t:=4) rfl iiz
theorem zTA (h:RVp m q v W) (hm:m<=2000) (hm0:0<m) (hT:Tab W):Calls prog 97 #[v] W (Ret W (fQN (-q)).tS):=by
 have hq:QB q m:=h.qb hm0
 refine z9 [(fRV m q).tS] func97 rfl kH ⟨h,trivial⟩ fun a s=> ?_
 refine zXP ?_
 refine zB 0 [] hmix s kH
  zC fun a w1 s=> ?_
 refine yK (wC (fRV m q)) rfl s kH (fun v W h=>jZ h) fun b1 a w s=> ?_
 refine zZ (CU.len 3) (cs:=zR3) kH rfl s kH (fun W=>rfl) rfl fun b2 a w s=> ?_
 refine zA rfl ?_
 refine zXP ?_
 have so:=s.old;have sg:=s.gr
 refine qV 3 ((4,.Z (fRV m q))::(5,.s (wJ w 127 (wC (fQN q))))::(3,.s (wJ w 127 (wC (fQN q)))):: []) hmix s kH
  (oc (zK (f:=fRV m q) 3 kH (hz:=y5 _ _))<|oc (zJ zD zH6 (fun u0 W hb (h0:RVp m q u0 W)=>(zKC h0 oO (hT.below (s.up hb))).mono (wH (zCb hb.size))))<|oc zF<|zC) fun a w2 s hr=> ?_
 obtain ⟨b3,_,s⟩:=s.adopt false 3 (hr (_,_) mz2) sg (fun y hy=> .inl (so y hy))
 refine zA rfl ?_
 refine zXP ?_
 refine zB 10 ((6,.Z (wB (pO b3 0)))::(7,.s (wK b3 (cg (fQN q))))::(8,.Y (fQN q))::(9,.X (fQN q) 0)::(10,.X (fQN q) 0)::(11,.Z (fNV ((q).num)))::(12,.u (fNV (-(q).num)))::(13,.Z (wB (pO b3 0)))::(14,.Z (wB (pO b3 0)))::(15,.u (wB (pO b3 0))):: []) hmix s kH
  (oc (zE (fun _ _ _ h=>h.1))<|oc zE<|oc (qF (C:=cg (fQN q)))<|oc (zL (C:=cg (fQN q)) 0 kH)<|oc (yW (C:=cg (fQN q)) 0 0 kH)<|oc (zR (C:=cg (fQN q)) (k:=0) 2 kH (h:=zBy))<|oc (zJ zD zUK (fun u0 W hb (h0:NV W u0 ((q).num))=>zVG (NV.uv' h0 (hq).1) oO))<|oc (j9 (a:=⟨b3,0,none⟩) iiz)<|oc (qC (b:=b3) (o:=0) 0 kH iiz)<|oc (qC (b:=b3) (o:=0) 0 kH iiz)<|zC) fun a w3 s=> ?_
 refine jA (c:=3) (o:=0) (kk:=2) (wC (fQN (-q))) ((fNV (-(q).num)).tS) rfl s kH rfl rfl iiz iiz (zIt (k0:=q.num) (d:=q.den)) fun a w s=> ?_
 refine zA rfl ?_
 refine zXP ?_
 refine zB 4 ((16,.s (wK b3 (cg (fQN (-q)))))::(17,.Y (fQN (-q)))::(18,.X (fQN (-q)) 0)::(19,.u (fQN (-q))):: []) hmix s kH
  (oc zE<|oc (qF (C:=cg (fQN (-q))))<|oc (zL (C:=cg (fQN (-q))) 0 kH)<|oc (zR (C:=cg (fQN (-q))) (k:=0) 3 kH (h:=zJw))<|zC) fun a w4 s=> ?_
 refine zQ (wC (fQN (-q))) ((fQN (-q)).tS) rfl s kH rfl rfl rfl iiz iiz yI fun a w s=> ?_
 refine zA rfl ?_
 refine zXQ ?_
 exact wI s (wC (fQN (-q))) rfl kH rfl rfl (qX _) (fun cs W h=>h)
attribute [local go_sem] Oper.semAt_some qI yG
structure QRd (m:Nat) (w:World) (A:Option Addr) (n:Nat) (qs:List Rat):Prop where
 len:qs.length=n
 cells: ∀i,i<n-> ∃b o c0 c1 c2 q,A=some ⟨b,o,none⟩/\w.cell? ⟨b,o+i*3,none⟩=some c0/\w.cell? ⟨b,o+i*3+1,none⟩=some c1/\w.cell? ⟨b,o+i*3+2,none⟩=some c2/\qs[i]?=some q/\RVp m q (.agg #[c0,c1,c2]) w
theorem RVp.keep (h:RVp m q v w) (hk: ∀p:Addr,p.block<w.heap.size->w'.cell? p=w.cell? p):RVp m q v w':=by
 obtain ⟨k,d,⟨b,s,t,e,⟨sg,A,n,c,l,e1,h1,h2⟩,A',n',c',l',e2,h1',h2'⟩,h3⟩:=h
 exact ⟨k,d,⟨b,s,t,e,⟨sg,A,n,c,l,e1,h1.keep hk,h2⟩,A',n',c',l',e2,h1'.keep hk,h2'⟩,h3⟩
theorem QRd.keep (h:QRd m w A n qs) (hk: ∀p:Addr,p.block<w.heap.size->w'.cell? p=w.cell? p):QRd m w' A n qs:=
 ⟨h.len,fun i hi=>by
  obtain ⟨b,o,c0,c1,c2,q,e,g0,g1,g2,h1,h2⟩:=h.cells i hi
  exact ⟨b,o,c0,c1,c2,q,e,(hk _ (zYs w _ g0)).trans g0,(hk _ (zYs w _ g1)).trans g1,(hk _ (zYs w _ g2)).trans g2,h1,h2.keep hk⟩⟩
theorem QRd.below (h:QRd m w A n qs) (hb:bW w w'):QRd m w' A n qs:=h.keep fun _ hp=>hb.cell hp
theorem RVp.below (h:RVp m q v w) (hb:bW w w'):RVp m q v w':=h.keep fun _ hp=>hb.cell hp
def qAt (qs:List Rat) (k:Nat):Rat:=(qs[k]?).getD 0
def zRm (W:Wi) (B:Nat) (q:Rat):Prop:= ∃cs:List Wj,W.heap[B]?=some (.cells cs.toArray 127 (0,0))/\QNp q (.agg cs.toArray) W
theorem QNp.keepU (h:QNp q v w) (hk:jN w w'):QNp q v w':=(fQN q).us _ _ _ h hk
def zXq (N0:Nat) (qs:List Rat) (k:Nat) (xs:Array Wj) (W:Wi):Prop:= ∃B,xs=#[pO B 0]/\N0<=B/\zRm W B (qAt qs k)
theorem zJy (A:Wl Addr) (n c:Nat) (w:Wi):
  Calls prog 99 #[.slice A n c] w fun e w'=>e= .returned (.func (.func 119) #[] #[pO w.heap.size 0])/\w'=w.alloc (.cells #[.slice A n c] 55):=by
 go_enter func99,ntmps99
 go_wp2
 go_ret
 exact ⟨rfl,rfl⟩
theorem zVv {c0 c1 c2:Wj} (h:RVp m q (.agg #[c0,c1,c2]) W) (hm:m<=2000) (hT:Tab W):Calls prog 101 #[.agg #[c0,c1,c2]] W fun e w'=> ∃B,e= .returned (pO B 0)/\W.heap.size<=B/\zRm w' B q/\bW W w':=
 (zKC h hm hT).mono fun _ _ ⟨_,e1,⟨B,cs,e2,h1,h2,h3,_⟩,hb⟩=>⟨B,by rw [e1,e2],h1,⟨cs,h2,h3⟩,hb⟩
theorem zFS (m:Nat) (hm:m<=2000) (A:Wl Addr) (n c:Nat) (qs:List Rat) (b1:Nat) (w w0:Wi) (h:QRd m w A n qs) (hT:Tab w) (hw0:bW w w0) (hn:n<=c) (hc:c<=9223372036854775807)
  (hc1:w0.cell? ⟨b1,0,none⟩=some (.slice A n c)) {S:Nat->Prop} (hS: ∀b,S b->b<w0.heap.size) (_hS1:S b1) (hSA: ∀b,b<w.heap.size->S b):
  zP3 prog 119 #[pO b1 0] (zXq w0.heap.size qs) n (zFA S) Mk (fun _=>True) w0:=by
 intro lp J W hW hJ hY h0
 have hl1:=z4 hc1
 have hw1:=(hW.cell (p:=⟨b1,0,none⟩) hl1).trans hc1
 refine zBF func119 rfl ?_
 simp only [ntmps119,zYt,zYu,zYv,Nat.reduceAdd,Nat.reduceSub,zYw,zYx,zYy,zYz,zX4,zYA]
 gi_wp2
 gi_loopw [7] (fun i wr=> ∃k:Nat,k<=n/\i= .int .i64 k/\J k wr/\y6 S w0 wr/\w0.heap.size<=wr.heap.size) (fun i _=>n - (intOf i).toNat)
 case atStart=>exact ⟨0,zXU _,rfl,h0,wT hW hS,hW.size⟩
 case round=>
  obtain ⟨k,hk,rfl,hj,hb,hz⟩:=hrel
  by_cases hkn:k<n
  ·have hkeep: ∀p:Addr,p.block<w.heap.size->wr.cell? p=w.cell? p:=fun p hp=>(hb.cell (hSA _ hp)).trans (hw0.cell hp)
   obtain ⟨b,o,c0,c1,c2,q,rfl,p0,p1,p2,hi,hr⟩:=(h.keep (w':=wr) hkeep).cells k hkn
   have hTr:Tab wr:=fun j hj=>(hkeep ⟨0,j,none⟩ (z4 (hT j hj))).trans (hT j hj)
   have hid1:qAt qs k=q:=by simp [qAt,hi]
   have hjk:=hJ k wr
   have hHI:=hid hi
   clear hi
   obtain ⟨sg,A1,n1,d1,A2,n2,d2,rfl,rfl,rfl⟩: ∃sg A1 n1 d1 A2 n2 d2,c0= .bool sg/\c1= .slice A1 n1 d1/\c2= .slice A2 n2 d2:=by
    obtain ⟨k',d',hq,_⟩:=hr
    obtain ⟨sg,A1,n1,d1,A2,n2,d2,e⟩:=zBM hq
    have:=zX5 Array.toList (jL e)
    simp at this
    exact ⟨sg,A1,n1,d1,A2,n2,d2,this.1,this.2.1,this.2.2⟩
   gi_wp2_with (first|(gi_at_call 101;refine CallsIn.mono (callsIn_wide.2 (zVv (hr.below (zCP _ _)) hm (hTr.below (zCP _ _)))) ?_;rintro e w2 ⟨B2,rfl,hB2,hn2,hb2⟩;have hmk:Mk wr w2:=((zXV _ wr).alloc lr _).trans (hb2.mono fN);obtain ⟨fn,tmps,assign,body,hy,hR⟩:=hY k w2 #[pO B2 0] hkn (hjk _ hj hmk) ⟨B2,rfl,zXY hz (zXY fN hB2),by rw [hid1];exact hn2⟩)|(refine hR.mono ?_;rintro e W3 ⟨rfl,hJ3,hk3⟩))
   refine ⟨⟨k+1,by omega,rfl,hJ3,(hb.trans (wT hmk fun b hb=>zXZ (hS b hb) hz)).trans hk3.1,zXY hz (zXY hmk.size hk3.2)⟩, ?_⟩
   simp [intOf]
   omega
  ·obtain rfl:k=n:=by omega
   gi_wp2
   go_end0
   exact ⟨⟨_,rfl⟩,hj,trivial⟩
def zDp (qs:List Rat):Nat->Rat
 |0=>0
 |k+1=>zDp qs k+qAt qs k
def jG (qs:List Rat):Nat->Rat
 |0=>1
 |k+1=>jG qs k*qAt qs k
def zS1 (w:Wi) (B0 P:Nat) (f:Nat->Rat) (k:Nat) (W:Wi):Prop:=
 zRm W B0 (f k)/\Boxed W P 125 (pO B0 0)/\jE W w.heap.size 28 #[.bool false, sN, sN]/\bW w W/\P+2<=W.heap.size/\w.heap.size<B0
theorem zRm.abide {W':Wi} {C:Nat} {row:Wl Nat} (h:zRm W B q) (hg:W.grownBy W' row) (hr: ∀r,row=some r->C<=r/\ ∃o,W.heap[r]?=some o/\o.isCells=false):zRm W' B q:=by
 obtain ⟨cs,h1,h2⟩:=h
 have hk:jN W W':=fun p x hp=>zF2 hp hg hr
 refine ⟨cs,(hg.block _ (Array.getElem?_eq_some_iff.1 h1).1 fun e=> ?_).trans h1,h2.keepU hk⟩
 obtain ⟨_,o,ho,hc⟩:=hr _ e.symm
 rw [h1] at ho
 cases ho
 cases hc
theorem zDv (w:Wi) (B0 P:Nat) (f:Nat->Rat) {C:Nat} (hC:w.heap.size<=C):OwnFrom C (zS1 w B0 P f):=by
 rintro k W W' row ⟨h1,h2,h3,h4,h5,h6⟩ hg hr
 exact ⟨h1.abide hg hr,qW h2 hg hr,h3.abide hg hr,zAs h4 hg lr hC hr,zXY h5 hg.size,h6⟩
theorem zOG (m M:Nat) (A:Wl Addr) (n c:Nat) (qs:List Rat) (w:Wi) (h:QRd m w A n qs) (hn:n<=c) (hc:c<=9223372036854775807) (hm:m<=2000) (hm0:0<m) (hM:M+m+1<=2000) (hp: ∀k,k<=n->QB (zDp qs k) M) (hT:Tab w):
  Calls prog 77 #[.slice A n c] w (Ret w (fQN (zDp qs n)).tS):=by
 refine jD func77 rfl ?_
 simp only [ntmps77,zYt,zYu,zYv,Nat.reduceAdd,Nat.reduceSub,zYw,zYx,zYy,zYz,zX4,zYA]
 go_wp2_with (first|(go_at_call 73;refine (zOB 0 dA).mono ?_;rintro e w1 ⟨v1,rfl,hv1,hb1⟩;obtain ⟨A1,n1,c1,A2,n2,c2,rfl⟩:=zCC hv1)|(go_at_call 99;refine (zJy A n c _).mono ?_;rintro e w3 ⟨rfl,rfl⟩))
 have hv2:QNp 0 (.agg #[.bool false,.slice A1 n1 c1,.slice A2 n2 c2]) w1:=hv1
 obtain ⟨W0,hW0⟩: ∃W0,(((w1.alloc (.cells #[.bool false,.slice A1 n1 c1,.slice A2 n2 c2] 127)).alloc (.cells #[pO w1.heap.size 0] 125)).alloc (.cells #[.slice A n c] 55))=W0:=⟨_,rfl⟩
 have hsz:W0.heap.size=w1.heap.size+3:=by rw [<-hW0];simp
 have hbw1:bW w w1:=((zXV _ w).alloc lr _).trans (hb1.mono fN)
 have hsz1:w.heap.size<w1.heap.size:=zXZ fN hb1.size
 have hb01:bW w1 W0:=by rw [<-hW0];exact (((zXV _ w1).alloc lr _).alloc fN _).alloc (by simp;omega) _
 have hB1:bW w W0:=hbw1.trans (hb01.mono hbw1.size)
 have x0:zRm W0 w1.heap.size 0:=⟨[_,_,_],(by rw [<-hW0];exact ((jE.new w1 _ #[.bool false,.slice A1 n1 c1,.slice A2 n2 c2]).alloc _).alloc _),hv2.keepU (zV hb01)⟩
 have x1:Boxed W0 (w1.heap.size+1) 125 (pO w1.heap.size 0):=by rw [<-hW0];exact (zAz _ _ _ fN).alloc _
 have x2:Boxed W0 (w1.heap.size+1+1) 55 (.slice A n c):=by rw [<-hW0];exact zAz _ _ _ fN
 have x3:jE W0 w.heap.size 28 #[.bool false, sN, sN]:=(jE.kept (jE.kept (jE.new w _ _) hb1) hb01)
 rw [hW0]
 clear hW0
 have hSb: ∀b,(b<w.heap.size∨b=w1.heap.size+1+1)->b<W0.heap.size:=fun b hb=>by have:=hbw1.size;omega
 refine zCs (gf:=119) rfl (enters_of func119 kH rfl) (zFS m hm A n c qs (w1.heap.size+1+1) w W0 h hT hB1 hn hc x2.cell (S:=fun b=>b<w.heap.size∨b=w1.heap.size+1+1) hSb (.inr rfl) (fun b hb=> .inl hb)) ?hE ?hps zFA.trans (zGJ hSb)
  (zS1 w w1.heap.size (w1.heap.size+1) (zDp qs)) (zDv w _ _ _ hB1.size) (zBG (zDv w _ _ _ lr)) wS (fun _ _ _ _ _ _ _ _=>trivial) ⟨x0,x1,x3,hB1,by omega,hsz1⟩
  (fun xs=>{ tmps:=#[.slice A n c,undef,pO w.heap.size 0,.pointer (some ⟨w1.heap.size+1,0,none⟩),xs.getD 0 undef,.agg #[.bool false,.slice A1 n1 c1,.slice A2 n2 c2],.agg #[.bool false,.slice A1 n1 c1,.slice A2 n2 c2],pO w1.heap.size 0,.slice A n c,.func (.func 119) #[] #[.pointer (some ⟨w1.heap.size+1+1,0,none⟩)],xs.getD 0 undef,undef,undef,undef,undef,undef,undef,undef],defers:= [] }) ?assign ?body ?done
 case hE=>
  rintro k xs W l o o' ⟨B,rfl,h1,h2⟩ ho hc
  exact ⟨B,rfl,h1,h2.abide (C:=0) (grownBy_putObj' W l o') (fun r e=>by cases e;exact ⟨zXU _,o,ho,hc⟩)⟩
 case hps=>
  rintro k xs W ⟨B,rfl,_⟩
  rfl
 case assign=>
  rintro lp k xs W K ⟨B,rfl,h1,h2⟩ hK
  gi_wp2
  exact hK
 case body=>
  rintro lp k xs W hk ⟨h1,h2,h3,h4,h5,h6⟩ ⟨B,rfl,hB,hnb⟩
  have hc2:=h2.cell
  have hne:B≠w1.heap.size:=by omega
  have hbd:=hp k (zYf hk)
  have hbd2:QB (qAt qs k) m:=by
   obtain ⟨_,_,_,_,_,q,_,_,_,_,e,hr⟩:=h.cells k hk
   rw [show qAt qs k=q from by simp [qAt,e]]
   exact hr.qb hm0
  have hTW:Tab W:=hT.below h4
  gi_wp2_with (gi_at_call 100;refine CallsIn.mono (callsIn_wide.2 (by
   obtain ⟨cs,g1,g2⟩:=h1
   obtain ⟨cs',g1',g2'⟩:=hnb
   exact zPd g1 g2 g1' g2' hne hbd hbd2 oO hTW)) ?_;rintro e w3 ⟨u,rfl,_,hg3,cs3,hh3,hc3,_⟩)
  refine ⟨(KeepsOthers.of_grownBy hg3 (fun j o e ho=>by cases e;obtain ⟨cs,g1,_⟩:=h1;rw [g1] at ho;cases ho;rfl)).from _,⟨(y6.refl _ _).grown hg3 (fun b hb=>⟨by have:=h4.size;rcases hb with hb|hb<;>omega,fun e=>by have:=zX8 e;omega⟩),hg3.size⟩,⟨cs3,hh3,hc3⟩,h2.kept hg3 (fun e=>by have:=zX8 e;omega),(hg3.block _ h3.lt (fun e=>by have:=zX8 e;omega)).trans h3,zAV h4 hg3 h4.size oO,zXY h5 hg3.size,h6⟩
 case done=>
  rintro D W hD ⟨h1,h2,h3,h4,h5,h6⟩ _ hd
  obtain ⟨cs,hh,hq⟩:=h1
  obtain ⟨A3,n3,c3,A4,n4,c4,ecs⟩:=zCC hq
  have ecs:=zX5 Array.toList (jL ecs)
  simp at ecs
  subst ecs
  obtain ⟨g0,g1,g2⟩:W.cell? ⟨w1.heap.size,0,none⟩=some (.bool (decide ((zDp qs n).num<0)))/\W.cell? ⟨w1.heap.size,0+1,none⟩=some (.slice A3 n3 c3)/\W.cell? ⟨w1.heap.size,0+2,none⟩=some (.slice A4 n4 c4):=⟨zA7 hh 0 _ rfl,zA7 hh 1 _ rfl,zA7 hh 2 _ rfl⟩
  simp only [Nat.zero_add] at g1 g2
  have hc2:=h2.cell
  have q0:W.cell? ⟨w.heap.size,0,none⟩=some (.bool false):=h3.cell 0
  have q1:W.cell? ⟨w.heap.size,1,none⟩=some (sN):=h3.cell 1
  have q2:W.cell? ⟨w.heap.size,2,none⟩=some (sN):=h3.cell 2
  have q3:=h3.frozen 0;have q4:=h3.frozen 1;have q5:=h3.frozen 2
  go_wp2
  have hb5:jE (((W.setCell ⟨w.heap.size,0,none⟩ (.bool (decide ((zDp qs n).num<0)))).setCell ⟨w.heap.size,1,none⟩ (.slice A3 n3 c3)).setCell ⟨w.heap.size,2,none⟩ (.slice A4 n4 c4)) w.heap.size 28 #[.bool (decide ((zDp qs n).num<0)),.slice A3 n3 c3,.slice A4 n4 c4]:=((h3.set 0 _).set 1 _).set 2 _
  have hM2:Marks w.heap.size (((W.setCell ⟨w.heap.size,0,none⟩ (.bool (decide ((zDp qs n).num<0)))).setCell ⟨w.heap.size,1,none⟩ (.slice A3 n3 c3)).setCell ⟨w.heap.size,2,none⟩ (.slice A4 n4 c4)) [mark D] [D]:=((Marks.nil w.heap.size W).more (D:=D) fN (by have:=hB1.size;omega) hd).others (((zX9 _ _ _).trans (zX9 _ _ _)).trans (zX9 _ _ _))
  have hrow: ∀(W':Wi) (i:Nat) (v u:Wj),W'.cell? ⟨w.heap.size,i,none⟩=some u->yA u=true->jN W' (W'.setCell ⟨w.heap.size,i,none⟩ v):=fun W' i v u hu hn p x hp=>(World.cell?_setCell_other _ _ _ _ (fun e=>by rw [<-e] at hp;rw [hu] at hp;cases hp;cases hn)).trans hp
  have hk3:jN W (((W.setCell ⟨w.heap.size,0,none⟩ (.bool (decide ((zDp qs n).num<0)))).setCell ⟨w.heap.size,1,none⟩ (.slice A3 n3 c3)).setCell ⟨w.heap.size,2,none⟩ (.slice A4 n4 c4)):=((hrow _ _ _ _ q0 rfl).trans (hrow _ _ _ _ ((h3.set 0 _).cell 1) rfl)).trans (hrow _ _ _ _ (((h3.set 0 _).set 1 _).cell 2) rfl)
  have hq3:=hq.keepU hk3
  have hb3:bW w (((W.setCell ⟨w.heap.size,0,none⟩ (.bool (decide ((zDp qs n).num<0)))).setCell ⟨w.heap.size,1,none⟩ (.slice A3 n3 c3)).setCell ⟨w.heap.size,2,none⟩ (.slice A4 n4 c4)):=((h4.setCell lr _).setCell lr _).setCell lr _
  generalize ((W.setCell ⟨w.heap.size,0,none⟩ (.bool (decide ((zDp qs n).num<0)))).setCell ⟨w.heap.size,1,none⟩ (.slice A3 n3 c3)).setCell ⟨w.heap.size,2,none⟩ (.slice A4 n4 c4)=W9 at*
  refine qG _ (v:= .agg #[.bool (decide ((zDp qs n).num<0)),.slice A3 n3 c3,.slice A4 n4 c4]) (fun w' ho'=> ?_) [D] _ _ hM2 (Oth.refl _ _) ?_
  ·have h7:=hb5.oth ho'
   have:=zGk (P:=prog) (w:=w') (t:=28) (k:=3) kH (vs:= [.bool (decide ((zDp qs n).num<0)),.slice A3 n3 c3,.slice A4 n4 c4]) rfl h7
   simp [results,results77,asAddr,this]
  ·intro w' ho
   exact ⟨_,rfl,hq3.keepU (fun p x hp=>(ho.cell p).trans hp),zAg hb3 ho lr⟩
theorem zOF (m M:Nat) (A:Wl Addr) (n c:Nat) (qs:List Rat) (w:Wi) (h:QRd m w A n qs) (hn:n<=c) (hc:c<=9223372036854775807) (hm:m<=2000) (hm0:0<m) (hM:M+m+1<=2000) (hp: ∀k,k<=n->QB (jG qs k) M) (hT:Tab w):
  Calls prog 109 #[.slice A n c] w (Ret w (fQN (jG qs n)).tS):=by
 refine jD func109 rfl ?_
 simp only [ntmps109,zYt,zYu,zYv,Nat.reduceAdd,Nat.reduceSub,zYw,zYx,zYy,zYz,zX4,zYA]
 go_wp2_with (first|(go_at_call 73;refine (zOB 1 dA).mono ?_;rintro e w1 ⟨v1,rfl,hv1,hb1⟩;obtain ⟨A1,n1,c1,A2,n2,c2,rfl⟩:=zCC hv1)|(go_at_call 99;refine (zJy A n c _).mono ?_;rintro e w3 ⟨rfl,rfl⟩))
 have hv2:QNp 1 (.agg #[.bool false,.slice A1 n1 c1,.slice A2 n2 c2]) w1:=hv1
 obtain ⟨W0,hW0⟩: ∃W0,(((w1.alloc (.cells #[.bool false,.slice A1 n1 c1,.slice A2 n2 c2] 127)).alloc (.cells #[pO w1.heap.size 0] 125)).alloc (.cells #[.slice A n c] 55))=W0:=⟨_,rfl⟩
 have hsz:W0.heap.size=w1.heap.size+3:=by rw [<-hW0];simp
 have hbw1:bW w w1:=((zXV _ w).alloc lr _).trans (hb1.mono fN)
 have hsz1:w.heap.size<w1.heap.size:=zXZ fN hb1.size
 have hb01:bW w1 W0:=by rw [<-hW0];exact (((zXV _ w1).alloc lr _).alloc fN _).alloc (by simp;omega) _
 have hB1:bW w W0:=hbw1.trans (hb01.mono hbw1.size)
 have x0:zRm W0 w1.heap.size 1:=⟨[_,_,_],(by rw [<-hW0];exact ((jE.new w1 _ #[.bool false,.slice A1 n1 c1,.slice A2 n2 c2]).alloc _).alloc _),hv2.keepU (zV hb01)⟩
 have x1:Boxed W0 (w1.heap.size+1) 125 (pO w1.heap.size 0):=by rw [<-hW0];exact (zAz _ _ _ fN).alloc _
 have x2:Boxed W0 (w1.heap.size+1+1) 55 (.slice A n c):=by rw [<-hW0];exact zAz _ _ _ fN
 have x3:jE W0 w.heap.size 28 #[.bool false, sN, sN]:=(jE.kept (jE.kept (jE.new w _ _) hb1) hb01)
 rw [hW0]
 clear hW0
 have hSb: ∀b,(b<w.heap.size∨b=w1.heap.size+1+1)->b<W0.heap.size:=fun b hb=>by have:=hbw1.size;omega
 refine zCs (gf:=119) rfl (enters_of func119 kH rfl) (zFS m hm A n c qs (w1.heap.size+1+1) w W0 h hT hB1 hn hc x2.cell (S:=fun b=>b<w.heap.size∨b=w1.heap.size+1+1) hSb (.inr rfl) (fun b hb=> .inl hb)) ?hE ?hps zFA.trans (zGJ hSb)
  (zS1 w w1.heap.size (w1.heap.size+1) (jG qs)) (zDv w _ _ _ hB1.size) (zBG (zDv w _ _ _ lr)) wS (fun _ _ _ _ _ _ _ _=>trivial) ⟨x0,x1,x3,hB1,by omega,hsz1⟩
  (fun xs=>{ tmps:=#[.slice A n c,undef,pO w.heap.size 0,.pointer (some ⟨w1.heap.size+1,0,none⟩),xs.getD 0 undef,.agg #[.bool false,.slice A1 n1 c1,.slice A2 n2 c2],.agg #[.bool false,.slice A1 n1 c1,.slice A2 n2 c2],pO w1.heap.size 0,.slice A n c,.func (.func 119) #[] #[.pointer (some ⟨w1.heap.size+1+1,0,none⟩)],xs.getD 0 undef,undef,undef,undef,undef,undef,undef,undef],defers:= [] }) ?assign ?body ?done
 case hE=>
  rintro k xs W l o o' ⟨B,rfl,h1,h2⟩ ho hc
  exact ⟨B,rfl,h1,h2.abide (C:=0) (grownBy_putObj' W l o') (fun r e=>by cases e;exact ⟨zXU _,o,ho,hc⟩)⟩
 case hps=>
  rintro k xs W ⟨B,rfl,_⟩
  rfl
 case assign=>
  rintro lp k xs W K ⟨B,rfl,h1,h2⟩ hK
  gi_wp2
  exact hK
 case body=>
  rintro lp k xs W hk ⟨h1,h2,h3,h4,h5,h6⟩ ⟨B,rfl,hB,hnb⟩
  have hc2:=h2.cell
  have hne:B≠w1.heap.size:=by omega
  have hbd:=hp k (zYf hk)
  have hbd2:QB (qAt qs k) m:=by
   obtain ⟨_,_,_,_,_,q,_,_,_,_,e,hr⟩:=h.cells k hk
   rw [show qAt qs k=q from by simp [qAt,e]]
   exact hr.qb hm0
  have hTW:Tab W:=hT.below h4
  gi_wp2_with (gi_at_call 130;refine CallsIn.mono (callsIn_wide.2 (by
   obtain ⟨cs,g1,g2⟩:=h1
   obtain ⟨cs',g1',g2'⟩:=hnb
   exact zPc g1 g2 g1' g2' hne hbd hbd2 oO hTW)) ?_;rintro e w3 ⟨u,rfl,_,hg3,cs3,hh3,hc3,_⟩)
  refine ⟨(KeepsOthers.of_grownBy hg3 (fun j o e ho=>by cases e;obtain ⟨cs,g1,_⟩:=h1;rw [g1] at ho;cases ho;rfl)).from _,⟨(y6.refl _ _).grown hg3 (fun b hb=>⟨by have:=h4.size;rcases hb with hb|hb<;>omega,fun e=>by have:=zX8 e;omega⟩),hg3.size⟩,⟨cs3,hh3,hc3⟩,h2.kept hg3 (fun e=>by have:=zX8 e;omega),(hg3.block _ h3.lt (fun e=>by have:=zX8 e;omega)).trans h3,zAV h4 hg3 h4.size oO,zXY h5 hg3.size,h6⟩
 case done=>
  rintro D W hD ⟨h1,h2,h3,h4,h5,h6⟩ _ hd
  obtain ⟨cs,hh,hq⟩:=h1
  obtain ⟨A3,n3,c3,A4,n4,c4,ecs⟩:=zCC hq
  have ecs:=zX5 Array.toList (jL ecs)
  simp at ecs
  subst ecs
  obtain ⟨g0,g1,g2⟩:W.cell? ⟨w1.heap.size,0,none⟩=some (.bool (decide ((jG qs n).num<0)))/\W.cell? ⟨w1.heap.size,0+1,none⟩=some (.slice A3 n3 c3)/\W.cell? ⟨w1.heap.size,0+2,none⟩=some (.slice A4 n4 c4):=⟨zA7 hh 0 _ rfl,zA7 hh 1 _ rfl,zA7 hh 2 _ rfl⟩
  simp only [Nat.zero_add] at g1 g2
  have hc2:=h2.cell
  have q0:W.cell? ⟨w.heap.size,0,none⟩=some (.bool false):=h3.cell 0
  have q1:W.cell? ⟨w.heap.size,1,none⟩=some (sN):=h3.cell 1
  have q2:W.cell? ⟨w.heap.size,2,none⟩=some (sN):=h3.cell 2
  have q3:=h3.frozen 0;have q4:=h3.frozen 1;have q5:=h3.frozen 2
  go_wp2
  have hb5:jE (((W.setCell ⟨w.heap.size,0,none⟩ (.bool (decide ((jG qs n).num<0)))).setCell ⟨w.heap.size,1,none⟩ (.slice A3 n3 c3)).setCell ⟨w.heap.size,2,none⟩ (.slice A4 n4 c4)) w.heap.size 28 #[.bool (decide ((jG qs n).num<0)),.slice A3 n3 c3,.slice A4 n4 c4]:=((h3.set 0 _).set 1 _).set 2 _
  have hM2:Marks w.heap.size (((W.setCell ⟨w.heap.size,0,none⟩ (.bool (decide ((jG qs n).num<0)))).setCell ⟨w.heap.size,1,none⟩ (.slice A3 n3 c3)).setCell ⟨w.heap.size,2,none⟩ (.slice A4 n4 c4)) [mark D] [D]:=((Marks.nil w.heap.size W).more (D:=D) fN (by have:=hB1.size;omega) hd).others (((zX9 _ _ _).trans (zX9 _ _ _)).trans (zX9 _ _ _))
  have hrow: ∀(W':Wi) (i:Nat) (v u:Wj),W'.cell? ⟨w.heap.size,i,none⟩=some u->yA u=true->jN W' (W'.setCell ⟨w.heap.size,i,none⟩ v):=fun W' i v u hu hn p x hp=>(World.cell?_setCell_other _ _ _ _ (fun e=>by rw [<-e] at hp;rw [hu] at hp;cases hp;cases hn)).trans hp
  have hk3:jN W (((W.setCell ⟨w.heap.size,0,none⟩ (.bool (decide ((jG qs n).num<0)))).setCell ⟨w.heap.size,1,none⟩ (.slice A3 n3 c3)).setCell ⟨w.heap.size,2,none⟩ (.slice A4 n4 c4)):=((hrow _ _ _ _ q0 rfl).trans (hrow _ _ _ _ ((h3.set 0 _).cell 1) rfl)).trans (hrow _ _ _ _ (((h3.set 0 _).set 1 _).cell 2) rfl)
  have hq3:=hq.keepU hk3
  have hb3:bW w (((W.setCell ⟨w.heap.size,0,none⟩ (.bool (decide ((jG qs n).num<0)))).setCell ⟨w.heap.size,1,none⟩ (.slice A3 n3 c3)).setCell ⟨w.heap.size,2,none⟩ (.slice A4 n4 c4)):=((h4.setCell lr _).setCell lr _).setCell lr _
  generalize ((W.setCell ⟨w.heap.size,0,none⟩ (.bool (decide ((jG qs n).num<0)))).setCell ⟨w.heap.size,1,none⟩ (.slice A3 n3 c3)).setCell ⟨w.heap.size,2,none⟩ (.slice A4 n4 c4)=W9 at*
  refine qG _ (v:= .agg #[.bool (decide ((jG qs n).num<0)),.slice A3 n3 c3,.slice A4 n4 c4]) (fun w' ho'=> ?_) [D] _ _ hM2 (Oth.refl _ _) ?_
  ·have h7:=hb5.oth ho'
   have:=zGk (P:=prog) (w:=w') (t:=28) (k:=3) kH (vs:= [.bool (decide ((jG qs n).num<0)),.slice A3 n3 c3,.slice A4 n4 c4]) rfl h7
   simp [results,results109,asAddr,this]
  ·intro w' ho
   exact ⟨_,rfl,hq3.keepU (fun p x hp=>(ho.cell p).trans hp),zAg hb3 ho lr⟩
def fQS (m:Nat) (qs:List Rat):SF:=⟨fun v W=> ∃A c,v= .slice A qs.length c/\qs.length<=c/\c<=9223372036854775807/\QRd m W A qs.length qs,fun _ _ _ ⟨A,c,h1,h2,h3,h4⟩ hb=>⟨A,c,h1,h2,h3,h4.below hb⟩⟩
theorem zQi (s s':Bool) (A A' D D':Wl Addr) (n n' c c' i i' j j':Nat):yE prog 55 2 [(0,.agg #[.bool s,.slice A n c,.slice D i j]),(1,.agg #[.bool s',.slice A' n' c',.slice D' i' j'])]=some (28,#[.bool s,.slice A n c,.slice D i j,.bool s',.slice A' n' c',.slice D' i' j']):=by kernel_rfl
theorem zGf {p:Rat} (hu:RVp m p u W) (hv:RVp m q v W): ∃e cs,yE prog 55 2 [(0,u),(1,v)]=some (e,cs)/\(fQS m [p,q]).p (.slice (some ⟨W.heap.size,0,none⟩) 2 2) (W.alloc (.cells cs e)):=by
 obtain ⟨k,d,h1,h2⟩:=id hu
 obtain ⟨k',d',h1',h2'⟩:=id hv
 obtain ⟨s,A,n,c,D,i,j,rfl⟩:=zBM h1
 obtain ⟨s',A',n',c',D',i',j',rfl⟩:=zBM h1'
 refine ⟨_,_,zQi s s' A A' D D' n n' c c' i i' j j',some ⟨W.heap.size,0,none⟩,2,rfl,zXW _,by decide,rfl,fun x hx=> ?_⟩
 have hb:=zCP W (.cells #[.bool s,.slice A n c,.slice D i j,.bool s',.slice A' n' c',.slice D' i' j'] 28)
 rcases (by simp at hx;omega:x=0∨x=1) with rfl|rfl
 ·exact ⟨_,0,_,_,_,p,rfl,zB5 W _ _ 0 _ rfl,zB5 W _ _ 1 _ rfl,zB5 W _ _ 2 _ rfl,rfl,hu.below hb⟩
 ·exact ⟨_,0,_,_,_,q,rfl,zB5 W _ _ 3 _ rfl,zB5 W _ _ 4 _ rfl,zB5 W _ _ 5 _ rfl,rfl,hv.below hb⟩
theorem zTz (M:Nat) (h:(fQS m qs).p v W) (hm0:0<m) (hM:M+m+1<=2000) (hp: ∀k,k<=qs.length->QB (zDp qs k) M) (hT:Tab W):Calls prog 77 #[v] W (Ret W (fQN (zDp qs qs.length)).tS):=by
 obtain ⟨A,c,rfl,h1,h2,h3⟩:=h
 exact zOG m M A qs.length c qs W h3 h1 h2 oO hm0 hM hp hT
theorem zRN (M:Nat) (h:(fQS m qs).p v W) (hm0:0<m) (hM:M+m+1<=2000) (hp: ∀k,k<=qs.length->QB (jG qs k) M) (hT:Tab W):Calls prog 109 #[v] W (Ret W (fQN (jG qs qs.length)).tS):=by
 obtain ⟨A,c,rfl,h1,h2,h3⟩:=h
 exact zOF m M A qs.length c qs W h3 h1 h2 oO hm0 hM hp hT
theorem QB.zero (hm:0<m):QB 0 m:=⟨Nat.pow_pos qA,zDC hm⟩
theorem QB.one (hm:0<m):QB 1 m:=⟨zDC hm,zDC hm⟩
theorem zR8 (p q:Rat):zDp [p,q] 2=p+q:=by
 show (0+p)+q=_
 rw [Rat.zero_add]
theorem zMh (p q:Rat):jG [p,q] 2=p*q:=by
 show (1*p)*q=_
 rw [zYg]
theorem zLZ {p:Rat} (h:(fQS m [p,q]).p v W) (hp:QB p m) (hq:QB q m) (hm:3*m+2<=2000) (hT:Tab W):Calls prog 77 #[v] W (Ret W (fQN (p+q)).tS):=by
 have:=zTz (m+m+1) h hp.pos oO (fun k hk=>by
  rcases (by simp at hk;omega:k=0∨k=1∨k=2) with rfl|rfl|rfl
  ·exact QB.zero oO
  ·show QB (0+p) _
   rw [Rat.zero_add]
   exact hp.mono oO
  ·rw [zR8]
   exact hp.add hq) hT
 rw [show ([p,q]:List Rat).length=2 from rfl,zR8] at this
 exact this
theorem zLT {p:Rat} (h:(fQS m [p,q]).p v W) (hp:QB p m) (hq:QB q m) (hm:3*m+2<=2000) (hT:Tab W):Calls prog 109 #[v] W (Ret W (fQN (p*q)).tS):=by
 have:=zRN (m+m) h hp.pos oO (fun k hk=>by
  have:=hp.pos
  rcases (by simp at hk;omega:k=0∨k=1∨k=2) with rfl|rfl|rfl
  ·exact QB.one oO
  ·show QB (1*p) _
   rw [zYg]
   exact hp.mono oO
  ·rw [zMh]
   exact hp.mul hq) hT
 rw [show ([p,q]:List Rat).length=2 from rfl,zMh] at this
 exact this
theorem zRP (p q:Rat):mkRat ((p).num*(if decide ((q).num<0) then -((q).den:Int) else ((q).den:Int))) ((p).den*(q).num.natAbs)=p / q:=by
 have hp:p=(p.num:Rat) / (p.den:Rat):=by
  have:=Rat.mkRat_self p
  rw [Rat.mkRat_eq_div] at this
  exact this.symm
 have hq:q⁻¹=mkRat (if decide (q.num<0) then -(q.den:Int) else (q.den:Int)) q.num.natAbs:=by
  rw [Rat.inv_def]
  by_cases h:q.num<0
  ·rw [zX3 h,if_pos rfl, <-Rat.divInt_ofNat, <-Rat.divInt_neg']
   congr 1
   omega
  ·rw [zX7 h,if_neg dA, <-Rat.divInt_ofNat]
   congr 1
   omega
 rw [Rat.div_def,hq]
 conv=>rhs;rw [<-Rat.mkRat_self p]
 rw [Rat.mkRat_mul_mkRat]
theorem zQl (h:RVp m q v W) (h':RVp m q' v' W) (hm:m<=650) (hm0:0<m) (hT:Tab W):Calls prog 75 #[v,v'] W (Ret W (fQN (q - q')).tS):=by
 have hq:QB q m:=h.qb hm0
 have hq':QB q' m:=h'.qb hm0
 refine z9 [(fRV m q).tS,(fRV m q').tS] func75 rfl kH ⟨h,h',trivial⟩ fun a s=> ?_
 refine zXP ?_
 refine zB 0 [] hmix s kH
  zC fun a w1 s=> ?_
 refine yK (wC (fRV m q)) rfl s kH (fun v W h=>jZ h) fun b2 a w s=> ?_
 refine yK (wC (fRV m q')) rfl s kH (fun v W h=>jZ h) fun b3 a w s=> ?_
 refine zZ (CU.len 3) (cs:=zR3) kH rfl s kH (fun W=>rfl) rfl fun b4 a w s=> ?_
 refine zA rfl ?_
 refine zXP ?_
 refine z7 [] 5 ((5,.Z (fRV m q))::(6,.Z (fRV m q'))::(7,.Z (fQN (-q')))::(8,.s (fQS m [q,(-q')]))::(9,.u (fQN (q+ -q'))):: []) hmix s kH
  (oc (zK (f:=fRV m q) 3 kH (hz:=y5 _ _))<|oc (zK (f:=fRV m q') 3 kH (hz:=y5 _ _))<|oc (zJ zD zVO (fun u0 W hb (h0:RVp m q' u0 W)=>zTA h0 oO hm0 (hT.below (s.up hb))))<|oc (yJ (fun u v W (hu:RVp m q u W) (hv:QNp (-q') v W)=>zGf hu (wM hv hq'.neg)))<|oc (zJ zD zV0 (fun u0 W hb (h0:(fQS m [q,(-q')]).p u0 W)=>zLZ h0 hq hq'.neg oO (hT.below (s.up hb))))<|zC) fun Q' hQ a w2 s=> ?_
 refine zQ (wC (fQN (q+ -q'))) ((fQN (q+ -q')).tS) rfl s kH rfl rfl rfl iiz iiz yI fun a w s=> ?_
 refine zA rfl (hQ _ _ ?_)
 refine zXQ ?_
 exact wI s (wC (fQN (q+ -q'))) rfl kH rfl rfl (qX _) (fun cs W h=>by rw [Rat.sub_eq_add_neg];exact h)
def UVx (n:Nat) (k:Int) (v:Wj) (w:Wi):Prop:= ∃s A c l,v= .agg #[.bool s,.slice A n c]/\Rd w A n c l/\Lt l/\iv s l=k
def LVx (n x:Nat) (v:Wj) (w:Wi):Prop:= ∃A c l,v= .slice A n c/\Rd w A n c l/\Lt l/\val l=x
def QXp (n n':Nat) (k:Int) (d:Nat) (v:Wj) (w:Wi):Prop:= ∃b s t,v= .agg #[b,s,t]/\UVx n k (.agg #[b,s]) w/\LVx n' d t w
def fQX (n n':Nat) (k:Int) (d:Nat):UF:= .mk' (QXp n n' k d) fun _ _ _ ⟨b,s,t,e,⟨sg,A,c,l,e1,h1,h2⟩,A',c',l',e2,h1',h2'⟩ u=>⟨b,s,t,e,⟨sg,A,c,l,e1,h1.keepU u,h2⟩,A',c',l',e2,h1'.keepU u,h2'⟩
theorem zVx (h:QXp n n' k d v W) (h1:n<=m) (h2:n'<=m):QVp m k d v W:=by
 obtain ⟨b,s,t,e,⟨sg,A,c,l,e1,g1,g2,g3⟩,A',c',l',e2,g1',g2',g3'⟩:=h
 exact ⟨b,s,t,e,⟨sg,A,n,c,l,e1,g1,g2,h1,g3⟩,A',n',c',l',e2,g1',g2',h2,g3'⟩
theorem zQo (cs:List Wj) (W:Wi) (h:(wC (fQX n n' k d)).p cs W): ∃u,cs[1]?=some u/\ ∃A c,u= .slice A n c:=by
 obtain ⟨b,s,t,e,⟨sg,A,c,l,e1,_⟩,_⟩:=h
 rw [zA1 e]
 have:=zX5 Array.toList (jL e1)
 simp at this
 exact ⟨s,rfl,A,c,this.2⟩
theorem zQn (cs:List Wj) (W:Wi) (h:(wC (fQX n n' k d)).p cs W): ∃u,cs[2]?=some u/\ ∃A c,u= .slice A n' c:=by
 obtain ⟨b,s,t,e,_,A,c,l,e1,_⟩:=h
 rw [zA1 e]
 exact ⟨t,rfl,A,c,e1⟩
def fSl (n:Nat):UF:= .mk' (fun v _=> ∃A c,v= .slice A n c) fun _ _ _ h _=>h
structure QX where
 n:Nat
 n':Nat
 k:Int
 d:Nat
abbrev QX.cu (x:QX):CU:=wC (fQX x.n x.n' x.k x.d)
def zVy (L:List QX) (k:Nat):Nat:=((L.take k).map fun x=>min (x.n+x.n') 1000).sum
def gq (L:List QX):Bool:=decide (((L.map QX.cu).length:Int)>60)||decide (((zVy L (min (L.map QX.cu).length 61):Nat):Int)>40)
theorem wrap64 (u:Int) (r:Nat) (h:u=r) (hr:r<9223372036854775808):IntKind.i64.wrap u=r:=by
 subst h
 rw [IntKind.wrap_i64]
 omega
def T2 (m:Nat) (op:Rat->Rat->Rat) (xs:Array Wj) (W:Wi) (R:SF):Prop:= ∃u v p q,xs=#[u,v]/\RVp m p u W/\RVp m q v W/\Tab W/\R=(fQN (op p q)).tS
def T3 (m:Nat) (op:Rat->Rat->Rat) (xs:Array Wj) (W:Wi) (R:SF):Prop:= ∃u v, ∃p q:V2,xs=#[u,v]/\(fPV m p).p u W/\(fPV m q).p v W/\Tab W/\R=(fPN (op p.1 q.1,op p.2 q.2)).tS
def G1 (g:FuncId) (m:Nat) (op:Rat->Rat->Rat):Prop:= ∀(W:Wi) (s:Wj) (p q:Rat),(fQS m [p,q]).p s W->QB p m->QB q m->Tab W->Calls prog g #[s] W (Ret W (fQN (op p q)).tS)
theorem zBO: ∀cs W,(wF [u]).p cs W-> ∃x,cs[0]?=some x/\(wB u).p x W:=fun cs W h=>by
 obtain rfl:cs= [u]:=h
 exact ⟨u,rfl,rfl⟩
theorem zJW (h:v=u) (hu:u.cells=#[u]) (hn:yA u=true:=by rfl):(wF [u]).p v.cells.toList W/\v.cells.toList.all yA=true:=by
 subst h
 rw [hu]
 exact ⟨rfl,by simp [hn]⟩
section
variable {F:Fence} {m:Nat} {P:Wn} {w0:Wi} {ops:Array Oper} {G:Nat->SF} {d:Tmp} {ty:Wk} {pos:String} {aft:Array Edge}
theorem zPb {xs:Array Wm} (hF:zG6 F m P) (he:Enters P g) (hy: ∀v W,(fct G y).p v W->v= .func (.func g) #[] #[])
  (h: ∀(b:Act) (W:Wi),bW w0 W->(∀x,x∈xs.toList->(fct G x).p (b.eval x) W)->Calls P g (xs.map b.eval) W (Ret W (G d))):
  qN F m P w0 ops G ⟨some d,.call ⟨.value y,xs,ats⟩,ty,pos,aft,none⟩:=
 zMA (fun args W R=>Calls P g args W (Ret W R)) hF (fun v W hv=>by rw [hy v W hv];exact ⟨g,#[],rfl,he,fun W' _ args R h=>by simpa using h⟩) h
theorem zMC {x:Wm} (hF:zG6 F m P) (he:Enters P g) (hy: ∀v W,(fct G y).p v W->v= .func (.func g) #[] #[]) (h: ∀u W,bW w0 W->(fct G x).p u W->Calls P g #[u] W (Ret W (G d))):qN F m P w0 ops G ⟨some d,.call ⟨.value y,#[x],ats⟩,ty,pos,aft,none⟩:=
 zPb hF he hy fun b W hb hh=>by simpa using h _ W hb (hh x fN)
end
theorem zUe (hm:m<=650):G1 77 m (·+·):=fun _ _ _ _ h hp hq hT=>zLZ h hp hq oO hT
theorem zUh (hm:m<=650) (hm0:0<m) (W:Wi):(SF.fn prog (T2 m (· - ·))).p (.func (.func 75) #[] #[]) W:=
 zJ1 (enters_of func75 kH rfl) fun W' _ args R ⟨u,v,p,q,e,h1,h2,hT,hR⟩=>by
  subst e hR
  simpa using zQl h1 h2 hm hm0 hT
theorem zTb (eg:Enters prog g) (hg:G1 g m op) (hm0:0<m) {W:Wi} {u v b:Wj} {p q:Rat} (h1:RVp m p u W) (h2:RVp m q v W) (hb:(wE (wF [.func (.func g) #[] #[]]).cf).p b W) (hT:Tab W):Calls prog 98 #[u,v,b] W (Ret W (fQN (op p q)).tS):=by
 have hp:=h1.qb hm0
 have hq:=h2.qb hm0
 refine z9 [(fRV m p).tS,(fRV m q).tS,wE (wF [.func (.func g) #[] #[]]).cf] func98 rfl kH ⟨h1,h2,hb,trivial⟩ fun a s=> ?_
 refine zXP ?_
 refine zB 0 [] hmix s kH
  zC fun a w1 s=> ?_
 refine yK (wC (fRV m p)) rfl s kH (fun v W h=>jZ h) fun b3 a w s=> ?_
 refine yK (wC (fRV m q)) rfl s kH (fun v W h=>jZ h) fun b4 a w s=> ?_
 refine zZ (CU.len 3) (cs:=zR3) kH rfl s kH (fun W=>rfl) rfl fun b5 a w s=> ?_
 refine zA rfl ?_
 refine zXP ?_
 refine zB 5 ((6,.Z (wB (.func (.func g) #[] #[])))::(7,.Z (fRV m p))::(8,.Z (fRV m q))::(9,.s (fQS m [p,q]))::(10,.u (fQN (op p q))):: []) hmix s kH
  (oc (jB (C:=(wF [.func (.func g) #[] #[]]).cf) kH iiz zBO)<|oc (zK (f:=fRV m p) 3 kH (hz:=y5 _ _))<|oc (zK (f:=fRV m q) 3 kH (hz:=y5 _ _))<|oc (yJ (fun u v W (hu:RVp m p u W) (hv:RVp m q v W)=>zGf hu hv))<|oc (zMC zD eg iiz (fun u W hb (h:(fQS m [p,q]).p u W)=>hg W u p q h hp hq (hT.below (s.up hb))))<|zC) fun a w2 s=> ?_
 refine zQ (wC (fQN (op p q))) ((fQN (op p q)).tS) rfl s kH rfl rfl rfl iiz iiz yI fun a w s=> ?_
 refine zA rfl ?_
 refine zXQ ?_
 exact wI s (wC (fQN (op p q))) rfl kH rfl rfl (qX _) (fun cs W h=>h)
theorem zVg (eg:Enters prog g) (hg:G1 g m op) (hm0:0<m) {W:Wi} {u:Wj} (h:u= .func (.func g) #[] #[]):Calls prog 76 #[u] W (Ret W (SF.fn prog (T2 m op))):=by
 refine z9 [(wB (.func (.func g) #[] #[])).tS] func76 rfl kH ⟨h,trivial⟩ fun a s=> ?_
 refine zXP ?_
 refine zB 0 [] hmix s kH
  zC fun a w1 s=> ?_
 refine yK (wF [.func (.func g) #[] #[]]) rfl s kH (fun v W h=>zJW h (by rfl)) fun b1 a w s=> ?_
 refine yR (wB (.nilFunc)) rfl s kH iiz fun a w s=> ?_
 refine zA rfl ?_
 refine zXP ?_
 replace s:=s.drop [2]
 refine qV 2 ((3,.s (SF.fn prog (T2 m op)))::(2,.s (SF.fn prog (T2 m op))):: []) hmix s kH
  (oc (zEI (fun u W hb (h:(wK b1 (wF [.func (.func g) #[] #[]]).cf).p u W)=>zJ1 (enters_of func98 kH rfl) (fun W' hb' args R ⟨u1,v1,p,q,e,h1,h2,hT,hR⟩=>by subst e hR;simpa using zTb eg hg hm0 h1 h2 ((wE (wF [.func (.func g) #[] #[]]).cf).st _ _ _ h.2 hb') hT)))<|oc zF<|zC) fun a w2 s hr=> ?_
 refine zA rfl ?_
 refine zXQ ?_
 exact StS.resN s (zXV _ _) rfl (hr (_,_) mz1)
theorem zQw {F:Fence} {P:Wn} {w0:Wi} {ops:Array Oper} {G:Nat->SF} {d:Tmp} {ty:Wk} {pos:String} {aft:Array Edge} {x x':Wm} (T:Array Wj->Wi->SF->Prop) (hF:zG6 F m P) (hy: ∀v W,bW w0 W->(fct G y).p v W->(SF.fn P T).p v W) (h: ∀u v W,bW w0 W->(fct G x).p u W->(fct G x').p v W->T #[u,v] W (G d)):qN F m P w0 ops G ⟨some d,.call ⟨.value y,#[x,x'],ats⟩,ty,pos,aft,none⟩:=
 zMz T hF hy fun b W hb hh=>by simpa using h _ _ W hb (hh x fN) (hh x' fN)
theorem zO3 {b:Wj} {q:V2} (h1:(fPV m p).p u W) (h2:(fPV m q).p v W) (hb:(wE (wF [f]).cf).p b W) (hf:(SF.fn prog (T2 m op)).p f W) (hT:Tab W):Calls prog 96 #[u,v,b] W (Ret W (fPN (op p.1 q.1,op p.2 q.2)).tS):=by
 refine z9 [(fPV m p).tS,(fPV m q).tS,wE (wF [f]).cf] func96 rfl kH ⟨h1,h2,hb,trivial⟩ fun a s=> ?_
 refine zXP ?_
 refine zB 0 [] hmix s kH
  zC fun a w1 s=> ?_
 refine yK (wC (fPV m p)) rfl s kH (fun v W h=>yS h) fun b3 a w s=> ?_
 refine yK (wC (fPV m q)) rfl s kH (fun v W h=>yS h) fun b4 a w s=> ?_
 refine zZ (CU.len 6) (cs:=zP6) kH rfl s kH (fun W=>rfl) rfl fun b5 a w s=> ?_
 refine zA rfl ?_
 refine zXP ?_
 refine z7 [] 13 ((6,.Z (wB f))::(7,.X (fPV m p) 0)::(8,.Z (fRV m ((p).1)))::(9,.X (fPV m q) 0)::(10,.Z (fRV m ((q).1)))::(11,.Z (fQN (op (p).1 (q).1)))::(12,.Z (wB f))::(13,.X (fPV m p) 3)::(14,.Z (fRV m ((p).2)))::(15,.X (fPV m q) 3)::(16,.Z (fRV m ((q).2)))::(17,.Z (fQN (op (p).2 (q).2)))::(18,.u (fPN (op p.1 q.1,op p.2 q.2))):: []) hmix s kH
  (oc (jB (C:=(wF [f]).cf) kH iiz zBO)<|oc (zL (C:=cg (fPV m p)) 0 kH)<|oc (zR (C:=cg (fPV m p)) (k:=0) 3 kH (h:=zDf))<|oc (zL (C:=cg (fPV m q)) 0 kH)<|oc (zR (C:=cg (fPV m q)) (k:=0) 3 kH (h:=zDf))<|oc (zQw (T2 m op) zD (fun v W hb h=>by rw [show v=f from h];exact (SF.fn prog (T2 m op)).st _ _ _ hf (s.up hb)) (fun u v W hb (h1:RVp m ((p).1) u W) (h2:RVp m ((q).1) v W)=>⟨u,v,_,_,rfl,h1,h2,hT.below (s.up hb),rfl⟩))<|oc (jB (C:=(wF [f]).cf) kH iiz zBO)<|oc (zL (C:=cg (fPV m p)) 3 kH)<|oc (zR (C:=cg (fPV m p)) (k:=3) 3 kH (h:=zDe))<|oc (zL (C:=cg (fPV m q)) 3 kH)<|oc (zR (C:=cg (fPV m q)) (k:=3) 3 kH (h:=zDe))<|oc (zQw (T2 m op) zD (fun v W hb h=>by rw [show v=f from h];exact (SF.fn prog (T2 m op)).st _ _ _ hf (s.up hb)) (fun u v W hb (h1:RVp m ((p).2) u W) (h2:RVp m ((q).2) v W)=>⟨u,v,_,_,rfl,h1,h2,hT.below (s.up hb),rfl⟩))<|oc (y4 (fun u v W (hu:QNp (op (p).1 (q).1) u W) (hv:QNp (op (p).2 (q).2) v W)=>zPX (zAi _) (zAi _) hu hv))<|zC) fun Q' hQ a w2 s=> ?_
 refine zQ (wC (fPN (op p.1 q.1,op p.2 q.2))) ((fPN (op p.1 q.1,op p.2 q.2)).tS) rfl s kH rfl rfl rfl iiz iiz yT fun a w s=> ?_
 refine zA rfl (hQ _ _ ?_)
 refine zXQ ?_
 exact wI s (wC (fPN (op p.1 q.1,op p.2 q.2))) rfl kH rfl rfl (zP _ _) (fun cs W h=>h)
theorem zMq (hf:(SF.fn prog (T2 m op)).p f W):Calls prog 74 #[f] W (Ret W (SF.fn prog (T3 m op))):=by
 have hfc:f.cells=#[f]/\yA f=true:=by obtain ⟨g,caps,rfl,_⟩:=hf;exact ⟨rfl,rfl⟩
 refine z9 [(wB f).tS] func74 rfl kH ⟨rfl,trivial⟩ fun a s=> ?_
 refine zXP ?_
 refine zB 0 [] hmix s kH
  zC fun a w1 s=> ?_
 refine yK (wF [f]) rfl s kH (fun v W h=>zJW h hfc.1 hfc.2) fun b1 a w s=> ?_
 refine yR (wB (.nilFunc)) rfl s kH iiz fun a w s=> ?_
 refine zA rfl ?_
 refine zXP ?_
 replace s:=s.drop [2]
 refine qV 2 ((3,.s (SF.fn prog (T3 m op)))::(2,.s (SF.fn prog (T3 m op))):: []) hmix s kH
  (oc (zEI (fun u W hb (h:(wK b1 (wF [f]).cf).p u W)=>zJ1 (enters_of func96 kH rfl) (fun W' hb' args R ⟨u1,v1,p,q,e,h1,h2,hT,hR⟩=>by subst e hR;simpa using zO3 h1 h2 ((wE (wF [f]).cf).st _ _ _ h.2 hb') ((SF.fn prog (T2 m op)).st _ _ _ ((SF.fn prog (T2 m op)).st _ _ _ hf (s.up hb)) hb') hT)))<|oc zF<|zC) fun a w2 s hr=> ?_
 refine zA rfl ?_
 refine zXQ ?_
 exact StS.resN s (zXV _ _) rfl (hr (_,_) mz1)
theorem zLo {q:V2} (h1:(fPV m p).p u W) (h2:(fPV m q).p v W) (hm:m<=650) (hm0:0<m) (hT:Tab W):Calls prog 46 #[u,v] W (Ret W (fPN (p.1 - q.1,p.2 - q.2)).tS):=by
 refine z9 [(fPV m p).tS,(fPV m q).tS] func46 rfl kH ⟨h1,h2,trivial⟩ fun a s=> ?_
 refine zXP ?_
 refine zB 0 [] hmix s kH
  zC fun a w1 s=> ?_
 refine yK (wC (fPV m p)) rfl s kH (fun v W h=>yS h) fun b2 a w s=> ?_
 refine yK (wC (fPV m q)) rfl s kH (fun v W h=>yS h) fun b3 a w s=> ?_
 refine zZ (CU.len 6) (cs:=zP6) kH rfl s kH (fun W=>rfl) rfl fun b4 a w s=> ?_
 refine zA rfl ?_
 refine zXP ?_
 refine z7 [] 4 ((5,.s (SF.fn prog (T3 m (· - ·))))::(6,.Z (fPV m p))::(7,.Z (fPV m q))::(8,.u (fPN (p.1 - q.1,p.2 - q.2))):: []) hmix s kH
  (oc (zJ zD zUn (fun u0 W hb h0=>by rw [show u0=_ from h0];exact zMq (zUh hm hm0 W)))<|oc (zK (f:=fPV m p) 6 kH (hz:=zP _ _))<|oc (zK (f:=fPV m q) 6 kH (hz:=zP _ _))<|oc (zQx (T3 m (· - ·)) zD iiz (fun u v W hb (h1:(fPV m p).p u W) (h2:(fPV m q).p v W)=>⟨u,v,p,q,rfl,h1,h2,hT.below (s.up hb),rfl⟩))<|zC) fun Q' hQ a w2 s=> ?_
 refine zQ (wC (fPN (p.1 - q.1,p.2 - q.2))) ((fPN (p.1 - q.1,p.2 - q.2)).tS) rfl s kH rfl rfl rfl iiz iiz yT fun a w s=> ?_
 refine zA rfl (hQ _ _ ?_)
 refine zXQ ?_
 exact wI s (wC (fPN (p.1 - q.1,p.2 - q.2))) rfl kH rfl rfl (zP _ _) (fun cs W h=>h)
theorem zS8 {q:V2} (h1:(fPV m p).p u W) (h2:(fPV m q).p v W) (hm:m<=650) (hm0:0<m) (hT:Tab W):Calls prog 47 #[u,v] W (Ret W (fPN (p.1+q.1,p.2+q.2)).tS):=by
 refine z9 [(fPV m p).tS,(fPV m q).tS] func47 rfl kH ⟨h1,h2,trivial⟩ fun a s=> ?_
 refine zXP ?_
 refine zB 0 [] hmix s kH
  zC fun a w1 s=> ?_
 refine yK (wC (fPV m p)) rfl s kH (fun v W h=>yS h) fun b2 a w s=> ?_
 refine yK (wC (fPV m q)) rfl s kH (fun v W h=>yS h) fun b3 a w s=> ?_
 refine zZ (CU.len 6) (cs:=zP6) kH rfl s kH (fun W=>rfl) rfl fun b4 a w s=> ?_
 refine zA rfl ?_
 refine zXP ?_
 refine z7 [] 5 ((5,.s (SF.fn prog (T2 m (·+·))))::(6,.s (SF.fn prog (T3 m (·+·))))::(7,.Z (fPV m p))::(8,.Z (fPV m q))::(9,.u (fPN (p.1+q.1,p.2+q.2))):: []) hmix s kH
  (oc (zJ zD zV1 (fun u0 W hb h0=>zVg (enters_of func77 kH rfl) (zUe hm) hm0 h0))<|oc (zJ zD zUn (fun u0 W hb (h0:(SF.fn prog (T2 m (·+·))).p u0 W)=>zMq h0))<|oc (zK (f:=fPV m p) 6 kH (hz:=zP _ _))<|oc (zK (f:=fPV m q) 6 kH (hz:=zP _ _))<|oc (zQx (T3 m (·+·)) zD iiz (fun u v W hb (h1:(fPV m p).p u W) (h2:(fPV m q).p v W)=>⟨u,v,p,q,rfl,h1,h2,hT.below (s.up hb),rfl⟩))<|zC) fun Q' hQ a w2 s=> ?_
 refine zQ (wC (fPN (p.1+q.1,p.2+q.2))) ((fPN (p.1+q.1,p.2+q.2)).tS) rfl s kH rfl rfl rfl iiz iiz yT fun a w s=> ?_
 refine zA rfl (hQ _ _ ?_)
 refine zXQ ?_
 exact wI s (wC (fPN (p.1+q.1,p.2+q.2))) rfl kH rfl rfl (zP _ _) (fun cs W h=>h)
theorem zN9 {q:V2} (h1:(fPV m p).p u W) (h2:(fPV m q).p v W) (hp:QB p.1 m/\QB p.2 m) (hq:QB q.1 m/\QB q.2 m) (hm:m<=320) (hm0:0<m) (hT:Tab W):Calls prog 88 #[u,v] W (Ret W (fQN (p.1*q.2 - p.2*q.1)).tS):=by
 refine z9 [(fPV m p).tS,(fPV m q).tS] func88 rfl kH ⟨h1,h2,trivial⟩ fun a s=> ?_
 refine zXP ?_
 refine zB 0 [] hmix s kH
  zC fun a w1 s=> ?_
 refine yK (wC (fPV m p)) rfl s kH (fun v W h=>yS h) fun b2 a w s=> ?_
 refine yK (wC (fPV m q)) rfl s kH (fun v W h=>yS h) fun b3 a w s=> ?_
 refine zZ (CU.len 3) (cs:=zR3) kH rfl s kH (fun W=>rfl) rfl fun b4 a w s=> ?_
 refine zA rfl ?_
 refine zXP ?_
 refine z7 [] 13 ((5,.X (fPV m p) 0)::(6,.Z (fRV m ((p).1)))::(7,.X (fPV m q) 3)::(8,.Z (fRV m ((q).2)))::(9,.s (fQS m [(p).1,(q).2]))::(10,.Z (fQN ((p).1*(q).2)))::(11,.X (fPV m p) 3)::(12,.Z (fRV m ((p).2)))::(13,.X (fPV m q) 0)::(14,.Z (fRV m ((q).1)))::(15,.s (fQS m [(p).2,(q).1]))::(16,.Z (fQN ((p).2*(q).1)))::(17,.u (fQN ((p).1*(q).2 - (p).2*(q).1))):: []) hmix s kH
  (oc (zL (C:=cg (fPV m p)) 0 kH)<|oc (zR (C:=cg (fPV m p)) (k:=0) 3 kH (h:=zDf))<|oc (zL (C:=cg (fPV m q)) 3 kH)<|oc (zR (C:=cg (fPV m q)) (k:=3) 3 kH (h:=zDe))<|oc (yJ (fun u v W (hu:RVp m ((p).1) u W) (hv:RVp m ((q).2) v W)=>zGf hu hv))<|oc (zJ zD zQ0 (fun u0 W hb (h0:(fQS m [(p).1,(q).2]).p u0 W)=>zLT h0 hp.1 hq.2 oO (hT.below (s.up hb))))<|oc (zL (C:=cg (fPV m p)) 3 kH)<|oc (zR (C:=cg (fPV m p)) (k:=3) 3 kH (h:=zDe))<|oc (zL (C:=cg (fPV m q)) 0 kH)<|oc (zR (C:=cg (fPV m q)) (k:=0) 3 kH (h:=zDf))<|oc (yJ (fun u v W (hu:RVp m ((p).2) u W) (hv:RVp m ((q).1) v W)=>zGf hu hv))<|oc (zJ zD zQ0 (fun u0 W hb (h0:(fQS m [(p).2,(q).1]).p u0 W)=>zLT h0 hp.2 hq.1 oO (hT.below (s.up hb))))<|oc (zI zD zV2 (fun u0 u1 W hb (h0:QNp ((p).1*(q).2) u0 W) (h1:QNp ((p).2*(q).1) u1 W)=>zQl (wM h0 (hp.1.mul hq.2)) (wM h1 (hp.2.mul hq.1)) oO oO (hT.below (s.up hb))))<|zC) fun Q' hQ a w2 s=> ?_
 refine zQ (wC (fQN ((p).1*(q).2 - (p).2*(q).1))) ((fQN ((p).1*(q).2 - (p).2*(q).1)).tS) rfl s kH rfl rfl rfl iiz iiz yI fun a w s=> ?_
 refine zA rfl (hQ _ _ ?_)
 refine zXQ ?_
 exact wI s (wC (fQN (p.1*q.2 - p.2*q.1))) rfl kH rfl rfl (qX _) (fun cs W h=>h)
end Go.Proofs.Wd

namespace Lb
set_option maxHeartbeats 2000000
theorem zS9 {l:List Nat} (ht:Lt l) {j s x:Nat} (hj:j<l.length) (hz: ∀i,i<j->lm l i=0) (hx:lm l j=2^s*x) (ho:x % 2=1):TZ (val l) (32*j+s)/\s<32:=by
 have hb:=qO ht j
 have hs:s<32:=by
  have h1:2^s*1<=2^s*x:=Nat.mul_le_mul_left _ oO
  rw [Nat.mul_one, <-hx] at h1
  exact (Nat.pow_lt_pow_iff_right dA).1 (zXR h1 (by rw [zWH] at hb;simpa using hb))
 refine ⟨?_,hs⟩
 have e0:val (l.take j)=0:=by
  rw [zGa oO]
  have:sm (lm l) j=sm (lm l) 0:=zC6 (zXU _) fun i _ hi=>hz i hi
  rw [this];rfl
 have e1:=j7 l j oO
 rw [e0,Nat.zero_add,zBB hj,hx,zF7] at e1
 obtain ⟨y,hy⟩: ∃y,val (l.drop (j+1))=y:=⟨_,rfl⟩
 rw [hy,show BB=2^s*(2*2^(31 - s)) from by rw [<-Nat.pow_succ', <-Nat.pow_add,show s+(31 - s+1)=32 from by omega];rfl,zYh, <-Nat.mul_add, <-zYh, <-Nat.pow_add] at e1
 refine ⟨x / 2+2^(31 - s)*y, ?_⟩
 rw [e1]
 congr 1
 rw [Nat.mul_add, <-zYh]
 omega
end Lb
namespace Go.Proofs.Wd
open Tryz
open Go.RowKit Lb
variable {W:Wi} {a m:Nat} {v:Wj}
theorem zOb (A:Wl Addr) (n c:Nat) (l:List Nat) (w:Wi) (h:Rd w A n c l) (ht:Lt l) (h0:0<val l) (hn:n<=2000):
  ∃q t:Nat,TZ (val l) (32*q+t)/\t<=31/\q<n/\Calls prog 112 #[.slice A n c] w fun e w'=>e= .returned (.int .i64 ((32*q+t:Nat):Int))/\w'=w:=by
 obtain ⟨j,hjn,hjz,hj0⟩: ∃j,j<n/\(∀i,i<j->lm l i=0)/\lm l j≠0:=by
  have hex: ∃j,lm l j≠0:=by
   refine zYB fun hc=> ?_
   have hz: ∀i,lm l i=0:=fun i=>zYB fun e=>hc ⟨i,e⟩
   have:sm (lm l) l.length=sm (lm l) 0:=zC6 (zXU _) fun i _ _=>hz i
   have e:val l=sm (lm l) l.length:=rfl
   rw [e,this] at h0
   simp [sm] at h0
  have hmin: ∀k,(∃j,j<=k/\lm l j≠0)-> ∃j,(∀i,i<j->lm l i=0)/\lm l j≠0:=by
   intro k
   induction k with
   |zero=>rintro ⟨j,hj,e⟩;exact ⟨j,fun i hi=>by omega,e⟩
   |succ k ih=>
    rintro ⟨j,hj,e⟩
    by_cases hk: ∃j,j<=k/\lm l j≠0
    ·exact ih hk
    ·exact ⟨j,fun i hi=>zYB fun e'=>hk ⟨i,by omega,e'⟩,e⟩
  obtain ⟨j0,hj0⟩:=hex
  obtain ⟨j,h1,h2⟩:=hmin j0 ⟨j0,zXW _,hj0⟩
  refine ⟨j, ?_,h1,h2⟩
  rw [<-h.len]
  exact Nat.lt_of_not_le fun e=>h2 (zDI e)
 obtain ⟨s,hs⟩:=vO (lm l j) oO
 obtain ⟨m,hm⟩:=hs
 obtain ⟨htz,hs32⟩:=zS9 ht (s:=s) (x:=2*m+1) (by rw [h.len];exact hjn) hjz hm oO
 refine ⟨j,s,htz,by omega,hjn, ?_⟩
 have hb:=qO ht j
 have hle:=h.le;have hcap:=h.cap
 have HJZ:=hid hjz;have HM:=hid hm;have HB:=hid hb
 obtain ⟨d,hd⟩: ∃d:Nat->Nat,d=fun i=>2^(s - i)*(2*m+1):=⟨_,rfl⟩
 have hd0:d 0=lm l j:=by rw [hd,hm];rfl
 have hds:d s % 2=1:=by rw [hd];simp
 have hdi: ∀i,i<s->d i % 2=0/\d i / 2=d (i+1):=fun i hi=>by
  rw [hd]
  show 2^(s - i)*(2*m+1) % 2=0/\2^(s - i)*(2*m+1) / 2=2^(s - (i+1))*(2*m+1)
  rw [show s - i=(s - (i+1))+1 from by omega,Nat.pow_succ',zYh]
  omega
 have hdl: ∀i,d i<=d 0:=fun i=>by
  rw [hd]
  exact Nat.mul_le_mul_right _ (zX2 oO oO)
 have HD0:=hid hd0;have HDS:=hid hds;have HDI:=hid hdi;have HDL:=hid hdl
 clear hd hd0 hds hdi hdl
 have HL:Hid (∀i,lm l i<4294967296):=hid fun i=>qO ht i
 clear hjz hm htz hb h0
 go_enter func112,ntmps112
 go_wp2
 go_loopw [3,4] (fun t i wr=> ∃k:Nat,k<=j/\i= .int .i64 k/\t= .int .i64 ((32*k:Nat):Int)/\wr=w) (fun _ i _=>j - (intOf i).toNat)
 case atStart=>exact ⟨0,zXU _,rfl,rfl,rfl⟩
 case round=>
  obtain ⟨k,hk,rfl,rfl,rfl⟩:=hrel
  obtain ⟨b,o,rfl,hc⟩:=h.cells k oO
  by_cases hkj:k<j
  ·have hz:=HJZ.out k hkj
   rw [hz] at hc
   clear hz
   go_wp2
   go_roundw
   case rel=>exact ⟨k+1,by omega,by go_num,by go_num,trivial⟩
   case measure=>simp [intOf];omega
  ·obtain rfl:k=j:=by omega
   have hlk:=HL.out k
   obtain ⟨x,hx⟩: ∃x,lm l k=x:=⟨_,rfl⟩
   rw [hx] at hc hj0 hlk
   have HX:=hid hx
   clear hx
   have e1:((32*k:Nat):Int).tdiv 32=(k:Int):=by rw [zYC oO];omega
   have e2:(((32*k:Nat):Int) / 32)=(k:Int):=by omega
   have hx2:((x:Int)==0)=false:=by simpa using hj0
   go_wp2
   go_loopw [3,5] (fun t y wr2=> ∃i:Nat,i<=s/\t= .int .i64 ((32*k+i:Nat):Int)/\y= .int .u32 (d i:Nat)/\wr2=wr) (fun t _ _=>32*k+s - (intOf t).toNat)
   case atStart=>exact ⟨0,zXU _,rfl,by rw [HD0.out,HX.out],rfl⟩
   case round=>
    obtain ⟨i,hi,rfl,rfl,rfl⟩:=hrel
    have hdx:=HDL.out i
    rw [HD0.out,HX.out] at hdx
    by_cases his:i<s
    ·obtain ⟨q1,q2⟩:=HDI.out i his
     obtain ⟨y,hy⟩: ∃y,d i=y:=⟨_,rfl⟩
     rw [hy] at q1 q2 hdx ⊢
     have HY:=hid q2
     clear q2 hy
     go_wp2
     go_roundw
     case rel=>exact ⟨i+1,by omega,by go_num,by rw [<-HY.out];go_num,trivial⟩
     case measure=>simp [intOf];omega
    ·obtain rfl:i=s:=by omega
     have q1:=HDS.out
     obtain ⟨y,hy⟩: ∃y,d i=y:=⟨_,rfl⟩
     rw [hy] at q1 hdx ⊢
     clear hy
     go_wp2
     go_ret
     exact ⟨rfl,rfl⟩
theorem zLS {v':Wj} {b:Nat} (h:LV W m v a) (h':LV W m v' b) (hm:m<=100000):Calls prog 69 #[v,v'] W (zNU W (a*b)):=by
 obtain ⟨A,n,c,l,rfl,h1,h2,h3,rfl⟩:=h
 obtain ⟨A',n',c',l',rfl,h1',h2',h3',rfl⟩:=h'
 exact (zJq A n c l A' n' c' l' W h1 h1' h2 h2' oO oO).mono fun _ _=>jP.v
theorem zD3 (h:LV W m v a) (hm:m<=100000):Calls prog 35 #[v] W (zNU W a):=by
 obtain ⟨A,n,c,l,rfl,h1,h2,h3,rfl⟩:=h
 exact (jT A n c l W h1 h2 oO).mono fun _ _=>jP.v
theorem qU.open {x:Nat} (h:qU W v x): ∃A n c,v= .slice A n c/\(x=0->n=0)/\(0<x->0<n)/\n<=c/\c<=9223372036854775807/\qU W (.slice A n c) x:=by
 obtain ⟨A,n,c,l,rfl,h1,h2⟩:=h
 have h3:=h1.zero_iff;have h4:=h1.pos_iff
 rw [h2.len] at h3 h4
 exact ⟨A,n,c,rfl,h3.1,h4.1,h2.le,h2.cap,⟨A,n,c,l,rfl,h1,h2⟩⟩
end Go.Proofs.Wd

namespace Lb
set_option maxHeartbeats 2000000
theorem zQy {x k:Nat} (h:TZ x k):x / 2^k % 2=1/\x / 2^k<=x/\0<x / 2^k:=by
 have:=h.part.2
 exact ⟨this,zX0 _ _,Nat.pos_of_ne_zero fun e=>by rw [e] at this;simp at this⟩
def Bin (G x y:Nat):Prop:=0<y/\(x=0->y=G)/\ ∀i j,TZ x i->TZ y j->Nat.gcd (x / 2^i) (y / 2^j)=G
theorem Bin.start {a b i j:Nat} (hi:TZ a i) (hj:TZ b j):Bin (Nat.gcd (a / 2^i) (b / 2^j)) a b:=
 ⟨hj.pos,fun e=>by have:=hi.pos;omega,fun i' j' h1 h2=>by rw [h1.unique hi,h2.unique hj]⟩
theorem Bin.turn {G x y:Nat} (hx:x % 2=1) (hy:y % 2=1) (hg:Nat.gcd x y=G) (hle:y<=x):Bin G (x - y) y:=by
 refine ⟨by omega,fun e=> ?_,fun i j h1 h2=> ?_⟩
 ·have:x=y:=by omega
  rw [<-hg,this,Nat.gcd_self]
 ·have hj:j=0:=h2.unique (wW hy)
  rw [hj,Nat.pow_zero,Nat.div_one,Nat.gcd_comm,vC hy h1,Nat.gcd_comm,zGO hle,hg]
end Lb
namespace Go.Proofs.Wd
open Tryz
open Go.RowKit Lb
variable {W W0 w0:Wi} {M N c d i k m n z:Nat} {A:Wl Addr} {lo x y:Wm} {e e' t t' ty:Wk} {l l0 v v':Wj} {a r:V2} {F:Fence} {P:Wn} {ops:Array Oper} {G:Nat->SF} {pos:String} {aft:Array Edge} {cs vs:List Wj} {qs:List Rat} {f:Nat->Bool} {g:V2->Bool} {L ps:List V2} {Cs:List CU} {ie:TypeInfo}
theorem zLW {x q t:Nat} (h:qU W (.slice A n c) x) (hx:x<BB^m) (hm:m<=2000) (htt:t<=31) (hq:q<n):Calls prog 113 #[.slice A n c,.int .i64 ((32*q+t:Nat):Int)] W (zNU W (x / 2^(32*q+t))):=by
 obtain ⟨A1,n1,c1,l1,e1,h1,h2⟩:=h
 cases e1
 have hn:n<=m:=zHY h1 h2 hx
 have:=zLX A n c l1 q t W h2 h1.lt htt oO oO oO
 rw [h1.val] at this
 exact this.mono fun _ _=>jP.v
theorem zVt {x q t:Nat} (h:LV W m (.slice A n c) x) (hm:m<=2000) (htt:t<=31) (hq:q<=2000):Calls prog 116 #[.slice A n c,.int .i64 ((32*q+t:Nat):Int)] W (zNU W (x*2^(32*q+t))):=by
 obtain ⟨A1,n1,c1,l1,e1,h1,h2,h3,rfl⟩:=h
 cases e1
 exact (zLM A n c l1 q t W h1 h2 htt oO oO).mono fun _ _=>jP.v
def zWA (w:Wi) (x:Nat):Ending->Wi->Prop:=fun e w'=> ∃v,e= .returned (.tuple #[v,.int .i64 0])/\qU w' v x/\bW w w'
theorem zQj {a b:Nat} (h:LV W m v a) (h':LV W m v' b) (hm:m<=2000) (hab:b<=a):Calls prog 115 #[v,v'] W (zWA W (a - b)):=by
 obtain ⟨A,n,c,l,rfl,h1,h2,h3,rfl⟩:=h
 obtain ⟨A',n',c',l',rfl,h1',h2',h3',rfl⟩:=h'
 refine (zGl A n c l A' n' c' l' W h1 h1' h2 h2' hab oO).mono ?_
 rintro e w' ⟨A1,n1,c1,l1,rfl,i1,r1,hb⟩
 exact ⟨_,rfl,⟨A1,n1,c1,l1,rfl,i1,r1⟩,hb⟩
theorem zI9 {x:Nat} (h:qU W (.slice A n c) x) (hx:x<BB^m) (hm:m<=2000) (h0:0<x):
  ∃q t:Nat,TZ x (32*q+t)/\t<=31/\q<n/\n<=m/\Calls prog 112 #[.slice A n c] W fun e w'=>e= .returned (.int .i64 ((32*q+t:Nat):Int))/\w'=W:=by
 obtain ⟨A1,n1,c1,l1,e1,h1,h2⟩:=h
 cases e1
 have hn:n<=m:=zHY h1 h2 hx
 obtain ⟨q,t,k1,k2,k3,k4⟩:=zOb A n c l1 W h2 h1.lt (by rw [h1.val];exact h0) oO
 rw [h1.val] at k1
 exact ⟨q,t,k1,k2,k3,hn,k4⟩
theorem qU.rdv {x:Nat} (h:qU W v x):rdv W v=x:=by
 obtain ⟨A1,n1,c1,l1,rfl,h1,h2⟩:=h
 exact h2.rdv h1
def RgI (w:Wi) (m G:Nat) (u v:Wj) (W:Wi):Prop:= ∃A n c A' n' c' x y,u= .slice A n c/\v= .slice A' n' c'/\qU W (.slice A n c) x/\qU W (.slice A' n' c') y/\x<BB^m/\y<BB^m/\Bin G x y/\bW w W
theorem zR6 {a b:Nat} (h:LV W m v a) (h':LV W m v' b) (hm:m<=2000):Calls prog 92 #[v,v'] W (zNU W (Nat.gcd a b)):=by
 have hla:=h.bound;have hlb:=h'.bound
 obtain ⟨A0,n0,c0,rfl,-,k1,k2,h⟩:=h.open
 obtain ⟨B0,m0,d0,rfl,-,k3,k4,h'⟩:=h'.open
 go_enter func92,ntmps92
 go_wp2_with fail
 refine (zD3 h oO).mono ?_
 rintro e w1 ⟨va,rfl,ha,b1⟩
 obtain ⟨A,n,c,rfl,za,pa,ia,ja,ha⟩:=ha.open
 go_wp2_with fail
 refine (zD3 (h'.below b1) oO).mono ?_
 rintro e w2 ⟨vb,rfl,hb,b2⟩
 obtain ⟨A',n',c',rfl,zb,pb,ib,jb,hb⟩:=hb.open
 have b02:=b1.trans (b2.mono b1.size)
 have ha2:=ha.below b2
 clear h h' ha b1 b2 k1 k2 k3 k4
 by_cases h0:a=0∨b=0
 ·have hg:Nat.gcd a b=a+b:=by
   rcases h0 with e|e
   ·rw [e];simp
   ·rw [e];simp
  have h00:n=0∨(0<n/\n'=0):=by
   rcases zX6 n with e|e
   ·exact .inl e
   ·refine .inr ⟨e,zb (h0.resolve_left fun e'=> ?_)⟩
    have:=za e';omega
  have HG:=hid hg
  clear za pa zb pb h0 hg
  have ad:=zRR (ha2.lv hla) (hb.lv hlb) oO 24
  have bS:bW w2 (w2.alloc (.cells #[.slice A n c,.slice A' n' c'] 24)):=(zXV _ w2).alloc (zXW _) _
  have HLA:=hid hla;have HLB:=hid hlb
  clear hla hlb
  rcases h00 with rfl|⟨e1,rfl⟩
  all_goals
   go_wp2_with fail
   refine ad.mono ?_
   rintro e w4 ⟨vs,rfl,hs,b4⟩
   go_wp2_with fail
   go_ret
   exact ⟨vs,rfl,by rw [HG.out];exact hs,b02.trans ((bS.trans (b4.mono bS.size)).mono b02.size)⟩
 ·have hn0:0<n:=pa oO
  have hn0':0<n':=pb oO
  have hnb:((n:Int)==0)=false:=by simp;omega
  have hnb':((n':Int)==0)=false:=by simp;omega
  obtain ⟨q,t,hz,ht,hq,hnm,htw⟩:=zI9 ha2 hla hm oO
  obtain ⟨q',t',hz',ht',hq',hnm',htw'⟩:=zI9 hb hlb hm oO
  have hgcd:=hz.gcd hz'
  have hbin:=Bin.start hz hz'
  have hG0:Nat.gcd (a / 2^(32*q+t)) (b / 2^(32*q'+t'))<BB^m:=zQM (zXR (zX0 _ _) hla) (zXR (zX0 _ _) hlb)
  obtain ⟨G,hG⟩: ∃G,Nat.gcd (a / 2^(32*q+t)) (b / 2^(32*q'+t'))=G:=⟨_,rfl⟩
  rw [hG] at hgcd hbin hG0
  obtain ⟨p,s,hs,hps,hpq⟩: ∃p s:Nat,s<=31/\p<=2000/\min (32*q+t) (32*q'+t')=32*p+s:=by
   rcases Nat.le_total (32*q+t) (32*q'+t') with e|e
   ·exact ⟨q,t,ht,by omega,by omega⟩
   ·exact ⟨q',t',ht',by omega,by omega⟩
  rw [hpq] at hgcd
  have hmin:min ((32*q+t:Nat):Int) ((32*q'+t':Nat):Int)=((32*p+s:Nat):Int):=by omega
  have HGC:=hid hgcd;have HBI:=hid hbin;have HG0:=hid hG0
  obtain ⟨k,hk⟩: ∃k,32*q+t=k:=⟨_,rfl⟩
  obtain ⟨k',hk'⟩: ∃k,32*q'+t'=k:=⟨_,rfl⟩
  rw [hk] at htw hmin
  rw [hk'] at htw' hmin
  obtain ⟨K,hK⟩: ∃K,32*p+s=K:=⟨_,rfl⟩
  rw [hK] at hmin
  have HK:=hid hK
  have hK2:K<=64500:=by omega
  have hk2:k<=64500:=by omega
  have hk2':k'<=64500:=by omega
  have HLA:=hid hla;have HLB:=hid hlb
  clear hgcd hbin hG0 hz hz' hG hpq hk hk' hK za pa zb pb hq hq' ht ht' hnm hnm' h0 hla hlb
  go_wp2_with fail
  refine htw.mono ?_
  rintro e w3 ⟨rfl,rfl⟩
  go_wp2_with fail
  refine htw'.mono ?_
  rintro e w3 ⟨rfl,rfl⟩
  go_wp2
  go_loopw [0,1] (RgI W m G) (fun u v wr=>rdv wr u+rdv wr v)
  case atStart=>exact ⟨A,n,c,A',n',c',a,b,rfl,rfl,ha2,hb,HLA.out,HLB.out,HBI.out,b02⟩
  case round=>
   clear ha2 hb b02 hn0 hn0' hnb hnb' htw htw' ia ja ib jb hmin
   obtain ⟨A1,n1,c1,A2,n2,c2,x,y,rfl,rfl,hx,hy,hxl,hyl,hbn,hB⟩:=hrel
   obtain ⟨_,_,_,e1,zx,px,ix,jx,_⟩:=hx.open
   cases e1
   obtain ⟨_,_,_,e1,zy,py,iy,jy,_⟩:=hy.open
   cases e1
   have hy0:=hbn.1
   have HBN:=hid hbn
   have HXL:=hid hxl;have HYL:=hid hyl
   rcases zX6 n1 with h0|h0
   ·have hx0:x=0:=by
     rcases zX6 x with e|e
     ·exact e
     ·have:=px e;omega
    have hyG:=hbn.2.1 hx0
    have HYG:=hid hyG
    have hup:=zVt (q:=p) (t:=s) (hy.lv hyl) hm hs hps
    rw [HK.out] at hup
    subst h0
    clear hbn hxl hyl hx0 hyG zx px zy py
    go_wp2_with fail
    refine hup.mono ?_
    rintro e w5 ⟨v5,rfl,hv5,hb5⟩
    go_wp2_with fail
    go_ret
    exact ⟨v5,rfl,by rw [HGC.out,HK.out, <-HYG.out,Nat.mul_comm];exact hv5,hB.trans (hb5.mono hB.size)⟩
   ·have hx0:0<x:=Nat.pos_of_ne_zero fun e=>by have:=zx e;omega
    obtain ⟨q1,t1,z1,ht1,hq1,hnm1,htw1⟩:=zI9 hx hxl hm hx0
    have hd1:=zLW hx hxl hm ht1 hq1
    obtain ⟨o1,o2,o3⟩:=zQy z1
    obtain ⟨k1,hk1⟩: ∃k,32*q1+t1=k:=⟨_,rfl⟩
    have hk1l:k1<=64500:=by omega
    rw [hk1] at htw1 hd1 z1 o1 o2 o3
    have Z1:=hid z1
    obtain ⟨X,hX⟩: ∃X,x / 2^k1=X:=⟨_,rfl⟩
    have HX:=hid hX
    rw [hX] at hd1 o1 o2 o3
    clear z1 hX hk1 ht1 hq1 hnm1 hbn zx px zy py
    have HO1:=hid o1
    have hrx:=hx.rdv;have hry:=hy.rdv
    have HRX:=hid hrx;have HRY:=hid hry
    clear hrx hry o1
    go_wp2_with fail
    refine htw1.mono ?_
    rintro e w5 ⟨rfl,rfl⟩
    go_wp2_with fail
    refine hd1.mono ?_
    rintro e w6 ⟨v6,rfl,h6,b6⟩
    obtain ⟨A6,n6,c6,rfl,z6,p6,i6,j6,h6⟩:=h6.open
    have hy6:=hy.below b6
    obtain ⟨q2,t2,z2,ht2,hq2,hnm2,htw2⟩:=zI9 hy6 hyl hm hy0
    have hd2:=zLW hy6 hyl hm ht2 hq2
    obtain ⟨o4,o5,o6⟩:=zQy z2
    obtain ⟨k2,hk2⟩: ∃k,32*q2+t2=k:=⟨_,rfl⟩
    have hk2l:k2<=64500:=by omega
    rw [hk2] at htw2 hd2 z2 o4 o5 o6
    have Z2:=hid z2
    obtain ⟨Y,hY⟩: ∃Y,y / 2^k2=Y:=⟨_,rfl⟩
    have HY:=hid hY
    rw [hY] at hd2 o4 o5 o6
    clear z2 hY hk2 ht2 hq2 hnm2 htw1 hd1 z6 p6
    have HO4:=hid o4
    clear o4
    go_wp2_with fail
    refine htw2.mono ?_
    rintro e w7 ⟨rfl,rfl⟩
    go_wp2_with fail
    refine hd2.mono ?_
    rintro e w8 ⟨v8,rfl,h8,b8⟩
    obtain ⟨A8,n8,c8,rfl,z8,p8,i8,j8,h8⟩:=h8.open
    have h68:=h6.below b8
    have b68:=b6.trans (b8.mono b6.size)
    have hB8:=hB.trans (b68.mono hB.size)
    have hXl:X<BB^m:=zXR o2 HXL.out
    have hYl:Y<BB^m:=zXR o5 HYL.out
    have hXY:Nat.gcd X Y=G:=by rw [<-HX.out, <-HY.out];exact HBN.out.2.2 _ _ Z1.out Z2.out
    have HXY:=hid hXY
    obtain ⟨cz,hcz⟩: ∃cz,zAE X Y=cz:=⟨_,rfl⟩
    have hc1:=zTy (h68.lv hXl) (h8.lv hYl)
    have hcl:cz<0↔X<Y:=by
     rw [<-hcz]
     unfold zAE
     split
     ·exact ⟨fun _=>by assumption,fun _=>by omega⟩
     ·split
      ·exact ⟨fun h=>by omega,fun h=>by omega⟩
      ·exact ⟨fun h=>by omega,fun h=>by omega⟩
    rw [hcz] at hc1
    clear htw2 hd2 z8 p8 h6 hy6 hx hy hXY hcz hxl hyl
    have HXl:=hid hXl;have HYl:=hid hYl
    clear hXl hYl
    rcases Nat.lt_or_ge X Y with hlt|hge
    ·have hcz:cz<0:=hcl.2 hlt
     have hsb:=zQj (h8.lv HYl.out) (h68.lv HXl.out) hm (zYf hlt)
     have hbt:=Bin.turn (G:=G) HO4.out HO1.out (by rw [Nat.gcd_comm];exact HXY.out) (zYf hlt)
     have HBT:=hid hbt
     clear hbt hcl
     go_wp2_with fail
     refine hc1.mono ?_
     rintro e w9 ⟨rfl,rfl⟩
     go_wp2_with fail
     refine hsb.mono ?_
     rintro e w10 ⟨v10,rfl,h10,b10⟩
     obtain ⟨A10,n10,c10,rfl,z10,p10,i10,j10,h10⟩:=h10.open
     clear z10 p10
     go_wp2_with fail
     refine ⟨⟨A10,n10,c10,A6,n6,c6,Y - X,X,rfl,rfl,h10,h68.below b10,zXR (Nat.sub_le _ _) HYl.out,HXl.out,HBT.out,hB8.trans (b10.mono hB8.size)⟩, ?_⟩
     show rdv _ _+rdv _ _<rdv _ _+rdv _ _
     rw [h10.rdv,(h68.below b10).rdv,HRX.out,HRY.out]
     omega
    ·have hcz: ¬cz<0:=fun e=>by have:=hcl.1 e;omega
     have hsb:=zQj (h68.lv HXl.out) (h8.lv HYl.out) hm hge
     have hbt:=Bin.turn (G:=G) HO1.out HO4.out HXY.out hge
     have HBT:=hid hbt
     clear hbt hcl
     go_wp2_with fail
     refine hc1.mono ?_
     rintro e w9 ⟨rfl,rfl⟩
     go_wp2_with fail
     refine hsb.mono ?_
     rintro e w10 ⟨v10,rfl,h10,b10⟩
     obtain ⟨A10,n10,c10,rfl,z10,p10,i10,j10,h10⟩:=h10.open
     clear z10 p10
     go_wp2_with fail
     refine ⟨⟨A10,n10,c10,A8,n8,c8,X - Y,Y,rfl,rfl,h10,h8.below b10,zXR (Nat.sub_le _ _) HXl.out,HYl.out,HBT.out,hB8.trans (b10.mono hB8.size)⟩, ?_⟩
     show rdv _ _+rdv _ _<rdv _ _+rdv _ _
     rw [h10.rdv,(h8.below b10).rdv,HRX.out,HRY.out]
     omega
theorem zTC {u:Wj} (k:Int) (hu:u= .int .i64 k) (h: -9223372036854775808<=k/\k<=9223372036854775807):Calls prog 41 #[u] W (zG7 W k):=by
 subst hu
 exact zTD k h
set_option maxRecDepth 100000
def zNk:Nat:=10000
theorem zT1 {x:Nat} (h:x<18446744073709551616) (m:Nat) (hm:2<=m):x<BB^m:=zXZ h (zXY (show 18446744073709551616<=BB^2 by decide) (zX2 qA hm))
theorem zHz {x:Nat} (h:LV W m v x) (hm:m<=100000):Calls prog 90 #[v] W (Ret W (zAC (wB (.int .u64 ((zN x:Nat):Int))) (fB (yX x))).tS):=by
 obtain ⟨A,n,c,l,rfl,h1,h2,h3,rfl⟩:=h
 refine (zKA A n c l W h1 h2 oO).mono ?_
 rintro e w' ⟨rfl,hb⟩
 exact ⟨_,rfl,⟨_,_,rfl,rfl,rfl⟩,hb⟩
theorem zQm (x:Nat) (hx:x<18446744073709551616) (hv:v= .int .u64 (x:Int)):Calls prog 70 #[v] W (Ret W (jF x).tS):=by
 subst hv
 exact (zIx x hx W).mono fun _ _ h=>jP.v h
theorem zAX (x:Nat):zN x<18446744073709551616:=by unfold zN;split<;>omega
theorem zMw {d:Tmp} (k:IntKind) (u v r:Int) (hx: ∀q W,(fct G x).p q W->q= .int k u) (hy: ∀q W,(fct G y).p q W->q= .int k v) (hv:v≠0) (hr:k.wrap (u.tdiv v)=r) (hd: ∀W,(G d).p (.int k r) W:=by exact fun _=>rfl):qN F m P w0 ops G ⟨some d,.binOp .quo t x y t',ty,pos,aft,none⟩:=
 zDE (.int k u) (.int k v) (.int k r) hx hy (fun W=>by simp [eqGuard]) (fun W=>by simp [binOp,Op.intDiv,hv,hr]) hd
theorem zS6 (u:Int) (r:Nat) (h:u=r) (hr:r<18446744073709551616):IntKind.u64.wrap u=r:=by
 subst h
 rw [IntKind.wrap_u64]
 omega
theorem zJD {x:Nat} (h:qU W v x):Calls prog 40 #[v] W (Ret W (fNV (x:Int)).tS):=by
 refine z9 [(jF x).tS] func40 rfl kH ⟨h,trivial⟩ fun a s=> ?_
 refine zXP ?_
 refine zB 0 [] hmix s kH
  zC fun a w1 s=> ?_
 refine zZ (CU.len 2) (cs:= [.bool false, sN]) kH rfl s kH (fun W=>rfl) rfl fun b2 a w s=> ?_
 refine zA rfl ?_
 refine zXP ?_
 refine zB 2 ((3,.Z (jF x))::(4,.u (fNV (x:Int))):: []) hmix s kH
  (oc zE<|oc (zFk (fun u W (hu:qU W u x)=>zNJ hu))<|zC) fun a w2 s=> ?_
 refine zQ (wC (fNV (x:Int))) ((fNV (x:Int)).tS) rfl s kH rfl rfl rfl iiz iiz zGD fun a w s=> ?_
 refine zA rfl ?_
 refine zXQ ?_
 exact wI s (wC (fNV (x:Int))) rfl kH rfl rfl (zQA _) (fun cs W h=>h)
theorem zEo (z:Int) (hv:v= .int .i64 z) (hz: -9223372036854775808<=z/\z<=9223372036854775807):Calls prog 13 #[v] W (Ret W (fQN (z:Rat)).tS):=by
 refine z9 [(fI z).tS] func13 rfl kH ⟨hv,trivial⟩ fun a s=> ?_
 refine zXP ?_
 refine zB 0 [] hmix s kH
  zC fun a w1 s=> ?_
 refine zZ (CU.len 3) (cs:=zR3) kH rfl s kH (fun W=>rfl) rfl fun b2 a w s=> ?_
 refine zA rfl ?_
 refine zXP ?_
 refine zB 4 ((3,.Z (uI z))::(4,.Z (fNV z))::(5,.Z (jF 1))::(6,.u (fQN (z:Rat))):: []) hmix s kH
  (oc zE<|oc (zJ zD zWg (fun u0 W hb (h0:u0= .int .i64 z)=>zTC z h0 hz))<|oc (jI (fun u W (hu:u= .int .u32 1)=>zQg hu))<|oc (y4 (fun u v W (hu:NV W u z) (hv:qU W v 1)=>zIf (q:=(z:Rat)) hu hv))<|zC) fun a w2 s=> ?_
 refine zQ (wC (fQN (z:Rat))) ((fQN (z:Rat)).tS) rfl s kH rfl rfl rfl iiz iiz yI fun a w s=> ?_
 refine zA rfl ?_
 refine zXQ ?_
 exact wI s (wC (fQN (z:Rat))) rfl kH rfl rfl (qX _) (fun cs W h=>h)
theorem zEp (k:Int) (d:Nat) (h:0<d):(if decide (k<0) then -((k.natAbs / Nat.gcd k.natAbs d:Nat):Int) else ((k.natAbs / Nat.gcd k.natAbs d:Nat):Int))=(mkRat k d).num:=by
 have h1:=zDH k d h
 have h2:=zCj k d h
 rw [<-h1, <-h2]
 by_cases hs:(mkRat k d).num<0
 ·rw [zX3 hs,if_pos rfl]
  omega
 ·rw [zX7 hs,if_neg dA]
  omega
theorem zRV {k:Int} (h:UV W m v k) (h':LV W m v' d) (hm:m<=2000) (hd:d=0):Calls prog 66 #[v,v'] W (Ret W (zAC (fQN (mkRat k d)) (fI 30)).tS):=by
 have bk:k.natAbs<BB^m:=h.bound
 have hz:true=decide (d=0):=(zX3 hd).symm
 have hq0:mkRat k d=((0:Int):Rat):=by rw [hd,zYe];rfl
 refine z9 [(fUV m k).tS,(fLV m d).tS] func66 rfl kH ⟨h,h',trivial⟩ fun a s=> ?_
 refine zXP ?_
 refine zB 0 [] hmix s kH
  zC fun a w1 s=> ?_
 refine yK (wC (fUV m k)) rfl s kH (fun v W h=>zP7 h) fun b2 a w s=> ?_
 refine zZ (CU.len 3) (cs:=zR3) kH rfl s kH (fun W=>rfl) rfl fun b4 a w s=> ?_
 refine yR (uI 0) rfl s kH iiz fun a w s=> ?_
 refine zA rfl ?_
 refine zXP ?_
 refine zXP ?_
 refine zB 4 ((18,.Z (fLV m d))::(19,.Z (jF d))::(20,.s (zQW d))::(21,.u (uB true)):: []) hmix s kH
  (oc zE<|oc (zJ zD zPL (fun u0 W hb (h0:LV W m u0 d)=>(zD3 h0 oO)))<|oc (zEd kH iiz)<|oc (zEe hz)<|zC) fun a w2 s=> ?_
 refine zA rfl ?_
 refine StS.cond s true iiz (fun e=> ?_) (fun e=>by cases e)
 refine zXP ?_
 replace s:=s.drop [5]
 refine zB 1 ((22,.u (fQN ((0:Int):Rat))):: []) hmix s kH
  (oc (zJ zD zH4 (fun u0 W hb (h0:u0= .int .i64 0)=>zEo 0 h0 dA))<|zC) fun a w3 s=> ?_
 refine zQ (wC (fQN ((0:Int):Rat))) ((fQN ((0:Int):Rat)).tS) rfl s kH rfl rfl rfl iiz iiz yI fun a w s=> ?_
 refine yR (uI 30) rfl s kH iiz fun a w s=> ?_
 refine zA rfl ?_
 refine zXQ ?_
 exact wU s (wC (fQN ((0:Int):Rat))) rfl kH rfl rfl (qX _) (fun cs v W h1 h2=>⟨_,_,rfl,by rw [hq0];exact h1,h2⟩)
theorem zL6 {k:Int} (h:UV W m v k) (h':LV W m v' d) (hm:m<=2000) (hd0:0<d):Calls prog 66 #[v,v'] W (Ret W (zAC (fQN (mkRat k d)) (fI 0)).tS):=by
 have bk:k.natAbs<BB^m:=h.bound
 have hz:false=decide (d=0):=(zX7 oO).symm
 have hdiv: ∀W u0 u1 x,LV W m u0 x->qU W u1 (Nat.gcd k.natAbs d)->Calls prog 93 #[u0,u1] W (Ret W (zFI (jF (x / (Nat.gcd k.natAbs d))) (jF (x % (Nat.gcd k.natAbs d))) (fI 0)).tS):=fun W u0 u1 x h1 h2=>by
  refine (zTx h1 (qU.lv (m:=m) h2 (zXR (Nat.gcd_le_right _ hd0) h'.bound)) oO (zYJ _ hd0)).mono ?_
  rintro e w' ⟨v1,v2,rfl,h3,h4,hb⟩
  exact ⟨_,rfl,⟨v1,v2,_,rfl,h3,h4,rfl⟩,hb⟩
 refine z9 [(fUV m k).tS,(fLV m d).tS] func66 rfl kH ⟨h,h',trivial⟩ fun a s=> ?_
 refine zXP ?_
 refine zB 0 [] hmix s kH
  zC fun a w1 s=> ?_
 refine yK (wC (fUV m k)) rfl s kH (fun v W h=>zP7 h) fun b2 a w s=> ?_
 refine zZ (CU.len 3) (cs:=zR3) kH rfl s kH (fun W=>rfl) rfl fun b4 a w s=> ?_
 refine yR (uI 0) rfl s kH iiz fun a w s=> ?_
 refine zA rfl ?_
 refine zXP ?_
 refine zXP ?_
 refine zB 4 ((18,.Z (fLV m d))::(19,.Z (jF d))::(20,.s (zQW d))::(21,.u (uB false)):: []) hmix s kH
  (oc zE<|oc (zJ zD zPL (fun u0 W hb (h0:LV W m u0 d)=>(zD3 h0 oO)))<|oc (zEd kH iiz)<|oc (zEe hz)<|zC) fun a w2 s=> ?_
 refine zA rfl ?_
 refine StS.cond s false iiz (fun e=>by cases e) (fun e=> ?_)
 refine zXX ?_
 refine zXP ?_
 refine zB 2 ((23,.Z (fUV m k))::(24,.u (fNV k)):: []) hmix s kH
  (oc (zK (f:=fUV m k) 2 kH (hz:=zP5 _ _))<|oc (zJ zD zSQ (fun u0 W hb (h0:UV W m u0 k)=>zGt h0 oO))<|zC) fun a w3 s=> ?_
 refine zQ (wC (fNV k)) ((fNV k).tS) rfl s kH rfl rfl rfl (zP5 _ _) iiz zGD fun a w s=> ?_
 refine zA rfl ?_
 refine zXP ?_
 refine zB 8 ((26,.X (fNV k) 1)::(27,.Z (jF ((k).natAbs)))::(28,.Z (zAC (wB (.int .u64 ((zN ((k).natAbs):Nat):Int))) (uB (yX ((k).natAbs)))))::(25,.Z (zAC (wB (.int .u64 ((zN ((k).natAbs):Nat):Int))) (uB (yX ((k).natAbs)))))::(29,.Z (wB (.int .u64 ((zN ((k).natAbs):Nat):Int))))::(30,.Z (uB (yX ((k).natAbs))))::(6,.u (wB (.int .u64 ((zN ((k).natAbs):Nat):Int))))::(7,.u (uB (yX ((k).natAbs)))):: []) hmix s kH
  (oc (zL (C:=cg (fNV k)) 1 kH)<|oc (jJ (C:=cg (fNV k)) (k:=1) kH (h:=zHM))<|oc (zJ zD zUm (fun u0 W hb (h0:qU W u0 ((k).natAbs))=>zHz (qU.lv (m:=m) h0 bk) oO))<|oc zE<|oc (zAR (A:=(wB (.int .u64 ((zN ((k).natAbs):Nat):Int))).tS) (B:=(uB (yX ((k).natAbs))).tS) iiz)<|oc (zAQ (A:=(wB (.int .u64 ((zN ((k).natAbs):Nat):Int))).tS) (B:=(uB (yX ((k).natAbs))).tS) iiz)<|oc zF<|oc zF<|zC) fun a w4 s=> ?_
 refine zA rfl ?_
 refine zXP ?_
 refine zB 7 ((32,.Z (fLV m d))::(33,.Z (zAC (wB (.int .u64 ((zN d:Nat):Int))) (uB (yX d))))::(31,.Z (zAC (wB (.int .u64 ((zN d:Nat):Int))) (uB (yX d))))::(34,.Z (wB (.int .u64 ((zN d:Nat):Int))))::(35,.Z (uB (yX d)))::(8,.u (wB (.int .u64 ((zN d:Nat):Int))))::(9,.u (uB (yX d))):: []) hmix s kH
  (oc zE<|oc (zJ zD zUm (fun u0 W hb (h0:LV W m u0 d)=>zHz h0 oO))<|oc zE<|oc (zAR (A:=(wB (.int .u64 ((zN d:Nat):Int))).tS) (B:=(uB (yX d)).tS) iiz)<|oc (zAQ (A:=(wB (.int .u64 ((zN d:Nat):Int))).tS) (B:=(uB (yX d)).tS) iiz)<|oc zF<|oc zF<|zC) fun a w5 s=> ?_
 refine zA rfl ?_
 refine zXP ?_
 refine zXP ?_
 refine zB 4 ((36,.Z (uB (yX ((k).natAbs))))::(37,.Z (uB (yX ((k).natAbs))))::(38,.s (SF.imp ((yX ((k).natAbs))=true) ((uB (yX d)).tS)))::(39,.u (uB ((yX ((k).natAbs))&&(yX d)))):: []) hmix s kH
  (oc zE<|oc zE<|oc (zG 37 (yX ((k).natAbs)) kH iiz (fun e=>z5 [] ((uB (yX d)).tS) fnz fM kH zE) fL)<|oc (yO (yX ((k).natAbs)) iiz (fun e v W h=>zAP (zT e h) e) (fun e v W h=>zAe h e))<|zC) fun a w6 s=> ?_
 refine zA rfl ?_
 refine StS.cond s ((yX ((k).natAbs))&&(yX d)) iiz (fun e=> ?_) (fun e=> ?_)
 ·rw [zYi] at e
  have hs1:zN k.natAbs=k.natAbs:=by have:=e.1;unfold yX at this;unfold zN;rw [if_pos (zXT this)]
  have hs2:zN d=d:=by have:=e.2;unfold yX at this;unfold zN;rw [if_pos (zXT this)]
  have hg0:((Nat.gcd (zN k.natAbs) (zN d):Nat):Int)≠0:=by rw [hs1,hs2];have:=zYJ k.natAbs hd0;omega
  have hden:(mkRat k d).den=zN d / (Nat.gcd (zN k.natAbs) (zN d)):=by rw [hs1,hs2];exact zCI k d hd0
  have hlt: ∀x,x<18446744073709551616->x<BB^zNk:=fun x hx=>zT1 hx _ dA
  have hnum: ∀W u,UV W zNk u (if decide (k<0) then -(((zN k.natAbs / (Nat.gcd (zN k.natAbs) (zN d))):Nat):Int) else (((zN k.natAbs / (Nat.gcd (zN k.natAbs) (zN d))):Nat):Int))->Calls prog 65 #[u] W (zG7 W (mkRat k d).num):=fun W u hu=>by
   have:=zGt hu dA
   rw [hs1,hs2,zEp k d hd0] at this
   exact this
  refine zXP ?_
  refine zB 4 ((40,.Z (wB (.int .u64 ((zN ((k).natAbs):Nat):Int))))::(41,.Z (wB (.int .u64 ((zN d:Nat):Int))))::(42,.Z (wB (.int .u64 ((Nat.gcd (zN k.natAbs) (zN d):Nat):Int))))::(10,.u (wB (.int .u64 ((Nat.gcd (zN k.natAbs) (zN d):Nat):Int)))):: []) hmix s kH
   (oc zE<|oc zE<|oc (zI zD zVR (fun u0 u1 W hb (h0:u0= .int .u64 ((zN ((k).natAbs):Nat):Int)) (h1:u1= .int .u64 ((zN d:Nat):Int))=>zL5 _ _ h0 h1 (zAX _) (zAX _)))<|oc zF<|zC) fun a w7 s=> ?_
  refine zA rfl ?_
  refine zXP ?_
  replace s:=s.drop [5]
  refine z7 [2,3,8,9] 13 ((43,.X (fNV k) 0)::(44,.Z (uB (decide (k<0))))::(45,.Z (wB (.int .u64 ((zN ((k).natAbs):Nat):Int))))::(46,.Z (wB (.int .u64 ((Nat.gcd (zN k.natAbs) (zN d):Nat):Int))))::(47,.Z (wB (.int .u64 ((zN k.natAbs / (Nat.gcd (zN k.natAbs) (zN d)):Nat):Int))))::(48,.Z (jF (zN k.natAbs / (Nat.gcd (zN k.natAbs) (zN d)))))::(49,.Z (fUV zNk (if decide (k<0) then -((zN k.natAbs / (Nat.gcd (zN k.natAbs) (zN d)):Nat):Int) else ((zN k.natAbs / (Nat.gcd (zN k.natAbs) (zN d)):Nat):Int))))::(50,.Z (fNV ((mkRat k d).num)))::(51,.Z (wB (.int .u64 ((zN d:Nat):Int))))::(52,.Z (wB (.int .u64 ((Nat.gcd (zN k.natAbs) (zN d):Nat):Int))))::(53,.Z (wB (.int .u64 ((zN d / (Nat.gcd (zN k.natAbs) (zN d)):Nat):Int))))::(54,.Z (jF (zN d / (Nat.gcd (zN k.natAbs) (zN d)))))::(55,.u (fQN (mkRat k d))):: []) hmix s kH
   (oc (zL (C:=cg (fNV k)) 0 kH)<|oc (jJ (C:=cg (fNV k)) (k:=0) kH (h:=zME))<|oc zE<|oc zE<|oc (zMw .u64 ((zN ((k).natAbs):Nat):Int) ((Nat.gcd (zN k.natAbs) (zN d):Nat):Int) ((zN k.natAbs / (Nat.gcd (zN k.natAbs) (zN d)):Nat):Int) iiz iiz hg0 (zS6 _ _ (by rw [zYC oO,Int.natCast_ediv]) (zXR (zX0 _ _) (zAX _))))<|oc (zJ zD zUo (fun u0 W hb (h0:u0= .int .u64 ((zN k.natAbs / (Nat.gcd (zN k.natAbs) (zN d)):Nat):Int))=>zQm _ (zXR (zX0 _ _) (zAX _)) h0))<|oc (y4 (fun u v W (hu:u= .bool (decide (k<0))) (hv:qU W v (zN k.natAbs / (Nat.gcd (zN k.natAbs) (zN d))))=>zSZ hu hv (hlt _ (by first|exact zXR (zX0 _ _) (zAX _)|exact hk64|exact zXR (zX0 _ _) (zXZ bk (zX2 qA (zXY hm dA)))))))<|oc (zJ zD zSQ (fun u0 W hb (h0:UV W zNk u0 (if decide (k<0) then -((zN k.natAbs / (Nat.gcd (zN k.natAbs) (zN d)):Nat):Int) else ((zN k.natAbs / (Nat.gcd (zN k.natAbs) (zN d)):Nat):Int)))=>hnum W u0 (h0:UV W zNk u0 _)))<|oc zE<|oc zE<|oc (zMw .u64 ((zN d:Nat):Int) ((Nat.gcd (zN k.natAbs) (zN d):Nat):Int) ((zN d / (Nat.gcd (zN k.natAbs) (zN d)):Nat):Int) iiz iiz hg0 (zS6 _ _ (by rw [zYC oO,Int.natCast_ediv]) (zXR (zX0 _ _) (zAX _))))<|oc (zJ zD zUo (fun u0 W hb (h0:u0= .int .u64 ((zN d / (Nat.gcd (zN k.natAbs) (zN d)):Nat):Int))=>zQm _ (zXR (zX0 _ _) (zAX _)) h0))<|oc (y4 (fun u v W (hu:NV W u ((mkRat k d).num)) (hv:qU W v (zN d / (Nat.gcd (zN k.natAbs) (zN d))))=>zIf (q:=mkRat k d) hu (by first|exact hv|(rw [hden];exact hv))))<|zC) fun Q' hQ a w8 s=> ?_
  refine zQ (wC (fQN (mkRat k d))) ((fQN (mkRat k d)).tS) rfl s kH rfl rfl rfl iiz iiz yI fun a w s=> ?_
  refine yR (uI 0) rfl s kH iiz fun a w s=> ?_
  refine zA rfl (hQ _ _ ?_)
  refine zXQ ?_
  exact wU s (wC (fQN (mkRat k d))) rfl kH rfl rfl (qX _) (fun cs v W h1 h2=>⟨_,_,rfl,h1,h2⟩)
 ·have hlt: ∀x,x<BB^zNk->x<BB^zNk:=fun x hx=>hx
  have hden:(mkRat k d).den=d / (Nat.gcd k.natAbs d):=zCI k d hd0
  have hnum: ∀W u,UV W zNk u (if decide (k<0) then -((((k).natAbs / (Nat.gcd k.natAbs d)):Nat):Int) else ((((k).natAbs / (Nat.gcd k.natAbs d)):Nat):Int))->Calls prog 65 #[u] W (zG7 W (mkRat k d).num):=fun W u hu=>by
   have:=zGt hu dA
   rw [zEp k d hd0] at this
   exact this
  refine zXX ?_
  refine zXP ?_
  refine zB 5 ((56,.X (fNV k) 1)::(57,.Z (jF ((k).natAbs)))::(58,.Z (fLV m d))::(59,.Z (jF (Nat.gcd k.natAbs d)))::(11,.u (jF (Nat.gcd k.natAbs d))):: []) hmix s kH
   (oc (zL (C:=cg (fNV k)) 1 kH)<|oc (jJ (C:=cg (fNV k)) (k:=1) kH (h:=zHM))<|oc zE<|oc (zI zD zVQ (fun u0 u1 W hb (h0:qU W u0 ((k).natAbs)) (h1:LV W m u1 d)=>zR6 (qU.lv (m:=m) h0 bk) h1 oO))<|oc zF<|zC) fun a w9 s=> ?_
  refine zA rfl ?_
  refine zXP ?_
  refine zB 11 ((61,.X (fNV k) 1)::(62,.Z (jF ((k).natAbs)))::(63,.Z (jF (Nat.gcd k.natAbs d)))::(64,.Z (zFI (jF (((k).natAbs) / (Nat.gcd k.natAbs d))) (jF (((k).natAbs) % (Nat.gcd k.natAbs d))) (uI 0)))::(60,.Z (zFI (jF (((k).natAbs) / (Nat.gcd k.natAbs d))) (jF (((k).natAbs) % (Nat.gcd k.natAbs d))) (uI 0)))::(65,.Z (jF (((k).natAbs) / (Nat.gcd k.natAbs d))))::(66,.Z (jF (((k).natAbs) % (Nat.gcd k.natAbs d))))::(67,.Z (uI 0))::(12,.u (jF (((k).natAbs) / (Nat.gcd k.natAbs d))))::(13,.Z (jF (((k).natAbs) % (Nat.gcd k.natAbs d))))::(14,.Z (uI 0)):: []) hmix s kH
   (oc (zL (C:=cg (fNV k)) 1 kH)<|oc (jJ (C:=cg (fNV k)) (k:=1) kH (h:=zHM))<|oc zE<|oc (zI zD zUl (fun u0 u1 W hb (h0:qU W u0 ((k).natAbs)) (h1:qU W u1 (Nat.gcd k.natAbs d))=>hdiv W u0 u1 _ (qU.lv (m:=m) h0 bk) h1))<|oc zE<|oc (zEL (A:=(jF (((k).natAbs) / (Nat.gcd k.natAbs d))).tS) (B:=(jF (((k).natAbs) % (Nat.gcd k.natAbs d))).tS) (C:=(uI 0).tS) iiz)<|oc (zEK (A:=(jF (((k).natAbs) / (Nat.gcd k.natAbs d))).tS) (B:=(jF (((k).natAbs) % (Nat.gcd k.natAbs d))).tS) (C:=(uI 0).tS) iiz)<|oc (zEJ (A:=(jF (((k).natAbs) / (Nat.gcd k.natAbs d))).tS) (B:=(jF (((k).natAbs) % (Nat.gcd k.natAbs d))).tS) (C:=(uI 0).tS) iiz)<|oc zF<|oc zF<|oc zF<|zC) fun a w10 s=> ?_
  refine zA rfl ?_
  refine zXP ?_
  refine zB 10 ((69,.Z (fLV m d))::(70,.Z (jF (Nat.gcd k.natAbs d)))::(71,.Z (zFI (jF (d / (Nat.gcd k.natAbs d))) (jF (d % (Nat.gcd k.natAbs d))) (uI 0)))::(68,.Z (zFI (jF (d / (Nat.gcd k.natAbs d))) (jF (d % (Nat.gcd k.natAbs d))) (uI 0)))::(72,.Z (jF (d / (Nat.gcd k.natAbs d))))::(73,.Z (jF (d % (Nat.gcd k.natAbs d))))::(74,.Z (uI 0))::(15,.u (jF (d / (Nat.gcd k.natAbs d))))::(16,.Z (jF (d % (Nat.gcd k.natAbs d))))::(17,.Z (uI 0)):: []) hmix s kH
   (oc zE<|oc zE<|oc (zI zD zUl (fun u0 u1 W hb (h0:LV W m u0 d) (h1:qU W u1 (Nat.gcd k.natAbs d))=>hdiv W u0 u1 _ h0 h1))<|oc zE<|oc (zEL (A:=(jF (d / (Nat.gcd k.natAbs d))).tS) (B:=(jF (d % (Nat.gcd k.natAbs d))).tS) (C:=(uI 0).tS) iiz)<|oc (zEK (A:=(jF (d / (Nat.gcd k.natAbs d))).tS) (B:=(jF (d % (Nat.gcd k.natAbs d))).tS) (C:=(uI 0).tS) iiz)<|oc (zEJ (A:=(jF (d / (Nat.gcd k.natAbs d))).tS) (B:=(jF (d % (Nat.gcd k.natAbs d))).tS) (C:=(uI 0).tS) iiz)<|oc zF<|oc zF<|oc zF<|zC) fun a w11 s=> ?_
  refine zA rfl ?_
  refine zXP ?_
  replace s:=s.drop [5]
  refine zB 7 ((75,.X (fNV k) 0)::(76,.Z (uB (decide (k<0))))::(77,.Z (jF (((k).natAbs) / (Nat.gcd k.natAbs d))))::(78,.Z (fUV zNk (if decide (k<0) then -((((k).natAbs) / (Nat.gcd k.natAbs d):Nat):Int) else ((((k).natAbs) / (Nat.gcd k.natAbs d):Nat):Int))))::(79,.Z (fNV ((mkRat k d).num)))::(80,.Z (jF (d / (Nat.gcd k.natAbs d))))::(81,.u (fQN (mkRat k d))):: []) hmix s kH
   (oc (zL (C:=cg (fNV k)) 0 kH)<|oc (jJ (C:=cg (fNV k)) (k:=0) kH (h:=zME))<|oc zE<|oc (y4 (fun u v W (hu:u= .bool (decide (k<0))) (hv:qU W v (((k).natAbs) / (Nat.gcd k.natAbs d)))=>zSZ hu hv (hlt _ (by first|exact zXR (zX0 _ _) (zAX _)|exact hk64|exact zXR (zX0 _ _) (zXZ bk (zX2 qA (zXY hm dA)))))))<|oc (zJ zD zSQ (fun u0 W hb (h0:UV W zNk u0 (if decide (k<0) then -((((k).natAbs) / (Nat.gcd k.natAbs d):Nat):Int) else ((((k).natAbs) / (Nat.gcd k.natAbs d):Nat):Int)))=>hnum W u0 (h0:UV W zNk u0 _)))<|oc zE<|oc (y4 (fun u v W (hu:NV W u ((mkRat k d).num)) (hv:qU W v (d / (Nat.gcd k.natAbs d)))=>zIf (q:=mkRat k d) hu (by first|exact hv|(rw [hden];exact hv))))<|zC) fun a w12 s=> ?_
  refine zQ (wC (fQN (mkRat k d))) ((fQN (mkRat k d)).tS) rfl s kH rfl rfl rfl iiz iiz yI fun a w s=> ?_
  refine yR (uI 0) rfl s kH iiz fun a w s=> ?_
  refine zA rfl ?_
  refine zXQ ?_
  exact wU s (wC (fQN (mkRat k d))) rfl kH rfl rfl (qX _) (fun cs v W h1 h2=>⟨_,_,rfl,h1,h2⟩)
theorem zIz {k:Int} (h:UV W m v k) (h':LV W m v' d) (hm:m<=2000):Calls prog 66 #[v,v'] W (Ret W (zAC (fQN (mkRat k d)) (fI (if d=0 then 30 else 0))).tS):=by
 by_cases hd:d=0
 ·rw [if_pos hd]
  exact zRV h h' hm hd
 ·rw [if_neg hd]
  exact zL6 h h' hm oO
theorem zOL {k:Int} (h:QVp m k d v W) (hm:m<=2000):Calls prog 37 #[v] W (Ret W (fQN (mkRat k d)).tS):=by
 refine z9 [(fQV m k d).tS] func37 rfl kH ⟨h,trivial⟩ fun a s=> ?_
 refine zXP ?_
 refine zB 0 [] hmix s kH
  zC fun a w1 s=> ?_
 refine yK (wC (fQV m k d)) rfl s kH (fun v W h=>zFc h) fun b1 a w s=> ?_
 refine zZ (CU.len 3) (cs:=zR3) kH rfl s kH (fun W=>rfl) rfl fun b2 a w s=> ?_
 refine zA rfl ?_
 refine zXP ?_
 refine zB 8 ((6,.X (fQV m k d) 0)::(7,.Z (fUV m k))::(8,.X (fQV m k d) 2)::(9,.Z (fLV m d))::(10,.Z (zAC (fQN (mkRat k d)) (uI (if d=0 then 30 else 0))))::(5,.Z (zAC (fQN (mkRat k d)) (uI (if d=0 then 30 else 0))))::(11,.u (fQN (mkRat k d)))::(12,.u (uI (if d=0 then 30 else 0))):: []) hmix s kH
  (oc (zL (C:=cg (fQV m k d)) 0 kH)<|oc (zR (C:=cg (fQV m k d)) (k:=0) 2 kH (h:=zMf))<|oc (zL (C:=cg (fQV m k d)) 2 kH)<|oc (jJ (C:=cg (fQV m k d)) (k:=2) kH (h:=zHB))<|oc (zI zD zPI (fun u0 u1 W hb (h0:UV W m u0 k) (h1:LV W m u1 d)=>zIz h0 h1 hm))<|oc zE<|oc (zAR (A:=(fQN (mkRat k d)).tS) (B:=(uI (if d=0 then 30 else 0)).tS) iiz)<|oc (zAQ (A:=(fQN (mkRat k d)).tS) (B:=(uI (if d=0 then 30 else 0)).tS) iiz)<|zC) fun a w2 s=> ?_
 refine zZ (CU.len 3) (cs:=zR3) kH rfl s kH (fun W=>rfl) rfl fun b3 a w s=> ?_
 refine zQ (wC (fQN (mkRat k d))) ((fQN (mkRat k d)).tS) rfl s kH rfl rfl rfl iiz iiz yI fun a w s=> ?_
 refine yR (uI (if d=0 then 30 else 0)) rfl s kH iiz fun a w s=> ?_
 refine zA rfl ?_
 refine zXP ?_
 refine zB 1 ((13,.u (fQN (mkRat k d))):: []) hmix s kH
  (oc (zK (f:=fQN (mkRat k d)) 3 kH (hz:=qX _))<|zC) fun a w3 s=> ?_
 refine zQ (wC (fQN (mkRat k d))) ((fQN (mkRat k d)).tS) rfl s kH rfl rfl rfl iiz iiz yI fun a w s=> ?_
 refine zA rfl ?_
 refine zXQ ?_
 exact wI s (wC (fQN (mkRat k d))) rfl kH rfl rfl (qX _) (fun cs W h=>h)
theorem zBC {q:Rat} (h:RVp m q v W) (hm:m<=2000):Calls prog 37 #[v] W (Ret W (fQN q).tS):=by
 obtain ⟨k,d,h1,rfl⟩:=h
 exact zOL h1 hm
theorem zL3 (n:Int) (d:Nat) (hd:0<d):(mkRat n d).num.sign=n.sign:=by
 have h1:=decide_eq_decide.1 (zCj n d hd)
 have h2:(mkRat n d).num=0↔n=0:=by rw [zYD,Rat.mkRat_eq_zero oO]
 rcases Int.lt_trichotomy n 0 with h|h|h
 ·rw [zYE h,zYE (h1.2 h)]
 ·rw [h2.2 h,h]
 ·rw [zYF h,zYF (by have:=mt h1.1 oO;have:=mt h2.1 oO;omega)]
theorem zOJ {k:Int} (h:QVp m k d v W) (hm:m<=2000) (hd:d=0):Calls prog 11 #[v] W (Ret W (fI 0).tS):=by
 have hz:true=decide (d=0):=(zX3 hd).symm
 refine z9 [(fQV m k d).tS] func11 rfl kH ⟨h,trivial⟩ fun a s=> ?_
 refine zXP ?_
 refine zB 0 [] hmix s kH
  zC fun a w1 s=> ?_
 refine yK (wC (fQV m k d)) rfl s kH (fun v W h=>zFc h) fun b1 a w s=> ?_
 refine yR (uI 0) rfl s kH iiz fun a w s=> ?_
 refine zA rfl ?_
 refine zXP ?_
 refine zXP ?_
 refine zB 5 ((3,.X (fQV m k d) 2)::(4,.Z (fLV m d))::(5,.Z (jF d))::(6,.s (zQW d))::(7,.u (uB true)):: []) hmix s kH
  (oc (zL (C:=cg (fQV m k d)) 2 kH)<|oc (jJ (C:=cg (fQV m k d)) (k:=2) kH (h:=zHB))<|oc (zJ zD zPL (fun u0 W hb (h0:LV W m u0 d)=>(zD3 h0 oO)))<|oc (zEd kH iiz)<|oc (zEe hz)<|zC) fun a w2 s=> ?_
 refine zA rfl ?_
 refine StS.cond s true iiz (fun e=> ?_) (fun e=>by cases e)
 refine zXP ?_
 replace s:=s.drop [2]
 refine zB 1 ((2,.u (uI 0)):: []) hmix s kH
  (oc zF<|zC) fun a w3 s=> ?_
 refine zA rfl ?_
 refine zXQ ?_
 exact wG s (t:=2) rfl iiz
theorem zOK {k:Int} (h:QVp m k d v W) (hm:m<=2000) (hd:0<d):Calls prog 11 #[v] W (Ret W (fI k.sign).tS):=by
 have hz:false=decide (d=0):=(zX7 oO).symm
 refine z9 [(fQV m k d).tS] func11 rfl kH ⟨h,trivial⟩ fun a s=> ?_
 refine zXP ?_
 refine zB 0 [] hmix s kH
  zC fun a w1 s=> ?_
 refine yK (wC (fQV m k d)) rfl s kH (fun v W h=>zFc h) fun b1 a w s=> ?_
 refine yR (uI 0) rfl s kH iiz fun a w s=> ?_
 refine zA rfl ?_
 refine zXP ?_
 refine zXP ?_
 refine zB 5 ((3,.X (fQV m k d) 2)::(4,.Z (fLV m d))::(5,.Z (jF d))::(6,.s (zQW d))::(7,.u (uB false)):: []) hmix s kH
  (oc (zL (C:=cg (fQV m k d)) 2 kH)<|oc (jJ (C:=cg (fQV m k d)) (k:=2) kH (h:=zHB))<|oc (zJ zD zPL (fun u0 W hb (h0:LV W m u0 d)=>(zD3 h0 oO)))<|oc (zEd kH iiz)<|oc (zEe hz)<|zC) fun a w2 s=> ?_
 refine zA rfl ?_
 refine StS.cond s false iiz (fun e=>by cases e) (fun e=> ?_)
 refine zXX ?_
 refine zXP ?_
 replace s:=s.drop [2]
 refine zB 4 ((8,.X (fQV m k d) 0)::(9,.Z (fUV m k))::(10,.Z (uI (k.sign)))::(2,.u (uI (k.sign))):: []) hmix s kH
  (oc (zL (C:=cg (fQV m k d)) 0 kH)<|oc (zR (C:=cg (fQV m k d)) (k:=0) 2 kH (h:=zMf))<|oc (zJ zD zUv (fun u0 W hb (h0:UV W m u0 k)=>zES (zJu h0 oO)))<|oc zF<|zC) fun a w3 s=> ?_
 refine zA rfl ?_
 refine zXQ ?_
 exact wG s (t:=2) rfl iiz
theorem zGs {q:Rat} (h:RVp m q v W) (hm:m<=2000):Calls prog 11 #[v] W (Ret W (fI q.num.sign).tS):=by
 obtain ⟨k,d,h1,rfl⟩:=h
 by_cases hd:d=0
 ·have:=zOJ h1 hm hd
  rw [hd,zYe]
  exact this
 ·rw [zL3 k d oO]
  exact zOK h1 hm oO
theorem zRU {u:Wj} {p q:Rat} (h:QNp p u W) (h':QNp q v W) (hp:QB p m) (hq:QB q m) (hm:m<=990):Calls prog 71 #[u,v] W (Ret W (fQN (p+q)).tS):=by
 have hnew: ∀W u0 u1,NV W u0 (((p).num*((q).den:Int))+((q).num*((p).den:Int)))->qU W u1 ((p).den*(q).den)->Calls prog 66 #[u0,u1] W (Ret W (zAC (fQN (p+q)) UF.any).tS):=fun W u0 u1 h0 h1=>by
  have:=zIz (m:=m+m+1) (h0.uv' (hp.num_add hq)) (h1.lv (zXZ (hp.den_mul hq) (zX2 qA oO))) oO
  rw [<-Rat.add_def' p q] at this
  exact this.mono fun e w' ⟨v,e1,⟨x,y,e2,h2,_⟩,hb⟩=>⟨v,e1,⟨x,y,e2,h2,trivial⟩,hb⟩
 refine z9 [(fQN p).tS,(fQN q).tS] func71 rfl kH ⟨h,h',trivial⟩ fun a s=> ?_
 refine zXP ?_
 refine zB 0 [] hmix s kH
  zC fun a w1 s=> ?_
 refine yK (wC (fQN p)) rfl s kH (fun v W h=>zQq h) fun b2 a w s=> ?_
 refine yK (wC (fQN q)) rfl s kH (fun v W h=>zQq h) fun b3 a w s=> ?_
 refine zZ (CU.len 3) (cs:=zR3) kH rfl s kH (fun W=>rfl) rfl fun b4 a w s=> ?_
 refine zA rfl ?_
 refine zXP ?_
 have so:=s.old;have sg:=s.gr
 refine zBl (fun i=> [24].contains i) [⟨25,5,28, [.bool false, sN, sN],wJ w 28 (CU.len 3)⟩] 26 ((8,.X (fQN p) 0)::(9,.Z (fNV ((p).num)))::(10,.X (fQN q) 2)::(11,.Z (jF ((q).den)))::(12,.Z (fNV ((q).den:Int)))::(13,.s (zKZ (m+m) [(p).num,((q).den:Int)]))::(14,.Z (fNV ((p).num*((q).den:Int))))::(15,.X (fQN q) 0)::(16,.Z (fNV ((q).num)))::(17,.X (fQN p) 2)::(18,.Z (jF ((p).den)))::(19,.Z (fNV ((p).den:Int)))::(20,.s (zKZ (m+m) [(q).num,((p).den:Int)]))::(21,.Z (fNV ((q).num*((p).den:Int))))::(22,.s (zKZ (m+m) [((p).num*((q).den:Int)),((q).num*((p).den:Int))]))::(23,.Z (fNV (((p).num*((q).den:Int))+((q).num*((p).den:Int)))))::(24,.X (fQN p) 2)::(25,.Z (jF ((p).den)))::(26,.X (fQN q) 2)::(27,.Z (jF ((q).den)))::(28,.Z (jF ((p).den*(q).den)))::(29,.Z (zAC (fQN (p+q)) (UF.any)))::(7,.Z (zAC (fQN (p+q)) (UF.any)))::(30,.u (fQN (p+q)))::(5,.s (wJ w 28 (CU.len 3))):: []) hmix s (fmz ⟨⟨by show 25<26;decide,.tail _ (.tail _ (.tail _ (.tail _ (.tail _ (.tail _ (.tail _ (.tail _ (.tail _ zJM)))))))),⟨_,_,_,rfl⟩,by kernel_rfl,zBt (fun _=>rfl) rfl⟩,fnz⟩) kH
  (oc (zL (C:=cg (fQN p)) 0 kH)<|oc (zR (C:=cg (fQN p)) (k:=0) 2 kH (h:=zBy))<|oc (zL (C:=cg (fQN q)) 2 kH)<|oc (jJ (C:=cg (fQN q)) (k:=2) kH (h:=zBc))<|oc (zJ zD zPK (fun u0 W hb (h0:qU W u0 ((q).den))=>zJD h0))<|oc (yJ (fun u v W (hu:NV W u ((p).num)) (hv:NV W v ((q).den:Int))=>zBi (NV.uv' hu (Bd.mono (hp).1 (m':=(m+m)) (by first|omega|decide))) (NV.uv' hv (Bd.mono (jK hq.2) (m':=(m+m)) (by first|omega|decide)))))<|oc (zJ zD zK1 (fun u0 W hb (h0:ISV W (m+m) u0 [(p).num,((q).den:Int)])=>zD6 h0 (by show (m+m)*2+(m+m)+1<=40000;omega) fN fN))<|oc (zL (C:=cg (fQN q)) 0 kH)<|oc (zR (C:=cg (fQN q)) (k:=0) 2 kH (h:=zBy))<|oc (zL (C:=cg (fQN p)) 2 kH)<|oc (jJ (C:=cg (fQN p)) (k:=2) kH (h:=zBc))<|oc (zJ zD zPK (fun u0 W hb (h0:qU W u0 ((p).den))=>zJD h0))<|oc (yJ (fun u v W (hu:NV W u ((q).num)) (hv:NV W v ((p).den:Int))=>zBi (NV.uv' hu (Bd.mono (hq).1 (m':=(m+m)) (by first|omega|decide))) (NV.uv' hv (Bd.mono (jK hp.2) (m':=(m+m)) (by first|omega|decide)))))<|oc (zJ zD zK1 (fun u0 W hb (h0:ISV W (m+m) u0 [(q).num,((p).den:Int)])=>zD6 h0 (by show (m+m)*2+(m+m)+1<=40000;omega) fN fN))<|oc (yJ (fun u v W (hu:NV W u ((p).num*((q).den:Int))) (hv:NV W v ((q).num*((p).den:Int)))=>zBi (NV.uv' hu (Bd.mul (hp).1 (jK hq.2))) (NV.uv' hv (Bd.mul (hq).1 (jK hp.2)))))<|oc (zJ zD zV6 (fun u0 W hb (h0:ISV W (m+m) u0 [((p).num*((q).den:Int)),((q).num*((p).den:Int))])=>zR4 h0 oO fN fN))<|oc (zL (C:=cg (fQN p)) 2 kH)<|oc (jJ (C:=cg (fQN p)) (k:=2) kH (h:=zBc))<|oc (zL (C:=cg (fQN q)) 2 kH)<|oc (jJ (C:=cg (fQN q)) (k:=2) kH (h:=zBc))<|oc (zI zD zSP (fun u0 u1 W hb (h0:qU W u0 ((p).den)) (h1:qU W u1 ((q).den))=>zLS (qU.lv (m:=m) h0 hp.2) (qU.lv (m:=m) h1 hq.2) oO))<|oc (zI zD zPI (fun u0 u1 W hb (h0:NV W u0 (((p).num*((q).den:Int))+((q).num*((p).den:Int)))) (h1:qU W u1 ((p).den*(q).den))=>hnew W u0 u1 h0 h1))<|oc zE<|oc (zAR (A:=(fQN (p+q)).tS) (B:=(UF.any).tS) iiz)<|oc (zAQ (A:=(fQN (p+q)).tS) (B:=(UF.any).tS) iiz)<|oc (zCi (cs:=zR3) kH (zBt (fun _=>rfl) rfl))<|zC) fun Q' hQ a w2 s hr hd=> ?_
 obtain ⟨b5,_,e5,s⟩:=s.adoptA false 5 (hr (_,_) (.tail _ (.tail _ (.tail _ (.tail _ (.tail _ (.tail _ (.tail _ (.tail _ (.tail _ zJM)))))))))) sg (fun y hy=> .inl (so y hy))
 refine zQ (wC (fQN (p+q))) ((fQN (p+q)).tS) rfl s kH rfl rfl rfl iiz iiz yI fun a w s=> ?_
 refine yR UF.any rfl s kH (fun _ _ _=>trivial) fun a w s=> ?_
 refine zA rfl (hQ _ _ ?_)
 refine zXP ?_
 refine zB 1 ((32,.u (fQN (p+q))):: []) hmix s kH
  (oc (zK (f:=fQN (p+q)) 3 kH (hz:=qX _))<|zC) fun a w3 s=> ?_
 refine zQ (wC (fQN (p+q))) ((fQN (p+q)).tS) rfl s kH rfl rfl rfl iiz iiz yI fun a w s=> ?_
 refine zA rfl ?_
 refine zXQ ?_
 exact wI s (wC (fQN (p+q))) rfl kH rfl rfl (qX _) (fun cs W h=>h)
theorem zRW {q:Rat} (h:RVp m q v W) (hm:m<=990) (hm0:0<m):Calls prog 78 #[v] W (Ret W (fQN (-q)).tS):=by
 have hq:QB q m:=h.qb hm0
 refine z9 [(fRV m q).tS] func78 rfl kH ⟨h,trivial⟩ fun a s=> ?_
 refine zXP ?_
 refine zB 0 [] hmix s kH
  zC fun a w1 s=> ?_
 refine yK (wC (fRV m q)) rfl s kH (fun v W h=>jZ h) fun b1 a w s=> ?_
 refine zZ (CU.len 3) (cs:=zR3) kH rfl s kH (fun W=>rfl) rfl fun b2 a w s=> ?_
 refine zA rfl ?_
 refine zXP ?_
 refine zB 2 ((3,.Z (fRV m q))::(4,.u (fQN q)):: []) hmix s kH
  (oc (zK (f:=fRV m q) 3 kH (hz:=y5 _ _))<|oc (zJ zD zGV (fun u0 W hb (h0:RVp m q u0 W)=>zBC h0 oO))<|zC) fun a w2 s=> ?_
 refine zQ (wC (fQN q)) ((fQN q).tS) rfl s kH rfl rfl rfl (y5 _ _) iiz yI fun a w s=> ?_
 refine zA rfl ?_
 refine zXP ?_
 refine z7 [] 6 ((5,.X (fQN q) 0)::(6,.Z (fNV ((q).num)))::(7,.Z (fNV (-(q).num)))::(8,.X (fQN q) 2)::(9,.Z (jF ((q).den)))::(10,.u (fQN (-q))):: []) hmix s kH
  (oc (zL (C:=cg (fQN q)) 0 kH)<|oc (zR (C:=cg (fQN q)) (k:=0) 2 kH (h:=zBy))<|oc (zJ zD zV5 (fun u0 W hb (h0:NV W u0 ((q).num))=>zR1 (NV.uv' h0 (hq).1) oO))<|oc (zL (C:=cg (fQN q)) 2 kH)<|oc (jJ (C:=cg (fQN q)) (k:=2) kH (h:=zBc))<|oc (y4 (fun u v W (hu:NV W u (-(q).num)) (hv:qU W v ((q).den))=>zIf (q:= -q) hu hv))<|zC) fun Q' hQ a w3 s=> ?_
 refine zQ (wC (fQN (-q))) ((fQN (-q)).tS) rfl s kH rfl rfl rfl iiz iiz yI fun a w s=> ?_
 refine zA rfl (hQ _ _ ?_)
 refine zXQ ?_
 exact wI s (wC (fQN (-q))) rfl kH rfl rfl (qX _) (fun cs W h=>h)
theorem zL7 {u:Wj} {p q:Rat} (h:RVp m p u W) (h':RVp m q v W) (hm:m<=990) (hm0:0<m):Calls prog 12 #[u,v] W (Ret W (fI (qsg p q)).tS):=by
 have hp:QB p m:=h.qb hm0
 have hq:QB q m:=h'.qb hm0
 refine z9 [(fRV m p).tS,(fRV m q).tS] func12 rfl kH ⟨h,h',trivial⟩ fun a s=> ?_
 refine zXP ?_
 refine zB 0 [] hmix s kH
  zC fun a w1 s=> ?_
 refine yK (wC (fRV m p)) rfl s kH (fun v W h=>jZ h) fun b2 a w s=> ?_
 refine yK (wC (fRV m q)) rfl s kH (fun v W h=>jZ h) fun b3 a w s=> ?_
 refine yR (uI 0) rfl s kH iiz fun a w s=> ?_
 refine zA rfl ?_
 refine zXP ?_
 refine z7 [] 4 ((5,.Z (fRV m p))::(6,.u (fQN p))::(7,.Z (fRV m q))::(8,.u (fQN q)):: []) hmix s kH
  (oc (zK (f:=fRV m p) 3 kH (hz:=y5 _ _))<|oc (zJ zD zGV (fun u0 W hb (h0:RVp m p u0 W)=>zBC h0 oO))<|oc (zK (f:=fRV m q) 3 kH (hz:=y5 _ _))<|oc (zJ zD zGV (fun u0 W hb (h0:RVp m q u0 W)=>zBC h0 oO))<|zC) fun Q' hQ a w2 s=> ?_
 refine zQ (wC (fQN p)) ((fQN p).tS) rfl s kH rfl rfl rfl (y5 _ _) iiz yI fun a w s=> ?_
 refine zQ (wC (fQN q)) ((fQN q).tS) rfl s kH rfl rfl rfl (y5 _ _) iiz yI fun a w s=> ?_
 refine zA rfl (hQ _ _ ?_)
 refine zXP ?_
 replace s:=s.drop [4]
 refine zB 17 ((9,.X (fQN p) 0)::(10,.Z (fNV ((p).num)))::(11,.X (fQN q) 2)::(12,.Z (jF ((q).den)))::(13,.Z (fNV ((q).den:Int)))::(14,.s (zKZ (m+m) [(p).num,((q).den:Int)]))::(15,.Z (fNV ((p).num*((q).den:Int))))::(16,.X (fQN q) 0)::(17,.Z (fNV ((q).num)))::(18,.X (fQN p) 2)::(19,.Z (jF ((p).den)))::(20,.Z (fNV ((p).den:Int)))::(21,.s (zKZ (m+m) [(q).num,((p).den:Int)]))::(22,.Z (fNV ((q).num*((p).den:Int))))::(23,.Z (fNV (((p).num*((q).den:Int)) - ((q).num*((p).den:Int)))))::(24,.Z (uI (qsg p q)))::(4,.u (uI (qsg p q))):: []) hmix s kH
  (oc (zL (C:=cg (fQN p)) 0 kH)<|oc (zR (C:=cg (fQN p)) (k:=0) 2 kH (h:=zBy))<|oc (zL (C:=cg (fQN q)) 2 kH)<|oc (jJ (C:=cg (fQN q)) (k:=2) kH (h:=zBc))<|oc (zJ zD zPK (fun u0 W hb (h0:qU W u0 ((q).den))=>zJD h0))<|oc (yJ (fun u v W (hu:NV W u ((p).num)) (hv:NV W v ((q).den:Int))=>zBi (NV.uv' hu (Bd.mono (hp).1 (m':=(m+m)) (by first|omega|decide))) (NV.uv' hv (Bd.mono (jK hq.2) (m':=(m+m)) (by first|omega|decide)))))<|oc (zJ zD zK1 (fun u0 W hb (h0:ISV W (m+m) u0 [(p).num,((q).den:Int)])=>zD6 h0 (by show (m+m)*2+(m+m)+1<=40000;omega) fN fN))<|oc (zL (C:=cg (fQN q)) 0 kH)<|oc (zR (C:=cg (fQN q)) (k:=0) 2 kH (h:=zBy))<|oc (zL (C:=cg (fQN p)) 2 kH)<|oc (jJ (C:=cg (fQN p)) (k:=2) kH (h:=zBc))<|oc (zJ zD zPK (fun u0 W hb (h0:qU W u0 ((p).den))=>zJD h0))<|oc (yJ (fun u v W (hu:NV W u ((q).num)) (hv:NV W v ((p).den:Int))=>zBi (NV.uv' hu (Bd.mono (hq).1 (m':=(m+m)) (by first|omega|decide))) (NV.uv' hv (Bd.mono (jK hp.2) (m':=(m+m)) (by first|omega|decide)))))<|oc (zJ zD zK1 (fun u0 W hb (h0:ISV W (m+m) u0 [(q).num,((p).den:Int)])=>zD6 h0 (by show (m+m)*2+(m+m)+1<=40000;omega) fN fN))<|oc (zI zD zWh (fun u0 u1 W hb (h0:NV W u0 ((p).num*((q).den:Int))) (h1:NV W u1 ((q).num*((p).den:Int)))=>zR0 (NV.uv' h0 (Bd.mul (hp).1 (jK hq.2))) (NV.uv' h1 (Bd.mul (hq).1 (jK hp.2))) oO))<|oc (zJ zD zUv (fun u0 W hb (h0:NV W u0 (((p).num*((q).den:Int)) - ((q).num*((p).den:Int))))=>zES (zJu (NV.uv' h0 (Bd.sub (Bd.mul (hp).1 (jK hq.2)) (Bd.mul (hq).1 (jK hp.2)))) oO)))<|oc zF<|zC) fun a w3 s=> ?_
 refine zA rfl ?_
 refine zXQ ?_
 exact wG s (t:=4) rfl iiz
theorem zL4 {u:Wj} {p q:Rat} (h:RVp m p u W) (h':RVp m q v W) (hm:m<=990) (hm0:0<m):Calls prog 42 #[u,v] W (Ret W (zAC (fQN (p / q)) (fI (if q=0 then 30 else 0))).tS):=by
 have hp:QB p m:=h.qb hm0
 have hq:QB q m:=h'.qb hm0
 have bk2:Bd (if decide ((q).num<0) then -((q).den:Int) else ((q).den:Int)) m:=by split;exact (jK hq.2).neg;exact jK hq.2
 have hval:mkRat ((p).num*(if decide ((q).num<0) then -((q).den:Int) else ((q).den:Int))) ((p).den*(q).num.natAbs)=p / q:=zRP p q
 have herr:((p).den*(q).num.natAbs=0)=(q=0):=by rw [Nat.mul_eq_zero,Int.natAbs_eq_zero,zYD];have:=p.den_pos;simp;omega
 have hnew: ∀W u0 u1,NV W u0 ((p).num*(if decide ((q).num<0) then -((q).den:Int) else ((q).den:Int)))->qU W u1 ((p).den*(q).num.natAbs)->Calls prog 66 #[u0,u1] W (Ret W (zAC (fQN (p / q)) (fI (if q=0 then 30 else 0))).tS):=fun W u0 u1 h0 h1=>by
  have:=zIz (m:=m+m) (h0.uv' (Bd.mul hp.1 bk2)) (h1.lv (zD9 hp.2 hq.1)) oO
  simp only [hval,herr] at this
  exact this
 refine z9 [(fRV m p).tS,(fRV m q).tS] func42 rfl kH ⟨h,h',trivial⟩ fun a s=> ?_
 refine zXP ?_
 refine zB 0 [] hmix s kH
  zC fun a w1 s=> ?_
 refine yK (wC (fRV m p)) rfl s kH (fun v W h=>jZ h) fun b2 a w s=> ?_
 refine yK (wC (fRV m q)) rfl s kH (fun v W h=>jZ h) fun b3 a w s=> ?_
 refine zZ (CU.len 3) (cs:=zR3) kH rfl s kH (fun W=>rfl) rfl fun b4 a w s=> ?_
 refine yR (uI 0) rfl s kH iiz fun a w s=> ?_
 refine zA rfl ?_
 refine zXP ?_
 refine z7 [] 4 ((6,.Z (fRV m p))::(7,.u (fQN p))::(8,.Z (fRV m q))::(9,.u (fQN q)):: []) hmix s kH
  (oc (zK (f:=fRV m p) 3 kH (hz:=y5 _ _))<|oc (zJ zD zGV (fun u0 W hb (h0:RVp m p u0 W)=>zBC h0 oO))<|oc (zK (f:=fRV m q) 3 kH (hz:=y5 _ _))<|oc (zJ zD zGV (fun u0 W hb (h0:RVp m q u0 W)=>zBC h0 oO))<|zC) fun Q' hQ a w2 s=> ?_
 refine zQ (wC (fQN p)) ((fQN p).tS) rfl s kH rfl rfl rfl (y5 _ _) iiz yI fun a w s=> ?_
 refine zQ (wC (fQN q)) ((fQN q).tS) rfl s kH rfl rfl rfl (y5 _ _) iiz yI fun a w s=> ?_
 refine zA rfl (hQ _ _ ?_)
 refine zXP ?_
 replace s:=s.drop [5]
 refine z7 [] 19 ((10,.X (fQN p) 0)::(11,.Z (fNV ((p).num)))::(12,.X (fQN q) 0)::(13,.X (fQN q) 0)::(14,.Z (uB (decide ((q).num<0))))::(15,.X (fQN q) 2)::(16,.Z (jF ((q).den)))::(17,.Z (fUV m (if decide ((q).num<0) then -((q).den:Int) else ((q).den:Int))))::(18,.s (zKZ (m+m) [(p).num,(if decide ((q).num<0) then -((q).den:Int) else ((q).den:Int))]))::(19,.Z (fNV ((p).num*(if decide ((q).num<0) then -((q).den:Int) else ((q).den:Int)))))::(20,.X (fQN p) 2)::(21,.Z (jF ((p).den)))::(22,.X (fQN q) 0)::(23,.X (fQN q) 1)::(24,.Z (jF ((q).num.natAbs)))::(25,.Z (jF ((p).den*(q).num.natAbs)))::(26,.Z (zAC (fQN (p / q)) (uI (if q=0 then 30 else 0))))::(27,.u (fQN (p / q)))::(28,.u (uI (if q=0 then 30 else 0))):: []) hmix s kH
  (oc (zL (C:=cg (fQN p)) 0 kH)<|oc (zR (C:=cg (fQN p)) (k:=0) 2 kH (h:=zBy))<|oc (zL (C:=cg (fQN q)) 0 kH)<|oc (yW (C:=cg (fQN q)) 0 0 kH)<|oc (jJ (C:=cg (fQN q)) (k:=0) kH (h:=zTF))<|oc (zL (C:=cg (fQN q)) 2 kH)<|oc (jJ (C:=cg (fQN q)) (k:=2) kH (h:=zBc))<|oc (y4 (fun u v W (hu:u= .bool (decide ((q).num<0))) (hv:qU W v ((q).den))=>zSZ hu hv hq.2))<|oc (yJ (fun u v W (hu:NV W u ((p).num)) (hv:UV W m v (if decide ((q).num<0) then -((q).den:Int) else ((q).den:Int)))=>zBi (NV.uv' hu (Bd.mono (hp).1 (m':=(m+m)) (by first|omega|decide))) (UV.mono hv (m':=(m+m)) (by first|omega|decide))))<|oc (zJ zD zK1 (fun u0 W hb (h0:ISV W (m+m) u0 [(p).num,(if decide ((q).num<0) then -((q).den:Int) else ((q).den:Int))])=>zD6 h0 (by show (m+m)*2+(m+m)+1<=40000;omega) fN fN))<|oc (zL (C:=cg (fQN p)) 2 kH)<|oc (jJ (C:=cg (fQN p)) (k:=2) kH (h:=zBc))<|oc (zL (C:=cg (fQN q)) 0 kH)<|oc (yW (C:=cg (fQN q)) 0 1 kH)<|oc (jJ (C:=cg (fQN q)) (k:=1) kH (h:=zTG))<|oc (zI zD zSP (fun u0 u1 W hb (h0:qU W u0 ((p).den)) (h1:qU W u1 ((q).num.natAbs))=>zLS (qU.lv (m:=m) h0 hp.2) (qU.lv (m:=m) h1 hq.1) oO))<|oc (zI zD zPI (fun u0 u1 W hb (h0:NV W u0 ((p).num*(if decide ((q).num<0) then -((q).den:Int) else ((q).den:Int)))) (h1:qU W u1 ((p).den*(q).num.natAbs))=>hnew W u0 u1 h0 h1))<|oc (zAR (A:=(fQN (p / q)).tS) (B:=(uI (if q=0 then 30 else 0)).tS) iiz)<|oc (zAQ (A:=(fQN (p / q)).tS) (B:=(uI (if q=0 then 30 else 0)).tS) iiz)<|zC) fun Q' hQ a w3 s=> ?_
 refine zQ (wC (fQN (p / q))) ((fQN (p / q)).tS) rfl s kH rfl rfl rfl iiz iiz yI fun a w s=> ?_
 refine yR (uI (if q=0 then 30 else 0)) rfl s kH iiz fun a w s=> ?_
 refine zA rfl (hQ _ _ ?_)
 refine zXQ ?_
 exact wU s (wC (fQN (p / q))) rfl kH rfl rfl (qX _) (fun cs v W h1 h2=>⟨_,_,rfl,h1,h2⟩)
theorem zMM {b o:Nat} {ds:List Wj} (k:Nat) (h:Mem W b o cs) (hd: ∀j u,ds[j]?=some u->cs[k+j]?=some u):Mem W b (o+k) ds:=fun j u hj=>by
 have:=h (k+j) u (hd j u hj)
 rwa [<-Nat.add_assoc] at this
abbrev rvs (m:Nat) (qs:List Rat):List CU:=qs.map fun q=>wC (fRV m q)
theorem zLK (h:k<qs.length):(rvs m qs)[k]?=some (wC (fRV m (qAt qs k))):=by
 rw [List.getElem?_map,zYj h]
 simp [qAt,h]
theorem zMj (h:k<qs.length):qAt qs k∈qs:=by
 simp [qAt,h]
theorem zJm {q:Rat} (h:RVp m q v W): ∃s A n c D i j,v= .agg #[.bool s,.slice A n c,.slice D i j]:=by
 obtain ⟨k,d,h1,_⟩:=h
 exact zBM h1
theorem zB7 {u:Wj} {p q:Rat} (hu:RVp m p u W) (hv:RVp m q v W): ∃e cs,yE prog 55 2 [(0,u),(1,v)]=some (e,cs)/\(wD 3 (rvs m [p,q])).p (.slice (some ⟨W.heap.size,0,none⟩) 2 2) (W.alloc (.cells cs e)):=by
 obtain ⟨s,A,n,c,D,i,j,rfl⟩:=zJm hu
 obtain ⟨s',A',n',c',D',i',j',rfl⟩:=zJm hv
 refine ⟨_,_,zQi s s' A A' D D' n n' c c' i i' j j',some ⟨W.heap.size,0,none⟩,2,rfl,zXW _,by decide,fun e=>(by cases e),fun x C hx=> ?_⟩
 have hb:=zCP W (.cells #[.bool s,.slice A n c,.slice D i j,.bool s',.slice A' n' c',.slice D' i' j'] 28)
 have hm:=zB5 W #[.bool s,.slice A n c,.slice D i j,.bool s',.slice A' n' c',.slice D' i' j'] 28
 rcases (by have:=(zXS.1 hx).1;simp at this;omega:x=0∨x=1) with rfl|rfl
 ·obtain rfl:wC (fRV m p)=C:=by simpa using hx
  exact ⟨W.heap.size,0, [.bool s,.slice A n c,.slice D i j],rfl,zMM 0 hm (fun j u hj=>by match j with|0=>exact hj|1=>exact hj|2=>exact hj|j+3=>simp at hj),(fRV m p).tS.st _ _ _ hu hb⟩
 ·obtain rfl:wC (fRV m q)=C:=by simpa using hx
  exact ⟨W.heap.size,0, [.bool s',.slice A' n' c',.slice D' i' j'],rfl,zMM 3 hm (fun j u hj=>by match j with|0=>exact hj|1=>exact hj|2=>exact hj|j+3=>simp at hj),(fRV m q).tS.st _ _ _ hv hb⟩
theorem zRZ (M:Nat) (h:(wD 3 (rvs m qs)).p v W) (_hm0:0<m) (hmM:m<=M) (hM:M<=990) (hl:qs.length<=1000000) (hq: ∀q,q∈qs->QB q m) (hp: ∀k,k<qs.length->QB (zDp qs k) M):Calls prog 43 #[v] W (Ret W (fQN (zDp qs qs.length)).tS):=by
 refine z9 [wD 3 (rvs m qs)] func43 rfl kH ⟨h,trivial⟩ fun a s=> ?_
 refine zXP ?_
 refine zB 0 [] hmix s kH
  zC fun a w1 s=> ?_
 refine zZ (CU.len 3) (cs:=zR3) kH rfl s kH (fun W=>rfl) rfl fun b2 a w s=> ?_
 refine zA rfl ?_
 refine zXP ?_
 refine zB 1 ((5,.u (fQN ((0:Int):Rat))):: []) hmix s kH
  (oc (zJ zD zH4 (fun u0 W hb (h0:u0= .int .i64 0)=>zEo 0 h0 dA))<|zC) fun a w2 s=> ?_
 refine zZ (CU.len 3) (cs:=zR3) kH rfl s kH (fun W=>rfl) rfl fun b3 a w s=> ?_
 refine zQ (wC (fQN ((0:Int):Rat))) ((fQN ((0:Int):Rat)).tS) rfl s kH rfl rfl rfl iiz iiz yI fun a w s=> ?_
 refine zA rfl ?_
 refine zXP ?_
 refine zXP ?_
 refine zB 1 ((4,.u (uI 0)):: []) hmix s kH
  (oc zF<|zC) fun a w3 s=> ?_
 refine zA rfl ?_
 refine zX1 ?_
 refine zDu 3 (fun p=>wC (fQN (zDp qs p))) (fun p=>p<=qs.length) (fun p=> [(0,.o (wD 3 (rvs m qs))),(4,.u (fI ((p:Nat):Int)))]) (fun p=>qs.length - p) (0:Nat) (zXU _) (s.keepK _ (fmz ⟨mz2,fmz ⟨.head _,fnz⟩⟩)) rfl fun p a w hx s=> ?_
 refine zXP ?_
 refine zXP ?_
 refine zB 4 ((6,.Z (fI (p:Int)))::(7,.s (wD 3 (rvs m qs)))::(8,.Z (uI ((rvs m qs).length:Int)))::(9,.u (uB (ltz p ((rvs m qs).length)))):: []) hmix s kH
  (oc zE<|oc zE<|oc (zEc (z:=3) (Cs:=rvs m qs) kH iiz (fun _=>rfl))<|oc (zS .i64 (p:Int) ((rvs m qs).length:Int) (ltz p ((rvs m qs).length)) iiz iiz rfl rfl)<|zC) fun a w4 s=> ?_
 refine zA rfl ?_
 refine StS.cond s (ltz p ((rvs m qs).length)) iiz (fun e=> ?_) (fun e=> ?_)
 ·have hk1:p+1<=qs.length:=by have:=zXT e;rw [zYk] at this;omega
  have hx2:=zLK (m:=m) (k:=p) hk1
  have hqp:=hq _ (zMj (k:=p) hk1)
  refine zXX ?_
  refine zXP ?_
  refine zX1 ?_
  refine z7 [1,2] 7 ((12,.Z (fQN (zDp qs p)))::(13,.s (wD 3 (rvs m qs)))::(14,.Z (fI (p:Int)))::(15,.Y (fRV m (qAt qs p)))::(16,.Z (fRV m (qAt qs p)))::(17,.Z (fQN (qAt qs p)))::(18,.u (fQN (zDp qs p+qAt qs p))):: []) hmix s kH
   (oc (zK (f:=fQN (zDp qs p)) 3 kH (hz:=qX _))<|oc zE<|oc zE<|oc (zBD (z:=3) (Cs:=rvs m qs) (i:=p) (C:=wC (fRV m (qAt qs p))) kH hx2 iiz iiz)<|oc (zK (f:=fRV m (qAt qs p)) 3 kH (hz:=y5 _ _))<|oc (zJ zD zGV (fun u0 W hb (h0:RVp m (qAt qs p) u0 W)=>zBC h0 oO))<|oc (zI zD zV4 (fun u0 u1 W hb (h0:QNp (zDp qs p) u0 W) (h1:QNp (qAt qs p) u1 W)=>zRU h0 h1 (hp p hk1) (hqp.mono oO) oO))<|zC) fun Q' hQ a w5 s=> ?_
  refine zQ (wC (fQN (zDp qs p+qAt qs p))) ((fQN (zDp qs p+qAt qs p)).tS) rfl s kH rfl rfl rfl (qX _) iiz yI fun a w s=> ?_
  refine zA rfl (hQ _ _ ?_)
  refine zX 2 ((10,.Z (fI (p:Int)))::(11,.u (fI ((p+1:Nat):Int))):: []) s kH
   (oc zE<|oc (yN .i64 (p:Int) 1 ((p+1:Nat):Int) iiz iiz (wrap64 _ _ oO oO))<|zC) fun a w6 s=> ?_
  replace s:=s.drop [4]
  refine yR (fI ((p+1:Nat):Int)) rfl s kH iiz fun a w s=> ?_
  refine zA rfl ?_
  exact ⟨p+1,hk1,(by show qs.length - (p+1)<qs.length - p;omega),s.keepK _ (fmz ⟨mz4,fmz ⟨.head _,fnz⟩⟩)⟩
 ·have hk1:p=qs.length:=by have:=zYa e;rw [zYk] at this;omega
  refine zYb ?_
  refine zXP ?_
  refine zB 1 ((19,.u (fQN (zDp qs p))):: []) hmix s kH
   (oc (zK (f:=fQN (zDp qs p)) 3 kH (hz:=qX _))<|zC) fun a w7 s=> ?_
  refine zQ (wC (fQN (zDp qs p))) ((fQN (zDp qs p)).tS) rfl s kH rfl rfl rfl iiz iiz yI fun a w s=> ?_
  refine zA rfl ?_
  refine zXQ ?_
  exact wI s (wC (fQN (zDp qs p))) rfl kH rfl rfl (qX _) (fun cs W h=>by rw [hk1] at h;exact h)
theorem zRX (M:Nat) (h:(wD 3 (rvs m qs)).p v W) (_hm0:0<m) (hmM:m<=M) (hM:M<=990) (hl:qs.length<=1000000) (hq: ∀q,q∈qs->QB q m) (hp: ∀k,k<qs.length->QB (jG qs k) M):Calls prog 60 #[v] W (Ret W (fQN (jG qs qs.length)).tS):=by
 refine z9 [wD 3 (rvs m qs)] func60 rfl kH ⟨h,trivial⟩ fun a s=> ?_
 refine zXP ?_
 refine zB 0 [] hmix s kH
  zC fun a w1 s=> ?_
 refine zZ (CU.len 3) (cs:=zR3) kH rfl s kH (fun W=>rfl) rfl fun b2 a w s=> ?_
 refine zA rfl ?_
 refine zXP ?_
 refine zB 1 ((6,.u (fQN ((1:Int):Rat))):: []) hmix s kH
  (oc (zJ zD zH4 (fun u0 W hb (h0:u0= .int .i64 1)=>zEo 1 h0 dA))<|zC) fun a w2 s=> ?_
 refine zZ (CU.len 3) (cs:=zR3) kH rfl s kH (fun W=>rfl) rfl fun b3 a w s=> ?_
 refine zQ (wC (fQN ((1:Int):Rat))) ((fQN ((1:Int):Rat)).tS) rfl s kH rfl rfl rfl iiz iiz yI fun a w s=> ?_
 refine zA rfl ?_
 refine zXP ?_
 refine zXP ?_
 refine zB 1 ((4,.u (uI 0)):: []) hmix s kH
  (oc zF<|zC) fun a w3 s=> ?_
 refine zA rfl ?_
 refine zX1 ?_
 refine zDu 3 (fun p=>wC (fQN (jG qs p))) (fun p=>p<=qs.length) (fun p=> [(0,.o (wD 3 (rvs m qs))),(4,.u (fI ((p:Nat):Int)))]) (fun p=>qs.length - p) (0:Nat) (zXU _) (s.keepK _ (fmz ⟨mz2,fmz ⟨.head _,fnz⟩⟩)) rfl fun p a w hx s=> ?_
 refine zXP ?_
 refine zXP ?_
 refine zB 4 ((7,.Z (fI (p:Int)))::(8,.s (wD 3 (rvs m qs)))::(9,.Z (uI ((rvs m qs).length:Int)))::(10,.u (uB (ltz p ((rvs m qs).length)))):: []) hmix s kH
  (oc zE<|oc zE<|oc (zEc (z:=3) (Cs:=rvs m qs) kH iiz (fun _=>rfl))<|oc (zS .i64 (p:Int) ((rvs m qs).length:Int) (ltz p ((rvs m qs).length)) iiz iiz rfl rfl)<|zC) fun a w4 s=> ?_
 refine zA rfl ?_
 refine StS.cond s (ltz p ((rvs m qs).length)) iiz (fun e=> ?_) (fun e=> ?_)
 ·have hk1:p+1<=qs.length:=by have:=zXT e;rw [zYk] at this;omega
  have hx2:=zLK (m:=m) (k:=p) hk1
  have hqp:=hq _ (zMj (k:=p) hk1)
  have hnew: ∀W u0 u1,NV W u0 ((jG qs p).num*(qAt qs p).num)->qU W u1 ((jG qs p).den*(qAt qs p).den)->Calls prog 66 #[u0,u1] W (Ret W (zAC (fQN (jG qs p*qAt qs p)) (fI 0)).tS):=fun W u0 u1 h0 h1=>by
   have:=zL6 (m:=M+m) (h0.uv' (Bd.mul (hp p hk1).1 hqp.1)) (h1.lv (zD9 (hp p hk1).2 hqp.2)) oO (Nat.mul_pos (Rat.den_pos _) (Rat.den_pos _))
   rw [<-Rat.mul_def'] at this
   exact this
  refine zXX ?_
  refine zXP ?_
  refine zX1 ?_
  refine zXP ?_
  refine zB 5 ((13,.s (wD 3 (rvs m qs)))::(14,.Z (fI (p:Int)))::(15,.Y (fRV m (qAt qs p)))::(16,.Z (fRV m (qAt qs p)))::(17,.u (fQN (qAt qs p))):: []) hmix s kH
   (oc zE<|oc zE<|oc (zBD (z:=3) (Cs:=rvs m qs) (i:=p) (C:=wC (fRV m (qAt qs p))) kH hx2 iiz iiz)<|oc (zK (f:=fRV m (qAt qs p)) 3 kH (hz:=y5 _ _))<|oc (zJ zD zGV (fun u0 W hb (h0:RVp m (qAt qs p) u0 W)=>zBC h0 oO))<|zC) fun a w5 s=> ?_
  refine zZ (CU.len 3) (cs:=zR3) kH rfl s kH (fun W=>rfl) rfl fun b5 a w s=> ?_
  refine zQ (wC (fQN (qAt qs p))) ((fQN (qAt qs p)).tS) rfl s kH rfl rfl rfl iiz iiz yI fun a w s=> ?_
  refine zA rfl ?_
  refine zBl (fun i=> [14].contains i) [] 15 ((19,.X (fQN (jG qs p)) 0)::(20,.Z (fNV ((jG qs p).num)))::(21,.X (fQN (qAt qs p)) 0)::(22,.Z (fNV ((qAt qs p).num)))::(23,.s (zKZ (M+m) [(jG qs p).num,(qAt qs p).num]))::(24,.Z (fNV ((jG qs p).num*(qAt qs p).num)))::(25,.X (fQN (jG qs p)) 2)::(26,.Z (jF ((jG qs p).den)))::(27,.X (fQN (qAt qs p)) 2)::(28,.Z (jF ((qAt qs p).den)))::(29,.Z (jF ((jG qs p).den*(qAt qs p).den)))::(30,.Z (zAC (fQN (jG qs p*qAt qs p)) (uI 0)))::(18,.Z (zAC (fQN (jG qs p*qAt qs p)) (uI 0)))::(31,.u (fQN (jG qs p*qAt qs p)))::(32,.Z (uI 0)):: []) hmix s fnz kH
   (oc (zL (C:=cg (fQN (jG qs p))) 0 kH)<|oc (zR (C:=cg (fQN (jG qs p))) (k:=0) 2 kH (h:=zBy))<|oc (zL (C:=cg (fQN (qAt qs p))) 0 kH)<|oc (zR (C:=cg (fQN (qAt qs p))) (k:=0) 2 kH (h:=zBy))<|oc (yJ (fun u v W (hu:NV W u ((jG qs p).num)) (hv:NV W v ((qAt qs p).num))=>zBi (NV.uv' hu (Bd.mono (hp p hk1).1 (m':=(M+m)) (by first|omega|decide))) (NV.uv' hv (Bd.mono (hqp).1 (m':=(M+m)) (by first|omega|decide)))))<|oc (zJ zD zK1 (fun u0 W hb (h0:ISV W (M+m) u0 [(jG qs p).num,(qAt qs p).num])=>zD6 h0 (by show (M+m)*2+(M+m)+1<=40000;omega) fN fN))<|oc (zL (C:=cg (fQN (jG qs p))) 2 kH)<|oc (jJ (C:=cg (fQN (jG qs p))) (k:=2) kH (h:=zBc))<|oc (zL (C:=cg (fQN (qAt qs p))) 2 kH)<|oc (jJ (C:=cg (fQN (qAt qs p))) (k:=2) kH (h:=zBc))<|oc (zI zD zSP (fun u0 u1 W hb (h0:qU W u0 ((jG qs p).den)) (h1:qU W u1 ((qAt qs p).den))=>zLS (qU.lv (m:=M+m) h0 (zXZ (hp p hk1).2 (zX2 qA oO))) (qU.lv (m:=M+m) h1 (zXZ hqp.2 (zX2 qA oO))) oO))<|oc (zI zD zPI (fun u0 u1 W hb (h0:NV W u0 ((jG qs p).num*(qAt qs p).num)) (h1:qU W u1 ((jG qs p).den*(qAt qs p).den))=>hnew W u0 u1 h0 h1))<|oc zE<|oc (zAR (A:=(fQN (jG qs p*qAt qs p)).tS) (B:=(uI 0).tS) iiz)<|oc (zAQ (A:=(fQN (jG qs p*qAt qs p)).tS) (B:=(uI 0).tS) iiz)<|zC) fun Q' hQ a w6 s hr hd=> ?_
  refine zQ (wC (fQN (jG qs p*qAt qs p))) ((fQN (jG qs p*qAt qs p)).tS) rfl s kH rfl rfl rfl (qX _) iiz yI fun a w s=> ?_
  refine zA rfl (hQ _ _ ?_)
  refine zX 2 ((11,.Z (fI (p:Int)))::(12,.u (fI ((p+1:Nat):Int))):: []) s kH
   (oc zE<|oc (yN .i64 (p:Int) 1 ((p+1:Nat):Int) iiz iiz (wrap64 _ _ oO oO))<|zC) fun a w7 s=> ?_
  replace s:=s.drop [4]
  refine yR (fI ((p+1:Nat):Int)) rfl s kH iiz fun a w s=> ?_
  refine zA rfl ?_
  replace s:=s.popB
  exact ⟨p+1,hk1,(by show qs.length - (p+1)<qs.length - p;omega),s.keepK _ (fmz ⟨mz5,fmz ⟨.head _,fnz⟩⟩)⟩
 ·have hk1:p=qs.length:=by have:=zYa e;rw [zYk] at this;omega
  refine zYb ?_
  refine zXP ?_
  refine zB 1 ((33,.u (fQN (jG qs p))):: []) hmix s kH
   (oc (zK (f:=fQN (jG qs p)) 3 kH (hz:=qX _))<|zC) fun a w8 s=> ?_
  refine zQ (wC (fQN (jG qs p))) ((fQN (jG qs p)).tS) rfl s kH rfl rfl rfl iiz iiz yI fun a w s=> ?_
  refine zA rfl ?_
  refine zXQ ?_
  exact wI s (wC (fQN (jG qs p))) rfl kH rfl rfl (qX _) (fun cs W h=>by rw [hk1] at h;exact h)
theorem zDy {p q:Rat} (h:(wD 3 (rvs m [p,q])).p v W) (hp:QB p m) (hq:QB q m) (hm:m<=990):Calls prog 43 #[v] W (Ret W (fQN (p+q)).tS):=by
 have:=zRZ m h hp.pos lr hm fN (fun x hx=>by simp at hx;rcases hx with rfl|rfl;exact hp;exact hq) (fun k hk=>by
  rcases (by simp at hk;omega:k=0∨k=1) with rfl|rfl
  ·exact QB.zero hp.pos
  ·show QB (0+p) _
   rw [Rat.zero_add]
   exact hp)
 rw [show ([p,q]:List Rat).length=2 from rfl,zR8] at this
 exact this
theorem zBV {p q:Rat} (h:(wD 3 (rvs m [p,q])).p v W) (hp:QB p m) (hq:QB q m) (hm:m<=990):Calls prog 60 #[v] W (Ret W (fQN (p*q)).tS):=by
 have hm0:=hp.pos
 have:=zRX m h hm0 lr hm fN (fun x hx=>by simp at hx;rcases hx with rfl|rfl;exact hp;exact hq) (fun k hk=>by
  rcases (by simp at hk;omega:k=0∨k=1) with rfl|rfl
  ·exact QB.one hp.pos
  ·show QB (1*p) _
   rw [zYg]
   exact hp)
 rw [show ([p,q]:List Rat).length=2 from rfl,zMh] at this
 exact this
theorem zGi {q:Rat} (v:Wj) (W:Wi) (h:(fRV m q).p v W): ∃vs:List Wj,v= .agg vs.toArray/\vs.length=3/\(∀u,u∈vs->u.oneCell'=true)/\vs.all yA=true/\(wC (fRV m q)).p vs W:=by
 obtain ⟨k,d,h1,h2⟩:=h
 obtain ⟨vs,e,hl,h3,h4,h5⟩:=zOR v W h1
 exact ⟨vs,e,hl,h3,h4,k,d,h5,h2⟩
theorem zEb {d:Tmp} (k:IntKind) (u v r:Int) (hx: ∀q W,(fct G x).p q W->q= .int k u) (hy: ∀q W,(fct G y).p q W->q= .int k v) (hr:k.wrap (u - v)=r) (hd: ∀W,(G d).p (.int k r) W:=by exact fun _=>rfl):qN F m P w0 ops G ⟨some d,.binOp .sub t x y t',ty,pos,aft,none⟩:=
 zDE (.int k u) (.int k v) (.int k r) hx hy (fun W=>by simp [eqGuard]) (fun W=>by simp [binOp,Op.intArith,hr]) hd
theorem zGr {u:Wj} {p q:Rat} (h:RVp m p u W) (h':RVp m q v W) (hm:m<=990) (hm0:0<m):Calls prog 48 #[u,v] W (Ret W (fQN (p - q)).tS):=by
 have hp:QB p m:=h.qb hm0
 have hq:QB q m:=h'.qb hm0
 refine z9 [(fRV m p).tS,(fRV m q).tS] func48 rfl kH ⟨h,h',trivial⟩ fun a s=> ?_
 refine zXP ?_
 refine zB 0 [] hmix s kH
  zC fun a w1 s=> ?_
 refine yK (wC (fRV m p)) rfl s kH (fun v W h=>jZ h) fun b2 a w s=> ?_
 refine yK (wC (fRV m q)) rfl s kH (fun v W h=>jZ h) fun b3 a w s=> ?_
 refine zZ (CU.len 3) (cs:=zR3) kH rfl s kH (fun W=>rfl) rfl fun b4 a w s=> ?_
 refine zA rfl ?_
 refine zXP ?_
 refine z7 [] 5 ((5,.Z (fRV m p))::(6,.Z (fRV m q))::(7,.Z (fQN (-q)))::(8,.s (wD 3 (rvs m [p,(-q)])))::(9,.u (fQN (p+ -q))):: []) hmix s kH
  (oc (zK (f:=fRV m p) 3 kH (hz:=y5 _ _))<|oc (zK (f:=fRV m q) 3 kH (hz:=y5 _ _))<|oc (zJ zD zVZ (fun u0 W hb (h0:RVp m q u0 W)=>zRW h0 oO hm0))<|oc (yJ (fun u v W (hu:RVp m p u W) (hv:QNp (-q) v W)=>zB7 hu (wM hv hq.neg)))<|oc (zJ zD zNr (fun u0 W hb (h0:(wD 3 (rvs m [p,(-q)])).p u0 W)=>zDy h0 hp hq.neg oO))<|zC) fun Q' hQ a w2 s=> ?_
 refine zQ (wC (fQN (p+ -q))) ((fQN (p+ -q)).tS) rfl s kH rfl rfl rfl iiz iiz yI fun a w s=> ?_
 refine zA rfl (hQ _ _ ?_)
 refine zXQ ?_
 exact wI s (wC (fQN (p+ -q))) rfl kH rfl rfl (qX _) (fun cs W h=>by rw [Rat.sub_eq_add_neg];exact h)
theorem zRY {u:Wj} {p q:Rat} (h:RVp m p u W) (h':RVp m q v W) (hm:m<=490) (hm0:0<m):Calls prog 15 #[u,v] W (Ret W (fQN ((p+q) / 2)).tS):=by
 have hp:QB p m:=h.qb hm0
 have hq:QB q m:=h'.qb hm0
 have hq2:QB ((2:Int):Rat) (m+m+1):=QB.mono (m:=1) ⟨by unfold Bd BB;decide+kernel,by unfold BB;decide+kernel⟩ oO
 refine z9 [(fRV m p).tS,(fRV m q).tS] func15 rfl kH ⟨h,h',trivial⟩ fun a s=> ?_
 refine zXP ?_
 refine zB 0 [] hmix s kH
  zC fun a w1 s=> ?_
 refine yK (wC (fRV m p)) rfl s kH (fun v W h=>jZ h) fun b2 a w s=> ?_
 refine yK (wC (fRV m q)) rfl s kH (fun v W h=>jZ h) fun b3 a w s=> ?_
 refine zZ (CU.len 3) (cs:=zR3) kH rfl s kH (fun W=>rfl) rfl fun b4 a w s=> ?_
 refine zA rfl ?_
 refine zXP ?_
 refine zB 9 ((8,.Z (fRV m p))::(9,.Z (fRV m q))::(10,.s (wD 3 (rvs m [p,q])))::(11,.Z (fQN (p+q)))::(12,.Z (fQN ((2:Int):Rat)))::(13,.Z (zAC (fQN ((p+q) / ((2:Int):Rat))) (UF.any)))::(7,.Z (zAC (fQN ((p+q) / ((2:Int):Rat))) (UF.any)))::(14,.u (fQN ((p+q) / ((2:Int):Rat)))):: []) hmix s kH
  (oc (zK (f:=fRV m p) 3 kH (hz:=y5 _ _))<|oc (zK (f:=fRV m q) 3 kH (hz:=y5 _ _))<|oc (yJ (fun u v W (hu:RVp m p u W) (hv:RVp m q v W)=>zB7 hu hv))<|oc (zJ zD zNr (fun u0 W hb (h0:(wD 3 (rvs m [p,q])).p u0 W)=>zDy h0 hp hq oO))<|oc (zJ zD zH4 (fun u0 W hb (h0:u0= .int .i64 2)=>zEo 2 h0 dA))<|oc (zI zD zUu (fun u0 u1 W hb (h0:QNp (p+q) u0 W) (h1:QNp ((2:Int):Rat) u1 W)=>(zL4 (wM h0 (hp.add hq)) (wM h1 hq2) oO oO).mono (fun e w' ⟨v,e1,⟨x,y,e2,h2,_⟩,hb⟩=>⟨v,e1,⟨x,y,e2,h2,trivial⟩,hb⟩)))<|oc zE<|oc (zAR (A:=(fQN ((p+q) / ((2:Int):Rat))).tS) (B:=(UF.any).tS) iiz)<|oc (zAQ (A:=(fQN ((p+q) / ((2:Int):Rat))).tS) (B:=(UF.any).tS) iiz)<|zC) fun a w2 s=> ?_
 refine zZ (CU.len 3) (cs:=zR3) kH rfl s kH (fun W=>rfl) rfl fun b5 a w s=> ?_
 refine zQ (wC (fQN ((p+q) / ((2:Int):Rat)))) ((fQN ((p+q) / ((2:Int):Rat))).tS) rfl s kH rfl rfl rfl iiz iiz yI fun a w s=> ?_
 refine yR UF.any rfl s kH (fun _ _ _=>trivial) fun a w s=> ?_
 refine zA rfl ?_
 refine zXP ?_
 refine zB 1 ((16,.u (fQN ((p+q) / ((2:Int):Rat)))):: []) hmix s kH
  (oc (zK (f:=fQN ((p+q) / ((2:Int):Rat))) 3 kH (hz:=qX _))<|zC) fun a w3 s=> ?_
 refine zQ (wC (fQN ((p+q) / ((2:Int):Rat)))) ((fQN ((p+q) / ((2:Int):Rat))).tS) rfl s kH rfl rfl rfl iiz iiz yI fun a w s=> ?_
 refine zA rfl ?_
 refine zXQ ?_
 exact wI s (wC (fQN ((p+q) / ((2:Int):Rat)))) rfl kH rfl rfl (qX _) (fun cs W h=>h)
abbrev QX.q (x:QX):Rat:=mkRat x.k x.d
theorem zWL {n':Nat} {k:Int} (h:QXp n n' k d v W) (h1:n<=m) (h2:n'<=m):RVp m (mkRat k d) v W:=⟨k,d,zVx h h1 h2,rfl⟩
theorem zTw (z:Int) (hv:v= .int .i64 z) (hz: -9223372036854775808<=z/\z<=9223372036854775807):Calls prog 73 #[v] W (Ret W (fQN (z:Rat)).tS):=by
 subst hv
 exact zOB z hz
set_option maxHeartbeats 2000000
theorem zCo {u:Wj} {x y:Int} (hu:u= .int .i64 x) (hv:v= .int .i64 y) (hx: -9223372036854775808<=x/\x<=9223372036854775807) (hy: -9223372036854775808<=y/\y<=9223372036854775807):Calls prog 19 #[u,v] W (Ret W (fPN (((x:Int):Rat),((y:Int):Rat))).tS):=by
 refine z9 [(uI x).tS,(uI y).tS] func19 rfl kH ⟨hu,hv,trivial⟩ fun a s=> ?_
 refine zXP ?_
 refine zB 0 [] hmix s kH
  zC fun a w1 s=> ?_
 refine zZ (CU.len 6) (cs:=zP6) kH rfl s kH (fun W=>rfl) rfl fun b4 a w s=> ?_
 refine zA rfl ?_
 refine zXP ?_
 refine zB 5 ((5,.Z (uI x))::(6,.Z (fQN ((x:Int):Rat)))::(7,.Z (uI y))::(8,.Z (fQN ((y:Int):Rat)))::(9,.u (fPN (((x:Int):Rat),((y:Int):Rat)))):: []) hmix s kH
  (oc zE<|oc (zJ zD zH4 (fun u0 W hb (h0:u0= .int .i64 x)=>zEo x h0 hx))<|oc zE<|oc (zJ zD zH4 (fun u0 W hb (h0:u0= .int .i64 y)=>zEo y h0 hy))<|oc (y4 (fun u v W (hu:QNp ((x:Int):Rat) u W) (hv:QNp ((y:Int):Rat) v W)=>zPX (zAi _) (zAi _) hu hv))<|zC) fun a w2 s=> ?_
 refine zQ (wC (fPN (((x:Int):Rat),((y:Int):Rat)))) ((fPN (((x:Int):Rat),((y:Int):Rat))).tS) rfl s kH rfl rfl rfl iiz iiz yT fun a w s=> ?_
 refine zA rfl ?_
 refine zXQ ?_
 exact wI s (wC (fPN (((x:Int):Rat),((y:Int):Rat)))) rfl kH rfl rfl (zP _ _) (fun cs W h=>h)
theorem zL2 {u:Wj} {p q:V2} (h1:(fPV m p).p u W) (h2:(fPV m q).p v W) (hp:QB p.1 m/\QB p.2 m) (hq:QB q.1 m/\QB q.2 m) (hm:m<=990):Calls prog 20 #[u,v] W (Ret W (fPN (p.1+q.1,p.2+q.2)).tS):=by
 refine z9 [(fPV m p).tS,(fPV m q).tS] func20 rfl kH ⟨h1,h2,trivial⟩ fun a s=> ?_
 refine zXP ?_
 refine zB 0 [] hmix s kH
  zC fun a w1 s=> ?_
 refine yK (wC (fPV m p)) rfl s kH (fun v W h=>yS h) fun b2 a w s=> ?_
 refine yK (wC (fPV m q)) rfl s kH (fun v W h=>yS h) fun b3 a w s=> ?_
 refine zZ (CU.len 6) (cs:=zP6) kH rfl s kH (fun W=>rfl) rfl fun b4 a w s=> ?_
 refine zA rfl ?_
 refine zXP ?_
 refine z7 [] 13 ((5,.X (fPV m p) 0)::(6,.Z (fRV m ((p).1)))::(7,.X (fPV m q) 0)::(8,.Z (fRV m ((q).1)))::(9,.s (wD 3 (rvs m [(p).1,(q).1])))::(10,.Z (fQN ((p).1+(q).1)))::(11,.X (fPV m p) 3)::(12,.Z (fRV m ((p).2)))::(13,.X (fPV m q) 3)::(14,.Z (fRV m ((q).2)))::(15,.s (wD 3 (rvs m [(p).2,(q).2])))::(16,.Z (fQN ((p).2+(q).2)))::(17,.u (fPN (p.1+q.1,p.2+q.2))):: []) hmix s kH
  (oc (zL (C:=cg (fPV m p)) 0 kH)<|oc (zR (C:=cg (fPV m p)) (k:=0) 3 kH (h:=zDf))<|oc (zL (C:=cg (fPV m q)) 0 kH)<|oc (zR (C:=cg (fPV m q)) (k:=0) 3 kH (h:=zDf))<|oc (yJ (fun u v W (hu:RVp m ((p).1) u W) (hv:RVp m ((q).1) v W)=>zB7 hu hv))<|oc (zJ zD zNr (fun u0 W hb (h0:(wD 3 (rvs m [(p).1,(q).1])).p u0 W)=>zDy h0 hp.1 hq.1 hm))<|oc (zL (C:=cg (fPV m p)) 3 kH)<|oc (zR (C:=cg (fPV m p)) (k:=3) 3 kH (h:=zDe))<|oc (zL (C:=cg (fPV m q)) 3 kH)<|oc (zR (C:=cg (fPV m q)) (k:=3) 3 kH (h:=zDe))<|oc (yJ (fun u v W (hu:RVp m ((p).2) u W) (hv:RVp m ((q).2) v W)=>zB7 hu hv))<|oc (zJ zD zNr (fun u0 W hb (h0:(wD 3 (rvs m [(p).2,(q).2])).p u0 W)=>zDy h0 hp.2 hq.2 hm))<|oc (y4 (fun u v W (hu:QNp ((p).1+(q).1) u W) (hv:QNp ((p).2+(q).2) v W)=>zPX (zAi _) (zAi _) hu hv))<|zC) fun Q' hQ a w2 s=> ?_
 refine zQ (wC (fPN (p.1+q.1,p.2+q.2))) ((fPN (p.1+q.1,p.2+q.2)).tS) rfl s kH rfl rfl rfl iiz iiz yT fun a w s=> ?_
 refine zA rfl (hQ _ _ ?_)
 refine zXQ ?_
 exact wI s (wC (fPN (p.1+q.1,p.2+q.2))) rfl kH rfl rfl (zP _ _) (fun cs W h=>h)
theorem zBL {u:Wj} {p q:V2} (h1:(fPV m p).p u W) (h2:(fPV m q).p v W) (hm:m<=990) (hm0:0<m):Calls prog 21 #[u,v] W (Ret W (fPN (p.1 - q.1,p.2 - q.2)).tS):=by
 refine z9 [(fPV m p).tS,(fPV m q).tS] func21 rfl kH ⟨h1,h2,trivial⟩ fun a s=> ?_
 refine zXP ?_
 refine zB 0 [] hmix s kH
  zC fun a w1 s=> ?_
 refine yK (wC (fPV m p)) rfl s kH (fun v W h=>yS h) fun b2 a w s=> ?_
 refine yK (wC (fPV m q)) rfl s kH (fun v W h=>yS h) fun b3 a w s=> ?_
 refine zZ (CU.len 6) (cs:=zP6) kH rfl s kH (fun W=>rfl) rfl fun b4 a w s=> ?_
 refine zA rfl ?_
 refine zXP ?_
 refine z7 [] 11 ((5,.X (fPV m p) 0)::(6,.Z (fRV m ((p).1)))::(7,.X (fPV m q) 0)::(8,.Z (fRV m ((q).1)))::(9,.Z (fQN ((p).1 - (q).1)))::(10,.X (fPV m p) 3)::(11,.Z (fRV m ((p).2)))::(12,.X (fPV m q) 3)::(13,.Z (fRV m ((q).2)))::(14,.Z (fQN ((p).2 - (q).2)))::(15,.u (fPN (p.1 - q.1,p.2 - q.2))):: []) hmix s kH
  (oc (zL (C:=cg (fPV m p)) 0 kH)<|oc (zR (C:=cg (fPV m p)) (k:=0) 3 kH (h:=zDf))<|oc (zL (C:=cg (fPV m q)) 0 kH)<|oc (zR (C:=cg (fPV m q)) (k:=0) 3 kH (h:=zDf))<|oc (zI zD zPJ (fun u0 u1 W hb (h0:RVp m ((p).1) u0 W) (h1:RVp m ((q).1) u1 W)=>zGr h0 h1 hm hm0))<|oc (zL (C:=cg (fPV m p)) 3 kH)<|oc (zR (C:=cg (fPV m p)) (k:=3) 3 kH (h:=zDe))<|oc (zL (C:=cg (fPV m q)) 3 kH)<|oc (zR (C:=cg (fPV m q)) (k:=3) 3 kH (h:=zDe))<|oc (zI zD zPJ (fun u0 u1 W hb (h0:RVp m ((p).2) u0 W) (h1:RVp m ((q).2) u1 W)=>zGr h0 h1 hm hm0))<|oc (y4 (fun u v W (hu:QNp ((p).1 - (q).1) u W) (hv:QNp ((p).2 - (q).2) v W)=>zPX (zAi _) (zAi _) hu hv))<|zC) fun Q' hQ a w2 s=> ?_
 refine zQ (wC (fPN (p.1 - q.1,p.2 - q.2))) ((fPN (p.1 - q.1,p.2 - q.2)).tS) rfl s kH rfl rfl rfl iiz iiz yT fun a w s=> ?_
 refine zA rfl (hQ _ _ ?_)
 refine zXQ ?_
 exact wI s (wC (fPN (p.1 - q.1,p.2 - q.2))) rfl kH rfl rfl (zP _ _) (fun cs W h=>h)
theorem zHv {u:Wj} {p:V2} {t:Rat} (h1:(fPV m p).p u W) (h2:RVp m t v W) (hp:QB p.1 m/\QB p.2 m) (ht:QB t m) (hm:m<=990):Calls prog 31 #[u,v] W (Ret W (fPN (p.1*t,p.2*t)).tS):=by
 refine z9 [(fPV m p).tS,(fRV m t).tS] func31 rfl kH ⟨h1,h2,trivial⟩ fun a s=> ?_
 refine zXP ?_
 refine zB 0 [] hmix s kH
  zC fun a w1 s=> ?_
 refine yK (wC (fPV m p)) rfl s kH (fun v W h=>yS h) fun b2 a w s=> ?_
 refine yK (wC (fRV m t)) rfl s kH (fun v W h=>jZ h) fun b3 a w s=> ?_
 refine zZ (CU.len 6) (cs:=zP6) kH rfl s kH (fun W=>rfl) rfl fun b4 a w s=> ?_
 refine zA rfl ?_
 refine zXP ?_
 refine z7 [] 11 ((5,.X (fPV m p) 0)::(6,.Z (fRV m ((p).1)))::(7,.Z (fRV m t))::(8,.s (wD 3 (rvs m [(p).1,t])))::(9,.Z (fQN ((p).1*t)))::(10,.X (fPV m p) 3)::(11,.Z (fRV m ((p).2)))::(12,.Z (fRV m t))::(13,.s (wD 3 (rvs m [(p).2,t])))::(14,.Z (fQN ((p).2*t)))::(15,.u (fPN (p.1*t,p.2*t))):: []) hmix s kH
  (oc (zL (C:=cg (fPV m p)) 0 kH)<|oc (zR (C:=cg (fPV m p)) (k:=0) 3 kH (h:=zDf))<|oc (zK (f:=fRV m t) 3 kH (hz:=y5 _ _))<|oc (yJ (fun u v W (hu:RVp m ((p).1) u W) (hv:RVp m t v W)=>zB7 hu hv))<|oc (zJ zD zH2 (fun u0 W hb (h0:(wD 3 (rvs m [(p).1,t])).p u0 W)=>zBV h0 hp.1 ht oO))<|oc (zL (C:=cg (fPV m p)) 3 kH)<|oc (zR (C:=cg (fPV m p)) (k:=3) 3 kH (h:=zDe))<|oc (zK (f:=fRV m t) 3 kH (hz:=y5 _ _))<|oc (yJ (fun u v W (hu:RVp m ((p).2) u W) (hv:RVp m t v W)=>zB7 hu hv))<|oc (zJ zD zH2 (fun u0 W hb (h0:(wD 3 (rvs m [(p).2,t])).p u0 W)=>zBV h0 hp.2 ht oO))<|oc (y4 (fun u v W (hu:QNp ((p).1*t) u W) (hv:QNp ((p).2*t) v W)=>zPX (zAi _) (zAi _) hu hv))<|zC) fun Q' hQ a w2 s=> ?_
 refine zQ (wC (fPN (p.1*t,p.2*t))) ((fPN (p.1*t,p.2*t)).tS) rfl s kH rfl rfl rfl iiz iiz yT fun a w s=> ?_
 refine zA rfl (hQ _ _ ?_)
 refine zXQ ?_
 exact wI s (wC (fPN (p.1*t,p.2*t))) rfl kH rfl rfl (zP _ _) (fun cs W h=>h)
theorem zFb {u:Wj} {p q:V2} (h1:(fPV m p).p u W) (h2:(fPV m q).p v W) (hp:QB p.1 m/\QB p.2 m) (hq:QB q.1 m/\QB q.2 m) (hm:m<=495) (hm0:0<m):Calls prog 82 #[u,v] W (Ret W (fQN (p.1*q.2 - p.2*q.1)).tS):=by
 refine z9 [(fPV m p).tS,(fPV m q).tS] func82 rfl kH ⟨h1,h2,trivial⟩ fun a s=> ?_
 refine zXP ?_
 refine zB 0 [] hmix s kH
  zC fun a w1 s=> ?_
 refine yK (wC (fPV m p)) rfl s kH (fun v W h=>yS h) fun b2 a w s=> ?_
 refine yK (wC (fPV m q)) rfl s kH (fun v W h=>yS h) fun b3 a w s=> ?_
 refine zZ (CU.len 3) (cs:=zR3) kH rfl s kH (fun W=>rfl) rfl fun b4 a w s=> ?_
 refine zA rfl ?_
 refine zXP ?_
 refine z7 [] 13 ((5,.X (fPV m p) 0)::(6,.Z (fRV m ((p).1)))::(7,.X (fPV m q) 3)::(8,.Z (fRV m ((q).2)))::(9,.s (wD 3 (rvs m [(p).1,(q).2])))::(10,.Z (fQN ((p).1*(q).2)))::(11,.X (fPV m p) 3)::(12,.Z (fRV m ((p).2)))::(13,.X (fPV m q) 0)::(14,.Z (fRV m ((q).1)))::(15,.s (wD 3 (rvs m [(p).2,(q).1])))::(16,.Z (fQN ((p).2*(q).1)))::(17,.u (fQN (((p).1*(q).2) - ((p).2*(q).1)))):: []) hmix s kH
  (oc (zL (C:=cg (fPV m p)) 0 kH)<|oc (zR (C:=cg (fPV m p)) (k:=0) 3 kH (h:=zDf))<|oc (zL (C:=cg (fPV m q)) 3 kH)<|oc (zR (C:=cg (fPV m q)) (k:=3) 3 kH (h:=zDe))<|oc (yJ (fun u v W (hu:RVp m ((p).1) u W) (hv:RVp m ((q).2) v W)=>zB7 hu hv))<|oc (zJ zD zH2 (fun u0 W hb (h0:(wD 3 (rvs m [(p).1,(q).2])).p u0 W)=>zBV h0 hp.1 hq.2 oO))<|oc (zL (C:=cg (fPV m p)) 3 kH)<|oc (zR (C:=cg (fPV m p)) (k:=3) 3 kH (h:=zDe))<|oc (zL (C:=cg (fPV m q)) 0 kH)<|oc (zR (C:=cg (fPV m q)) (k:=0) 3 kH (h:=zDf))<|oc (yJ (fun u v W (hu:RVp m ((p).2) u W) (hv:RVp m ((q).1) v W)=>zB7 hu hv))<|oc (zJ zD zH2 (fun u0 W hb (h0:(wD 3 (rvs m [(p).2,(q).1])).p u0 W)=>zBV h0 hp.2 hq.1 oO))<|oc (zI zD zPJ (fun u0 u1 W hb (h0:QNp ((p).1*(q).2) u0 W) (h1:QNp ((p).2*(q).1) u1 W)=>zGr (wM h0 (hp.1.mul hq.2)) (wM h1 (hp.2.mul hq.1)) oO oO))<|zC) fun Q' hQ a w2 s=> ?_
 refine zQ (wC (fQN (((p).1*(q).2) - ((p).2*(q).1)))) ((fQN (((p).1*(q).2) - ((p).2*(q).1))).tS) rfl s kH rfl rfl rfl iiz iiz yI fun a w s=> ?_
 refine zA rfl (hQ _ _ ?_)
 refine zXQ ?_
 exact wI s (wC (fQN (p.1*q.2 - p.2*q.1))) rfl kH rfl rfl (qX _) (fun cs W h=>h)
theorem zTB (M:Nat) {W:Wi} {u v x:Wj} {p q:V2} {t:Rat} (h1:(fPV m p).p u W) (h2:(fPV m q).p v W) (h3:RVp k t x W) (hp:QB p.1 m/\QB p.2 m) (hq:QB q.1 m/\QB q.2 m) (ht:QB t k) (hm0:0<m) (hM:m+m+1+k<=M) (hM2:M<=990):Calls prog 14 #[u,v,x] W (Ret W (fPN (seg p q t)).tS):=by
 refine z9 [(fPV m p).tS,(fPV m q).tS,(fRV k t).tS] func14 rfl kH ⟨h1,h2,h3,trivial⟩ fun a s=> ?_
 refine zXP ?_
 refine zB 0 [] hmix s kH
  zC fun a w1 s=> ?_
 refine yK (wC (fPV m p)) rfl s kH (fun v W h=>yS h) fun b3 a w s=> ?_
 refine yK (wC (fPV m q)) rfl s kH (fun v W h=>yS h) fun b4 a w s=> ?_
 refine yK (wC (fRV k t)) rfl s kH (fun v W h=>jZ h) fun b5 a w s=> ?_
 refine zZ (CU.len 6) (cs:=zP6) kH rfl s kH (fun W=>rfl) rfl fun b6 a w s=> ?_
 refine zA rfl ?_
 refine zXP ?_
 refine z7 [] 7 ((7,.Z (fPV m p))::(8,.Z (fPV m q))::(9,.Z (fPV m p))::(10,.Z (fPN ((q).1 - (p).1,(q).2 - (p).2)))::(11,.Z (fRV k t))::(12,.Z (fPN (((q).1 - (p).1)*t,((q).2 - (p).2)*t)))::(13,.u (fPN (seg p q t))):: []) hmix s kH
  (oc (zK (f:=fPV m p) 6 kH (hz:=zP _ _))<|oc (zK (f:=fPV m q) 6 kH (hz:=zP _ _))<|oc (zK (f:=fPV m p) 6 kH (hz:=zP _ _))<|oc (zI zD zFu (fun u0 u1 W hb (h0:(fPV m q).p u0 W) (h1:(fPV m p).p u1 W)=>zBL (p:=q) (q:=p) h0 h1 oO hm0))<|oc (zK (f:=fRV k t) 3 kH (hz:=y5 _ _))<|oc (zI zD zUw (fun u0 u1 W hb (h0:(fPN ((q).1 - (p).1,(q).2 - (p).2)).p u0 W) (h1:RVp k t u1 W)=>zHv (p:=((q).1 - (p).1,(q).2 - (p).2)) (zAo (p:=((q).1 - (p).1,(q).2 - (p).2)) (m:=M) ((show QB _ _/\QB _ _ from ⟨hq.1.sub hp.1,hq.2.sub hp.2⟩).1.mono (by first|omega|decide)) ((show QB _ _/\QB _ _ from ⟨hq.1.sub hp.1,hq.2.sub hp.2⟩).2.mono (by first|omega|decide)) h0) (RVp.mono h1 oO) ⟨(show QB _ _/\QB _ _ from ⟨hq.1.sub hp.1,hq.2.sub hp.2⟩).1.mono oO,(show QB _ _/\QB _ _ from ⟨hq.1.sub hp.1,hq.2.sub hp.2⟩).2.mono oO⟩ (ht.mono oO) oO))<|oc (zI zD zUz (fun u0 u1 W hb (h0:(fPV m p).p u0 W) (h1:(fPN (((q).1 - (p).1)*t,((q).2 - (p).2)*t)).p u1 W)=>zL2 (p:=p) (q:=(((q).1 - (p).1)*t,((q).2 - (p).2)*t)) (zDd (m':=M) oO h0) (zAo (p:=(((q).1 - (p).1)*t,((q).2 - (p).2)*t)) (m:=M) ((show QB _ _/\QB _ _ from ⟨(hq.1.sub hp.1).mul ht,(hq.2.sub hp.2).mul ht⟩).1.mono (by first|omega|decide)) ((show QB _ _/\QB _ _ from ⟨(hq.1.sub hp.1).mul ht,(hq.2.sub hp.2).mul ht⟩).2.mono (by first|omega|decide)) h1) ⟨hp.1.mono oO,hp.2.mono oO⟩ ⟨(show QB _ _/\QB _ _ from ⟨(hq.1.sub hp.1).mul ht,(hq.2.sub hp.2).mul ht⟩).1.mono oO,(show QB _ _/\QB _ _ from ⟨(hq.1.sub hp.1).mul ht,(hq.2.sub hp.2).mul ht⟩).2.mono oO⟩ oO))<|zC) fun Q' hQ a w2 s=> ?_
 refine zQ (wC (fPN (seg p q t))) ((fPN (seg p q t)).tS) rfl s kH rfl rfl rfl iiz iiz yT fun a w s=> ?_
 refine zA rfl (hQ _ _ ?_)
 refine zXQ ?_
 exact wI s (wC (fPN (seg p q t))) rfl kH rfl rfl (zP _ _) (fun cs W h=>h)
theorem zWW (s:Bool) (A A':Wl Addr) (n n' c c':Nat) (s2:Bool) (B B':Wl Addr) (k k' d d':Nat):yE prog 22 1 [(0,.agg #[.bool s,.slice A n c,.slice A' n' c',.bool s2,.slice B k d,.slice B' k' d'])]=some (30,#[.bool s,.slice A n c,.slice A' n' c',.bool s2,.slice B k d,.slice B' k' d']):=by kernel_rfl
theorem zEn {f g:UF} {u:Wj} (h:(fPT f g).p u W): ∃e cs,yE prog 22 1 [(0,u)]=some (e,cs)/\(wD 6 [wC (fPT f g)]).p (.slice (some ⟨W.heap.size,0,none⟩) 1 1) (W.alloc (.cells cs e)):=by
 obtain ⟨s,A,n,c,A',n',c',s2,B,k,d,B',k',d',rfl,h1,h2⟩:=h
 refine ⟨_,_,zWW s A A' n n' c c' s2 B B' k k' d d',some ⟨W.heap.size,0,none⟩,1,rfl,zXW _,by decide,fun e=>(by cases e),fun i C hi=> ?_⟩
 have hb:=zCP W (.cells #[.bool s,.slice A n c,.slice A' n' c',.bool s2,.slice B k d,.slice B' k' d'] 30)
 have hm:=zB5 W #[.bool s,.slice A n c,.slice A' n' c',.bool s2,.slice B k d,.slice B' k' d'] 30
 obtain rfl:i=0:=by have:=(zXS.1 hi).1;simp at this;omega
 obtain rfl:wC (fPT f g)=C:=by simpa using hi
 refine ⟨W.heap.size,0, [.bool s,.slice A n c,.slice A' n' c',.bool s2,.slice B k d,.slice B' k' d'],rfl, ?_,(wC (fPT f g)).us _ _ _ ⟨s,A,n,c,A',n',c',s2,B,k,d,B',k',d',rfl,h1,h2⟩ (zV hb)⟩
 rw [show 0+0*6=0 from rfl]
 exact hm
theorem zQu (f g:UF): ∀C,C∈ [wC (fPT f g)]->CU.ok 6 C:=fun C hC=>by
 obtain rfl:C=wC (fPT f g):=by simpa using hC
 exact zD8 f g
theorem zJC (h:k<ps.length):pns (ps.take (k+1))=pns (ps.take k)++ [wC (fPN (at_ ps k))]:=by
 unfold pns at_
 rw [List.take_add_one,List.map_append,zYG,zYj h]
 rfl
theorem zOI (hl:(wD 6 (pvs m ps)).p l W) (hm:m<=2000) (hps:ps.length<=1000000):Calls prog 145 #[l] W (Ret W (wL W 30 6 (pns ps))):=by
 refine z9 [(wB l).tS] func145 rfl kH ⟨rfl,trivial⟩ fun a s=> ?_
 replace s:=s.renew [(0,.u (wB l))] (fmz ⟨.inr ⟨_,rfl,.head _⟩,fnz⟩)
 refine zXP ?_
 refine zB 1 ((2,.u (wB (sN))):: []) hmix s kH
  (oc zF<|zC) fun a w1 s=> ?_
 refine zA rfl ?_
 refine zXP ?_
 refine zB 1 ((3,.u (wB (sN))):: []) hmix s kH
  (oc zF<|zC) fun a w2 s=> ?_
 refine zA rfl ?_
 refine zXP ?_
 refine zXP ?_
 refine zB 1 ((4,.u (uI 0)):: []) hmix s kH
  (oc zF<|zC) fun a w3 s=> ?_
 refine zA rfl ?_
 refine zX1 ?_
 refine zD0 (fun (p:Nat×Wj) w=>p.1<=ps.length/\W.heap.size<=w.heap.size/\zAU w W.heap.size 30 6 p.2 (pns (ps.take p.1))) (fun p=> [(0,.u (wB l)),(3,.u (wB (p.2))),(4,.u (uI (p.1:Int)))]) (fun p=>ps.length - p.1) (0, sN) (⟨zXU _,s.gr.size,zAU.nil _ _ _ _⟩) (s.keepK _ (fmz ⟨mz3,fmz ⟨mz1,fmz ⟨.head _,fnz⟩⟩⟩)) fun p a w hI s=> ?_
 have s0:=s
 replace s:=s.reb rfl [(0,.o (wD 6 (pvs m ps))),(0,.u (wB l)),(3,.u (wB (p.2))),(4,.u (uI (p.1:Int)))] (fmz ⟨.inr ⟨_,rfl,(wD 6 (pvs m ps)).st _ _ _ (by rw [show a.tmps.getD (0,KF.o (wD 6 (pvs m ps))).1 undef=l from s.val (.head _)];exact hl) s.below⟩,fmz ⟨.inl (.head _),fmz ⟨.inl mz1,fmz ⟨.inl mz2,fnz⟩⟩⟩⟩)
 refine zXP ?_
 refine zXP ?_
 refine zB 4 ((5,.Z (uI (p.1:Int)))::(6,.s (wD 6 (pvs m ps)))::(7,.Z (uI ((pvs m ps).length:Int)))::(8,.u (uB (ltz p.1 ((pvs m ps).length)))):: []) hmix s kH
  (oc zE<|oc zE<|oc (zEc (z:=6) (Cs:=pvs m ps) kH iiz (fun _=>rfl))<|oc (zS .i64 (p.1:Int) ((pvs m ps).length:Int) (ltz p.1 ((pvs m ps).length)) iiz iiz rfl rfl)<|zC) fun a w4 s=> ?_
 refine zA rfl ?_
 refine StS.cond s (ltz p.1 ((pvs m ps).length)) iiz (fun e=> ?_) (fun e=> ?_)
 ·have hk:p.1<ps.length:=by have:=zXT e;simp at this;omega
  refine zXX ?_
  refine zXP ?_
  refine zX1 ?_
  refine zCA (K:= [(8,.u (uB (ltz p.1 ((pvs m ps).length)))),(0,.o (wD 6 (pvs m ps))),(0,.u (wB l)),(4,.u (uI (p.1:Int)))]) [(3,.u (wB (p.2)))] [0,1,2,7,8] 15 ((11,.u (wB (p.2)))::(12,.s (wD 6 (pvs m ps)))::(13,.Z (uI (p.1:Int)))::(14,.Y (fPV m (at_ ps p.1)))::(15,.X (fPV m (at_ ps p.1)) 0)::(16,.Z (fRV m ((at_ ps p.1).1)))::(17,.Z (fQN ((at_ ps p.1).1)))::(18,.s (wD 6 (pvs m ps)))::(19,.Z (uI (p.1:Int)))::(20,.Y (fPV m (at_ ps p.1)))::(21,.X (fPV m (at_ ps p.1)) 3)::(22,.Z (fRV m ((at_ ps p.1).2)))::(23,.Z (fQN ((at_ ps p.1).2)))::(24,.Z (fPN ((at_ ps p.1).1,(at_ ps p.1).2)))::(25,.s (wD 6 [wC (fPN ((at_ ps p.1).1,(at_ ps p.1).2))])):: []) hmix (s.keepK _ (fmz ⟨mz3,fmz ⟨.head _,fmz ⟨mz1,fmz ⟨mz2,fmz ⟨mz4,fnz⟩⟩⟩⟩⟩)) kH
   (oc zE<|oc zE<|oc zE<|oc (zBD (z:=6) (Cs:=pvs m ps) (i:=p.1) (C:=wC (fPV m (at_ ps p.1))) kH (q6 hk) iiz iiz)<|oc (zL (C:=cg (fPV m (at_ ps p.1))) 0 kH)<|oc (zR (C:=cg (fPV m (at_ ps p.1))) (k:=0) 3 kH (h:=zDf))<|oc (zJ zD zGV (fun u0 W hb (h0:RVp m ((at_ ps p.1).1) u0 W)=>zBC h0 hm))<|oc zE<|oc zE<|oc (zBD (z:=6) (Cs:=pvs m ps) (i:=p.1) (C:=wC (fPV m (at_ ps p.1))) kH (q6 hk) iiz iiz)<|oc (zL (C:=cg (fPV m (at_ ps p.1))) 3 kH)<|oc (zR (C:=cg (fPV m (at_ ps p.1))) (k:=3) 3 kH (h:=zDe))<|oc (zJ zD zGV (fun u0 W hb (h0:RVp m ((at_ ps p.1).2) u0 W)=>zBC h0 hm))<|oc (y4 (fun u v W (hu:QNp ((at_ ps p.1).1) u W) (hv:QNp ((at_ ps p.1).2) v W)=>zPX (zAi _) (zAi _) hu hv))<|oc (jI (fun u W (hu:(fPN ((at_ ps p.1).1,(at_ ps p.1).2)).p u W)=>zEn hu))<|zC) fun Q' hQ a w5 s hr=> ?_
  refine zLv ([wC (fPN ((at_ ps p.1).1,(at_ ps p.1).2))]) s0 (s.keepK [(11,.u (wB (p.2))),(8,.u (uB (ltz p.1 ((pvs m ps).length)))),(0,.u (wB l)),(4,.u (uI (p.1:Int)))] (fmz ⟨.head _,fmz ⟨mz1,fmz ⟨mz3,fmz ⟨mz4,fnz⟩⟩⟩⟩)) lr hI.2 rfl kH kH kH (s.fct (.tmp 11)) (hr (_,_) zWM) (zQu _ _) (by simp;omega) (fun q hq=>by cases hq) fun v' a w hI' s=> ?_
  have s1:=s
  replace s:=s.reb rfl [(26,.u (wB v')),(11,.u (wB (p.2))),(8,.u (uB (ltz p.1 ((pvs m ps).length)))),(0,.u (wB l)),(4,.u (uI (p.1:Int)))] (fmz ⟨.inl (.head _),fmz ⟨.inl mz1,fmz ⟨.inl mz2,fmz ⟨.inl mz3,fmz ⟨.inl mz4,fnz⟩⟩⟩⟩⟩)
  refine yR (wB v') rfl s kH iiz fun a w s=> ?_
  refine zA rfl (hQ _ _ ?_)
  refine zX 2 ((9,.Z (uI (p.1:Int)))::(10,.u (uI ((p.1+1:Nat):Int))):: []) s kH
   (oc zE<|oc (yN .i64 (p.1:Int) 1 ((p.1+1:Nat):Int) iiz iiz (wrap64 _ _ oO oO))<|zC) fun a w6 s=> ?_
  replace s:=s.drop [4]
  refine yR (uI ((p.1+1:Nat):Int)) rfl s kH iiz fun a w s=> ?_
  refine zA rfl ?_
  have hbw:=s.below
  replace s:=s1.back (s.keepK [(4,.u (uI ((p.1+1:Nat):Int))),(10,.u (uI ((p.1+1:Nat):Int))),(3,.u (wB v')),(26,.u (wB v')),(11,.u (wB (p.2))),(8,.u (uB (ltz p.1 ((pvs m ps).length)))),(0,.u (wB l))] (fmz ⟨.head _,fmz ⟨mz1,fmz ⟨mz2,fmz ⟨mz3,fmz ⟨mz4,fmz ⟨mz5,fmz ⟨mz6,fnz⟩⟩⟩⟩⟩⟩⟩)) rfl
  exact ⟨(p.1+1,v'),(by show ps.length - (p.1+1)<ps.length - p.1;omega),⟨hk,zXY hI'.1 hbw.size,by rw [zJC hk];exact hI'.2.below hbw⟩,s.keepK _ (fmz ⟨mz6,fmz ⟨mz2,fmz ⟨.head _,fnz⟩⟩⟩)⟩
 ·have hk:p.1=ps.length:=by have:=zYa e;simp at this;omega
  refine zYb ?_
  refine zXP ?_
  refine zB 2 ((27,.Z (wB (p.2)))::(2,.u (wB (p.2))):: []) hmix s kH
   (oc zE<|oc zF<|zC) fun a w7 s=> ?_
  refine zA rfl ?_
  refine zXQ ?_
  exact StS.resN s s0.below rfl (by rw [s.val (.head _)];have:=hI.2.2.below s.below;rw [hk,List.take_length] at this;exact this)
def TB (m:Nat) (g:V2->Bool) (xs:Array Wj) (W:Wi) (R:SF):Prop:= ∃u p,xs=#[u]/\(fPV m p).p u W/\R=(fB (g p)).tS
def zLc {α:Type} (g:α->Bool) (l:List α):Int:=if l.any g then ((l.findIdx g:Nat):Int) else -1
theorem zPw {α:Type} (g:α->Bool) (l:List α):decide (zLc g l≥0)=l.any g:=by
 unfold zLc
 cases h:l.any g with
 |true=>simp
 |false=>simp
theorem zSy {l:List V2} (hk:k<l.length) (h0: ∀j,j<k->g (at_ l j)=false) (h1:g (at_ l k)=true):zLc g l=(k:Int):=by
 have ha:l.any g=true:=List.any_eq_true.2 ⟨_,zB2 hk,h1⟩
 unfold zLc
 rw [if_pos ha]
 congr 1
 have ge: ∀j,at_ l j=l.getD j (0,0):=fun _=>rfl
 refine (List.findIdx_eq hk).2 ⟨by have:=h1;unfold at_ at this;rwa [zYG,zYj hk] at this,fun j hj=> ?_⟩
 have:=h0 j hj
 unfold at_ at this
 rwa [zYG,zYj (Nat.lt_trans hj hk)] at this
theorem zM8 {l:List V2} (h0: ∀j,j<l.length->g (at_ l j)=false):zLc g l= -1:=by
 unfold zLc
 rw [if_neg]
 intro ha
 obtain ⟨p,hp,e⟩:=List.any_eq_true.1 ha
 obtain ⟨j,hj,rfl⟩:=zMN hp
 rw [h0 j hj] at e
 cases e
theorem zVI {f:Wj} (hl:(wD 6 (pvs m ps)).p l W) (hf:(SF.fn prog (TB m g)).p f W) (hn:ps.length<=1000000):Calls prog 79 #[l,f] W (Ret W (fI (zLc g ps)).tS):=by
 refine z9 [wD 6 (pvs m ps),SF.fn prog (TB m g)] func79 rfl kH ⟨hl,hf,trivial⟩ fun a s=> ?_
 refine zXP ?_
 refine zB 1 ((4,.u (uI 0)):: []) hmix s kH
  (oc zF<|zC) fun a w1 s=> ?_
 refine zA rfl ?_
 refine zXP ?_
 refine zXP ?_
 refine zB 3 ((6,.s (wD 6 (pvs m ps)))::(7,.u (uI ((pvs m ps).length:Int)))::(8,.u (uI 0)):: []) hmix s kH
  (oc zE<|oc (zEc (z:=6) (Cs:=pvs m ps) kH iiz (fun _=>rfl))<|oc zE<|zC) fun a w2 s=> ?_
 refine zA rfl ?_
 refine zX1 ?_
 refine zAF (fun k=>k<=ps.length/\ ∀j,j<k->g (at_ ps j)=false) (fun k=> [(0,.o (wD 6 (pvs m ps))),(1,.o (SF.fn prog (TB m g))),(7,.u (uI ((pvs m ps).length:Int))),(8,.u (uI ((k:Nat):Int)))]) (fun k=>ps.length - k) (0:Nat) (⟨zXU _,fun j hj=>absurd hj (Nat.not_lt_zero _)⟩) (s.keepK _ (fmz ⟨mz3,fmz ⟨mz4,fmz ⟨.head _,fmz ⟨mz1,fnz⟩⟩⟩⟩)) fun k a w hx s=> ?_
 refine zXP ?_
 refine zB 1 ((9,.u (uB (ltz k ((pvs m ps).length)))):: []) hmix s kH
  (oc (zS .i64 (k:Int) ((pvs m ps).length:Int) (ltz k ((pvs m ps).length)) iiz iiz rfl rfl)<|zC) fun a w3 s=> ?_
 refine zA rfl ?_
 refine zXP ?_
 refine StS.cond s (ltz k ((pvs m ps).length)) iiz (fun e=> ?_) (fun e=> ?_)
 ·have hk:k<ps.length:=by have:=zXT e;simp at this;omega
  refine zXX ?_
  refine zXP ?_
  refine zX1 ?_
  refine zXP ?_
  refine zB 2 ((10,.Z (uI (k:Int)))::(5,.u (uI (k:Int))):: []) hmix s kH
   (oc zE<|oc zF<|zC) fun a w4 s=> ?_
  refine zA rfl ?_
  refine zXP ?_
  refine zB 6 ((11,.s (SF.fn prog (TB m g)))::(12,.s (wD 6 (pvs m ps)))::(13,.Z (uI (k:Int)))::(14,.Y (fPV m (at_ ps k)))::(15,.Z (fPV m (at_ ps k)))::(16,.u (uB (g (at_ ps k)))):: []) hmix s kH
   (oc zE<|oc zE<|oc zE<|oc (zBD (z:=6) (Cs:=pvs m ps) (i:=k) (C:=wC (fPV m (at_ ps k))) kH (q6 hk) iiz iiz)<|oc (zK (f:=fPV m (at_ ps k)) 6 kH (hz:=zP _ _))<|oc (zTV (TB m g) zD iiz (fun u W hb (h:(fPV m (at_ ps k)).p u W)=>⟨u,_,rfl,h,rfl⟩))<|zC) fun a w5 s=> ?_
  refine zA rfl ?_
  refine StS.cond s (g (at_ ps k)) iiz (fun e=> ?_) (fun e=> ?_)
  ·refine zXP ?_
   refine zB 2 ((17,.Z (uI (k:Int)))::(4,.u (uI (k:Int))):: []) hmix s kH
    (oc zE<|oc zF<|zC) fun a w6 s=> ?_
   refine zA rfl ?_
   refine zXQ ?_
   exact wG s (t:=4) rfl (fun v W h=>by rw [zSy hk hx.2 e];exact h)
  ·refine zXX ?_
   refine zX 1 ((18,.u (uI ((k+1:Nat):Int))):: []) s kH
    (oc (yN .i64 (k:Int) 1 ((k+1:Nat):Int) iiz iiz (wrap64 _ _ oO oO))<|zC) fun a w7 s=> ?_
   replace s:=s.drop [8]
   refine zAN (uI ((k+1:Nat):Int)) rfl s kH zE kH fun a w s=> ?_
   refine zA rfl ?_
   exact ⟨k+1,⟨hk,fun j hj=>by rcases zYH (Nat.le_of_lt_succ hj) with h|h;exact hx.2 j h;rw [h];exact e⟩,(by show ps.length - (k+1)<ps.length - k;omega),s.keepK _ (fmz ⟨mz5,fmz ⟨mz6,fmz ⟨mz7,fmz ⟨.head _,fnz⟩⟩⟩⟩)⟩
 ·have hk:k=ps.length:=by have h7:=zYa e;have h8:=hx.1;simp at h7;omega
  refine zYb ?_
  refine zXP ?_
  refine zB 1 ((4,.u (uI (-1))):: []) hmix s kH
   (oc zF<|zC) fun a w8 s=> ?_
  refine zA rfl ?_
  refine zXQ ?_
  exact wG s (t:=4) rfl (fun v W h=>by rw [zM8 (fun j hj=>hx.2 j oO)];exact h)
theorem zXf {f:Wj} (hl:(wD 6 (pvs m ps)).p l W) (hf:(SF.fn prog (TB m g)).p f W) (hn:ps.length<=1000000):Calls prog 49 #[l,f] W (Ret W (fB (ps.any g)).tS):=by
 refine z9 [wD 6 (pvs m ps),SF.fn prog (TB m g)] func49 rfl kH ⟨hl,hf,trivial⟩ fun a s=> ?_
 refine zXP ?_
 refine zB 1 ((4,.u (uB false)):: []) hmix s kH
  (oc zF<|zC) fun a w1 s=> ?_
 refine zA rfl ?_
 refine zXP ?_
 replace s:=s.drop [4]
 refine zB 5 ((5,.s (wD 6 (pvs m ps)))::(6,.s (SF.fn prog (TB m g)))::(7,.Z (uI (zLc g ps)))::(8,.Z (uB (decide (zLc g ps≥0))))::(4,.u (uB (decide (zLc g ps≥0)))):: []) hmix s kH
  (oc zE<|oc zE<|oc (zI zD zVY (fun u0 u1 W hb (h0:(wD 6 (pvs m ps)).p u0 W) (h1:(SF.fn prog (TB m g)).p u1 W)=>zVI h0 h1 hn))<|oc (zS .i64 (zLc g ps) 0 (decide (zLc g ps≥0)) iiz iiz rfl rfl)<|oc zF<|zC) fun a w2 s=> ?_
 refine zA rfl ?_
 refine zXQ ?_
 exact wG s (t:=4) rfl (fun v W h=>by rw [<-zPw];exact h)
theorem zCD (hm0:0<m) {p:V2} {v:Wj} {W:Wi} (h:(fPV m p).p v W):QB p.1 m/\QB p.2 m:=by
 obtain ⟨_,_,_,_,_,_,_,_,_,_,_,_,_,_,_,h1,h2⟩:=h
 exact ⟨h1.qb hm0,h2.qb hm0⟩
theorem zHq (h:(wD z Cs).p v W):v.cells=#[v]/\yA v=true:=by
 obtain ⟨A,c,rfl,_⟩:=h
 exact ⟨rfl,rfl⟩
def vN (v:Wj) (P:Prop):CU:=⟨fun cs _=>cs= [v]/\P,fun _ _ _ h _=>h⟩
theorem zIj (h:vs.length=k) (h1: ∀u,u∈vs->u.oneCell'=true) (h2:vs.all yA=true) (v:Wj) (W:Wi) (e:(wB (.agg vs.toArray)).p v W): ∃us:List Wj,v= .agg us.toArray/\us.length=k/\(∀u,u∈us->u.oneCell'=true)/\us.all yA=true/\(wC (wB (.agg vs.toArray))).p us W:=⟨vs,e,h,h1,h2,rfl⟩
theorem zEm {u:Wj} (h:vs[k]?=some u): ∀cs W,(wC (wB (.agg vs.toArray))).p cs W-> ∃x,cs[k]?=some x/\(wB u).p x W:=fun cs W e=>by
 have:=zX5 Array.toList (jL e)
 simp at this
 rw [this]
 exact ⟨u,h,rfl⟩
section
variable {F:Fence} {m:Nat} {P:Wn} {w0:Wi} {ops:Array Oper} {G:Nat->SF} {d:Tmp} {ty:Wk} {pos:String} {aft:Array Edge}
theorem zMy (u v r:Wj) (hx: ∀q W,(fct G x).p q W->q=u) (hy: ∀q W,(fct G y).p q W->q=v) (hr: ∀W,(Instr.index t u v).run P W= .ok r W) (hd: ∀W,(G d).p r W:=by exact fun _=>rfl):qN F m P w0 ops G ⟨some d,.index t x y,ty,pos,aft,none⟩:=
 qK (fun _ e=>by cases e) (fun _ e=>by cases e) fun b W hb hh=>by
  have e1:=hx _ _ (hh x (by simp [Op.operands]))
  have e2:=hy _ _ (hh y (by simp [Op.operands]))
  exact ⟨r,by simp [execOp,e1,e2,hr W],hd _⟩
end
abbrev V6:=V2×V2×V2
abbrev tl (t:V6):List V2:= [t.1,t.2.1,t.2.2]
theorem zED {m':Nat} (hm:m<=m') {ps:List V2} (v:Wj) (W:Wi) (hv:(wD 6 (pvs m ps)).p v W):(wD 6 (pvs m' ps)).p v W:=
 zGn fN (fun i C D hC hD cs W h=>by
  have hi:i<ps.length:=by have:=(zXS.1 hC).1;simpa using this
  rw [q6 hi] at hC
  rw [q6 hi] at hD
  cases hC;cases hD
  exact zDd hm h) v W hv
section
variable {F:Fence} {m:Nat} {P:Wn} {w0:Wi} {ops:Array Oper} {G:Nat->SF} {d:Tmp} {ty:Wk} {pos:String} {aft:Array Edge}
end
theorem zBm {W':Wi} (h:W.heap.size<=W'.heap.size) (v:Wj) (w:Wi) (hv:(wL W' e z Cs).p v w):(wL W e z Cs).p v w:=zAU.mono hv h
theorem zJz (hm0:0<m) {ps:List V2} {v:Wj} {W:Wi} (h:(wD 6 (pvs m ps)).p v W): ∀x,x∈ps->QB x.1 m/\QB x.2 m:=fun x hx=>by
 obtain ⟨i,hi,rfl⟩:=zMN hx
 obtain ⟨_,_,_,_,_,_,h5⟩:=h
 obtain ⟨b,o,cs,_,_,h6⟩:=h5 i _ (q6 hi)
 exact zCD hm0 (v:= .agg cs.toArray) h6
abbrev zQB (L:List Nat):List CU:=L.map fun z=>wF [.int .i64 ((z:Nat):Int)]
theorem zMF (L:List Nat) (k:Nat):zQB (L++ [k])=zQB L++ [wF [.int .i64 (k:Int)]]:=by simp [zQB]
theorem zQC (z:Int): ∀C,C∈ [wF [.int .i64 z]]->CU.ok 1 C:=fun C hC cs W h=>by
 obtain rfl:C=_:=by simpa using hC
 obtain rfl:cs=_:=h
 exact ⟨rfl,rfl,fun u hu=>by obtain rfl:=List.mem_singleton.1 hu;rfl⟩
theorem zVr (z:Int):yE prog 41 1 [(0,.int .i64 z)]=some (3,#[.int .i64 z]):=by kernel_rfl
theorem zLC {z:Int} {u:Wj} (h:u= .int .i64 z): ∃e cs,yE prog 41 1 [(0,u)]=some (e,cs)/\(wD 1 [wF [.int .i64 z]]).p (.slice (some ⟨W.heap.size,0,none⟩) 1 1) (W.alloc (.cells cs e)):=by
 subst h
 refine ⟨_,_,zVr z,some ⟨W.heap.size,0,none⟩,1,rfl,zXW _,by decide,fun e=>(by cases e),fun i C hi=> ?_⟩
 have hm:=zB5 W #[.int .i64 z] 3
 obtain rfl:i=0:=by have:=(zXS.1 hi).1;simp at this;omega
 obtain rfl:wF [.int .i64 z]=C:=by simpa using hi
 exact ⟨W.heap.size,0, [.int .i64 z],rfl,hm,rfl⟩
abbrev PX:=QX×QX
abbrev PX.p (x:PX):V2:=(x.1.q,x.2.q)
abbrev PX.u (x:PX):UF:=fPT (fQX x.1.n x.1.n' x.1.k x.1.d) (fQX x.2.n x.2.n' x.2.k x.2.d)
abbrev PX.cu (x:PX):CU:=wC x.u
abbrev pxs (L:List PX):List CU:=L.map PX.cu
abbrev pps (L:List PX):List V2:=L.map PX.p
theorem zW2 {x:PX} (cs:List Wj) (W:Wi) (h:(PX.cu x).p cs W): ∃u,cs[1]?=some u/\(fSl x.1.n).p u W:=by
 obtain ⟨s,A,n,c,A',n',c',s2,B,k,d,B',k',d',e,h1,h2⟩:=h
 rw [zDT e]
 have:=zQo _ W (show (QX.cu x.1).p [Value.bool s,.slice A n c,.slice A' n' c'] W from h1)
 exact this
theorem zW1 {x:PX} (cs:List Wj) (W:Wi) (h:(PX.cu x).p cs W): ∃u,cs[2]?=some u/\(fSl x.1.n').p u W:=by
 obtain ⟨s,A,n,c,A',n',c',s2,B,k,d,B',k',d',e,h1,h2⟩:=h
 rw [zDT e]
 have:=zQn _ W (show (QX.cu x.1).p [Value.bool s,.slice A n c,.slice A' n' c'] W from h1)
 exact this
theorem zW0 {x:PX} (cs:List Wj) (W:Wi) (h:(PX.cu x).p cs W): ∃u,cs[4]?=some u/\(fSl x.2.n).p u W:=by
 obtain ⟨s,A,n,c,A',n',c',s2,B,k,d,B',k',d',e,h1,h2⟩:=h
 rw [zDT e]
 have:=zQo _ W (show (QX.cu x.2).p [Value.bool s2,.slice B k d,.slice B' k' d'] W from h2)
 exact this
theorem zWZ {x:PX} (cs:List Wj) (W:Wi) (h:(PX.cu x).p cs W): ∃u,cs[5]?=some u/\(fSl x.2.n').p u W:=by
 obtain ⟨s,A,n,c,A',n',c',s2,B,k,d,B',k',d',e,h1,h2⟩:=h
 rw [zDT e]
 have:=zQn _ W (show (QX.cu x.2).p [Value.bool s2,.slice B k d,.slice B' k' d'] W from h2)
 exact this
section
variable {F:Fence} {m:Nat} {P:Wn} {w0:Wi} {ops:Array Oper} {G:Nat->SF} {d:Tmp} {ty:Wk} {pos:String} {aft:Array Edge}
theorem zSk {z u:Wm} {ats:Array Wk} (a b c e:Nat) (hx: ∀q W,(fct G x).p q W->q= .int .i64 (a:Nat)) (hy: ∀q W,(fct G y).p q W->q= .int .i64 (b:Nat)) (hz: ∀q W,(fct G z).p q W->q= .int .i64 (c:Nat)) (hu: ∀q W,(fct G u).p q W->q= .int .i64 (e:Nat)) (hd: ∀W,(G d).p (.int .i64 ((max (max (max a b) c) e:Nat):Int)) W:=by exact fun _=>rfl):qN F m P w0 ops G ⟨some d,.call ⟨.builtin .max,#[x,y,z,u],ats⟩,ty,pos,aft,none⟩:=by
 intro bb W K Q hb hr hK
 have e1:=hx _ _ (qD hr (x:=x) (by simp [Op.operands,Call.operands]))
 have e2:=hy _ _ (qD hr (x:=y) (by simp [Op.operands,Call.operands]))
 have e3:=hz _ _ (qD hr (x:=z) (by simp [Op.operands,Call.operands]))
 have e4:=hu _ _ (qD hr (x:=u) (by simp [Op.operands,Call.operands]))
 refine ⟨fun f hf=>(by
  unfold Oper.about at hf
  simp [resolve,go_sem] at hf), ?_⟩
 rw [Oper.semAt_eq _ _ _ (fun _ e=>by cases e)]
 have:(execOp bb.eval ⟨some d,.call ⟨.builtin .max,#[x,y,z,u],ats⟩,ty,pos,aft,none⟩).run P W= .ok (.value (.int .i64 ((max (max (max a b) c) e:Nat):Int))) W:=by
  have m2: ∀p q:Nat,(if (p:Int)<(q:Int) then Value.int .i64 (q:Nat) else .int .i64 (p:Nat))= .int .i64 ((max p q:Nat):Int):=fun p q=>by
   split<;>(congr 1;omega)
  simp only [execOp,resolve,invoke,builtin,e1,e2,e3,e4,Sem.run_bind,Sem.run_pure,Result.andThen_ok,List.map_toArray,List.map_cons,List.map_nil]
  simp [Builtin.max_,Builtin.max2,m2,Sem.run_bind,Sem.run_pure]
  have m3: ∀p q:Nat,(if (p:Int)<(q:Int) then (q:Int) else (p:Int))=((max p q:Nat):Int):=fun p q=>by split<;>omega
  try simp only [m3]
  try (congr 1;omega)
 rw [this]
 exact hK _ _ (fun d' e'=>by cases e';exact hd _) (zXV _ _)
end
def q8 (p q:V2):Int:=if qsg p.1 q.1=0 then qsg p.2 q.2 else qsg p.1 q.1
theorem zQ8 {p q:V2} (h:(qsg p.1 q.1 !=0)=true):q8 p q=qsg p.1 q.1:=by unfold q8;rw [if_neg (by simpa using h)]
theorem zQ7 {p q:V2} (h:(qsg p.1 q.1 !=0)=false):q8 p q=qsg p.2 q.2:=by unfold q8;rw [if_pos (by simpa using h)]
theorem zGp (a n:Nat):(a:Int).tmod (n:Int)=((a % n:Nat):Int):=rfl
theorem zBg {p q:V2} (hp:QB p.1 m/\QB p.2 m) (hq:QB q.1 m/\QB q.2 m):QB (p.1 - q.1) (2*m+1)/\QB (p.2 - q.2) (2*m+1):=⟨(hp.1.sub hq.1).mono oO,(hp.2.sub hq.2).mono oO⟩
theorem zL1 {u:Wj} {p q:V2} (h1:(fPV m p).p u W) (h2:(fPV m q).p v W) (hm:m<=990) (hm0:0<m):Calls prog 53 #[u,v] W (Ret W (fI (q8 p q)).tS):=by
 refine z9 [(fPV m p).tS,(fPV m q).tS] func53 rfl kH ⟨h1,h2,trivial⟩ fun a s=> ?_
 refine zXP ?_
 refine zB 0 [] hmix s kH
  zC fun a w1 s=> ?_
 refine yK (wC (fPV m p)) rfl s kH (fun v W h=>yS h) fun b2 a w s=> ?_
 refine yK (wC (fPV m q)) rfl s kH (fun v W h=>yS h) fun b3 a w s=> ?_
 refine yR (uI 0) rfl s kH iiz fun a w s=> ?_
 refine zA rfl ?_
 refine zXP ?_
 refine zB 6 ((6,.X (fPV m p) 0)::(7,.Z (fRV m ((p).1)))::(8,.X (fPV m q) 0)::(9,.Z (fRV m ((q).1)))::(10,.Z (uI (qsg (p).1 (q).1)))::(5,.u (uI (qsg (p).1 (q).1))):: []) hmix s kH
  (oc (zL (C:=cg (fPV m p)) 0 kH)<|oc (zR (C:=cg (fPV m p)) (k:=0) 3 kH (h:=zDf))<|oc (zL (C:=cg (fPV m q)) 0 kH)<|oc (zR (C:=cg (fPV m q)) (k:=0) 3 kH (h:=zDf))<|oc (zI zD zUJ (fun u0 u1 W hb (h0:RVp m ((p).1) u0 W) (h1:RVp m ((q).1) u1 W)=>zL7 h0 h1 hm hm0))<|oc zF<|zC) fun a w2 s=> ?_
 refine zA rfl ?_
 refine zXP ?_
 refine zXP ?_
 refine zB 2 ((11,.Z (uI (qsg (p).1 (q).1)))::(12,.u (uB (qsg (p).1 (q).1 !=0))):: []) hmix s kH
  (oc zE<|oc (zS .i64 (qsg (p).1 (q).1) 0 (qsg (p).1 (q).1 !=0) iiz iiz rfl rfl)<|zC) fun a w3 s=> ?_
 refine zA rfl ?_
 refine StS.cond s (qsg (p).1 (q).1 !=0) iiz (fun e=> ?_) (fun e=> ?_)
 ·refine zXP ?_
  replace s:=s.drop [4]
  refine zB 2 ((13,.Z (uI (qsg (p).1 (q).1)))::(4,.u (uI (qsg (p).1 (q).1))):: []) hmix s kH
   (oc zE<|oc zF<|zC) fun a w4 s=> ?_
  refine zA rfl ?_
  refine zXQ ?_
  exact wG s (t:=4) rfl (fun v W h=>by rw [zQ8 e];exact h)
 ·refine zXX ?_
  refine zXP ?_
  replace s:=s.drop [4]
  refine zB 6 ((14,.X (fPV m p) 3)::(15,.Z (fRV m ((p).2)))::(16,.X (fPV m q) 3)::(17,.Z (fRV m ((q).2)))::(18,.Z (uI (qsg (p).2 (q).2)))::(4,.u (uI (qsg (p).2 (q).2))):: []) hmix s kH
   (oc (zL (C:=cg (fPV m p)) 3 kH)<|oc (zR (C:=cg (fPV m p)) (k:=3) 3 kH (h:=zDe))<|oc (zL (C:=cg (fPV m q)) 3 kH)<|oc (zR (C:=cg (fPV m q)) (k:=3) 3 kH (h:=zDe))<|oc (zI zD zUJ (fun u0 u1 W hb (h0:RVp m ((p).2) u0 W) (h1:RVp m ((q).2) u1 W)=>zL7 h0 h1 hm hm0))<|oc zF<|zC) fun a w5 s=> ?_
  refine zA rfl ?_
  refine zXQ ?_
  exact wG s (t:=4) rfl (fun v W h=>by rw [zQ7 e];exact h)
section
variable {F:Fence} {m:Nat} {P:Wn} {w0:Wi} {ops:Array Oper} {G:Nat->SF} {d:Tmp} {ty:Wk} {pos:String} {aft:Array Edge}
theorem zCa {j:Nat} {z:Wm} (h: ∀u v q W,(fct G x).p u W->(fct G y).p v W->(fct G z).p q W-> ∃cells,P.built t [(i,u),(j,v),(k,q)]=some cells/\(G d).p (.agg cells) W):qN F m P w0 ops G ⟨some d,.build t #[(i,x),(j,y),(k,z)],ty,pos,aft,none⟩:=
 zGC fun b W hb hh=>by
  obtain ⟨cells,h1,h2⟩:=h _ _ _ W (hh x fN) (hh y fN) (hh z fN)
  exact ⟨cells,by simpa using h1,h2⟩
end
theorem qbz {z:Int} (h:z.natAbs<100):QB ((z:Int):Rat) 1:=QB.int (Nat.lt_trans h dA) dA
def TGp (u v q:UF) (x:Wj) (w:Wi):Prop:= ∃a b c:List Wj,x= .agg (a++b++c).toArray/\(wC u).p a w/\(wC v).p b w/\(wC q).p c w
def fTG (u v q:UF):UF:= .mk' (TGp u v q) fun _ _ _ ⟨a,b,c,e,h1,h2,h3⟩ k=>⟨a,b,c,e,(wC u).us _ _ _ h1 k,(wC v).us _ _ _ h2 k,(wC q).us _ _ _ h3 k⟩
section
variable {f g f' g' f'' g'':UF}
theorem zEz (h:(wC (fTG (fPT f g) (fPT f' g') (fPT f'' g''))).p cs W): ∃a b c:List Wj,cs=a++b++c/\a.length=6/\b.length=6/\c.length=6/\(wC (fPT f g)).p a W/\(wC (fPT f' g')).p b W/\(wC (fPT f'' g'')).p c W:=by
 obtain ⟨a,b,c,e,h1,h2,h3⟩:=h
 have:=zX5 Array.toList (jL e)
 have this:cs=a++b++c:=this
 exact ⟨a,b,c,this,(zD8 _ _ a W h1).1,(zD8 _ _ b W h2).1,(zD8 _ _ c W h3).1,h1,h2,h3⟩
theorem zVi:CU.ok 18 (wC (fTG (fPT f g) (fPT f' g') (fPT f'' g''))):=fun cs W h=>by
 obtain ⟨a,b,c,rfl,l1,l2,l3,h1,h2,h3⟩:=zEz h
 have o1:=zD8 _ _ a W h1;have o2:=zD8 _ _ b W h2;have o3:=zD8 _ _ c W h3
 refine ⟨by simp [l1,l2,l3],zI2 o1.2.1 o2.2.1 o3.2.1,fun u hu=> ?_⟩
 rcases zYc.1 hu with hu|hu
 ·rcases zYc.1 hu with hu|hu
  ·exact o1.2.2 u hu
  ·exact o2.2.2 u hu
 ·exact o3.2.2 u hu
theorem zTd (h:(fTG (fPT f g) (fPT f' g') (fPT f'' g'')).p v W):(wC (fTG (fPT f g) (fPT f' g') (fPT f'' g''))).p v.cells.toList W/\v.cells.toList.all yA=true:=by
 obtain ⟨a,b,c,rfl,h1⟩:=id h
 exact ⟨h,(zVi _ W h).2.1⟩
theorem zQc (cs:List Wj) (W:Wi) (h:(wC (fTG (fPT f g) (fPT f' g') (fPT f'' g''))).p cs W):0+6<=cs.length/\(fPT f g).p (.agg ((cs.drop 0).take 6).toArray) W:=by
 obtain ⟨a,b,c,rfl,l1,l2,l3,h1,_⟩:=zEz h
 refine ⟨by simp [l1,l2,l3], ?_⟩
 rw [zYI,List.append_assoc,zYl oO,zYd oO]
 exact h1
theorem zTc (cs:List Wj) (W:Wi) (h:(wC (fTG (fPT f g) (fPT f' g') (fPT f'' g''))).p cs W):6+6<=cs.length/\(fPT f' g').p (.agg ((cs.drop 6).take 6).toArray) W:=by
 obtain ⟨a,b,c,rfl,l1,l2,l3,_,h2,_⟩:=zEz h
 refine ⟨by simp [l1,l2,l3], ?_⟩
 rw [List.append_assoc,zYm oO,zYn oO,zX4,zYl oO,zYd oO]
 exact h2
theorem zRB (cs:List Wj) (W:Wi) (h:(wC (fTG (fPT f g) (fPT f' g') (fPT f'' g''))).p cs W):12+6<=cs.length/\(fPT f'' g'').p (.agg ((cs.drop 12).take 6).toArray) W:=by
 obtain ⟨a,b,c,rfl,l1,l2,l3,_,_,h3⟩:=zEz h
 refine ⟨by simp [l1,l2,l3], ?_⟩
 rw [zYm (by simp;omega),zYn (by simp;omega),zX4,zYd oO]
 exact h3
theorem zGm (hlen:Cs.length<=9223372036854775807) (h: ∀(i:Nat) (C:CU),Cs[i]?=some C-> ∃p:List Wj,(∀j u,p[j]?=some u->cs[i*z+j]?=some u)/\C.p p W):(wD z Cs).p (.slice (some ⟨W.heap.size,0,none⟩) Cs.length Cs.length) (W.alloc (.cells cs.toArray e)):=by
 refine ⟨some ⟨W.heap.size,0,none⟩,Cs.length,rfl,zXW _,hlen,fun e=>(by cases e),fun i C hi=> ?_⟩
 obtain ⟨p,h1,h2⟩:=h i C hi
 refine ⟨W.heap.size,0,p,rfl,fun j u hj=> ?_,C.us _ _ _ h2 (zV (zCP W _))⟩
 have:=zB5 W cs.toArray e (i*z+j) u (by simpa using h1 j u hj)
 rwa [<-Nat.add_assoc] at this
theorem zWV (s:Bool) (A A':Wl Addr) (n n' c c':Nat) (s2:Bool) (B B':Wl Addr) (k k' d d':Nat) (t:Bool) (C C':Wl Addr) (i i' j j':Nat) (t2:Bool) (D D':Wl Addr) (x x' y y':Nat) (r:Bool) (E E':Wl Addr) (p p' q q':Nat) (r2:Bool) (F F':Wl Addr) (g g' h h':Nat):yE prog 22 3 [(0,.agg #[.bool s,.slice A n c,.slice A' n' c',.bool s2,.slice B k d,.slice B' k' d']),(1,.agg #[.bool t,.slice C i j,.slice C' i' j',.bool t2,.slice D x y,.slice D' x' y']),(2,.agg #[.bool r,.slice E p q,.slice E' p' q',.bool r2,.slice F g h,.slice F' g' h'])]=some (30,#[.bool s,.slice A n c,.slice A' n' c',.bool s2,.slice B k d,.slice B' k' d',.bool t,.slice C i j,.slice C' i' j',.bool t2,.slice D x y,.slice D' x' y',.bool r,.slice E p q,.slice E' p' q',.bool r2,.slice F g h,.slice F' g' h']):=by kernel_rfl
theorem zTo {u q:Wj} (hu:(fPT f g).p u W) (hv:(fPT f' g').p v W) (hq:(fPT f'' g'').p q W): ∃e cs,yE prog 22 3 [(0,u),(1,v),(2,q)]=some (e,cs)/\(wD 6 [wC (fPT f g),wC (fPT f' g'),wC (fPT f'' g'')]).p (.slice (some ⟨W.heap.size,0,none⟩) 3 3) (W.alloc (.cells cs e)):=by
 obtain ⟨s,A,n,c,A',n',c',s2,B,k,d,B',k',d',rfl,h1,h2⟩:=hu
 obtain ⟨s3,A3,n3,c3,A4,n4,c4,s4,B3,k3,d3,B4,k4,d4,rfl,h3,h4⟩:=hv
 obtain ⟨s5,A5,n5,c5,A6,n6,c6,s6,B5,k5,d5,B6,k6,d6,rfl,h5,h6⟩:=hq
 refine ⟨_,_,zWV ..,zGm (Cs:= [wC (fPT f g),wC (fPT f' g'),wC (fPT f'' g'')]) (cs:=_) fN fun i C hi=> ?_⟩
 have hlt:=(zXS.1 hi).1
 simp at hlt
 rcases (by omega:i=0∨i=1∨i=2) with rfl|rfl|rfl
 ·obtain rfl:wC (fPT f g)=C:=by simpa using hi
  exact ⟨[.bool s,.slice A n c,.slice A' n' c',.bool s2,.slice B k d,.slice B' k' d'],fun j u hj=>by
   have h9:=(zXS.1 hj).1
   simp at h9
   rcases (by omega:j=0∨j=1∨j=2∨j=3∨j=4∨j=5) with rfl|rfl|rfl|rfl|rfl|rfl<;>exact hj,s,A,n,c,A',n',c',s2,B,k,d,B',k',d',rfl,h1,h2⟩
 ·obtain rfl:wC (fPT f' g')=C:=by simpa using hi
  exact ⟨[.bool s3,.slice A3 n3 c3,.slice A4 n4 c4,.bool s4,.slice B3 k3 d3,.slice B4 k4 d4],fun j u hj=>by
   have h9:=(zXS.1 hj).1
   simp at h9
   rcases (by omega:j=0∨j=1∨j=2∨j=3∨j=4∨j=5) with rfl|rfl|rfl|rfl|rfl|rfl<;>exact hj,s3,A3,n3,c3,A4,n4,c4,s4,B3,k3,d3,B4,k4,d4,rfl,h3,h4⟩
 ·obtain rfl:wC (fPT f'' g'')=C:=by simpa using hi
  exact ⟨[.bool s5,.slice A5 n5 c5,.slice A6 n6 c6,.bool s6,.slice B5 k5 d5,.slice B6 k6 d6],fun j u hj=>by
   have h9:=(zXS.1 hj).1
   simp at h9
   rcases (by omega:j=0∨j=1∨j=2∨j=3∨j=4∨j=5) with rfl|rfl|rfl|rfl|rfl|rfl<;>exact hj,s5,A5,n5,c5,A6,n6,c6,s6,B5,k5,d5,B6,k6,d6,rfl,h5,h6⟩
end
def PX.b (x:PX):Nat:=x.1.n+x.1.n'+(x.2.n+x.2.n')
section
variable {F:Fence} {m:Nat} {P:Wn} {w0:Wi} {ops:Array Oper} {G:Nat->SF} {d:Tmp} {ty:Wk} {pos:String} {aft:Array Edge}
theorem zSl {op:BinOp} (u v r:Bool) (ht:P.underlying t=some .bool) (hx: ∀q W,(fct G x).p q W->q= .bool u) (hy: ∀q W,(fct G y).p q W->q= .bool v) (hr:(match op with| .eql=>u==v| .neq=>u !=v|_=>false)=r) (ho:(match op with| .eql| .neq=>true|_=>false)=true) (hd: ∀W,(G d).p (.bool r) W:=by exact fun _=>rfl):qN F m P w0 ops G ⟨some d,.binOp op t x y t',ty,pos,aft,none⟩:=
 zDE (.bool u) (.bool v) (.bool r) hx hy (fun W=>by cases op<;>first|(cases ho;done)|simp [eqGuard]) (fun W=>by cases op<;>first|(cases ho;done)|(subst hr;cases u<;>cases v<;>simp [go_sem,ht])) hd
end
section
variable {F:Fence} {m:Nat} {P:Wn} {w0:Wi} {ops:Array Oper} {G:Nat->SF} {d:Tmp} {ty:Wk} {pos:String} {aft:Array Edge}
end
def zAG (a b p:V2):Int:=(crs a b p).num.sign
def zVA (a b r:Rat):Bool:=(!(qsg a b==0))||(qsg a r==0)
def zN2 (a b r:Rat):Bool:=decide (qsg a r*qsg r b≥0)&&zVA a b r
def onB (a b p:V2):Bool:=((zAG a b p==0)&&zN2 a.1 b.1 p.1)&&zN2 a.2 b.2 p.2
theorem zFd (a b:Rat):qsg a b= -1∨qsg a b=0∨qsg a b=1:=by
 unfold qsg
 generalize a.num*(b.den:Int) - b.num*(a.den:Int)=z
 rcases Int.lt_trichotomy z 0 with h|h|h
 ·left;exact zYE h
 ·right;left;rw [h];rfl
 ·right;right;exact zYF h
abbrev QP (m:Nat) (p:V2):Prop:=QB p.1 m/\QB p.2 m
theorem QP.sub {p q:V2} (hp:QP m p) (hq:QP m q):QP (2*m+1) (p.1 - q.1,p.2 - q.2):=⟨(hp.1.sub hq.1).mono oO,(hp.2.sub hq.2).mono oO⟩
theorem zVh (hm0:0<m) {a b c:V2} {x:Wj} {W:Wi} (h:(fTG (fPV m a) (fPV m b) (fPV m c)).p x W):QP m a/\QP m b/\QP m c:=by
 obtain ⟨u,v,q,_,h1,h2,h3⟩:=h
 exact ⟨zCD hm0 (v:= .agg u.toArray) h1,zCD hm0 (v:= .agg v.toArray) h2,zCD hm0 (v:= .agg q.toArray) h3⟩
theorem thB (s:Bool) (A A':Wl Addr) (n n' c c':Nat) (s2:Bool) (B B':Wl Addr) (k k' d d':Nat) (t:Bool) (C C':Wl Addr) (i i' j j':Nat) (t2:Bool) (D D':Wl Addr) (x x' y y':Nat) (r:Bool) (E E':Wl Addr) (p p' q q':Nat) (r2:Bool) (F F':Wl Addr) (g g' h h':Nat):prog.built 94 [(0,.agg #[.bool s,.slice A n c,.slice A' n' c',.bool s2,.slice B k d,.slice B' k' d']),(1,.agg #[.bool t,.slice C i j,.slice C' i' j',.bool t2,.slice D x y,.slice D' x' y']),(2,.agg #[.bool r,.slice E p q,.slice E' p' q',.bool r2,.slice F g h,.slice F' g' h'])]=some #[.bool s,.slice A n c,.slice A' n' c',.bool s2,.slice B k d,.slice B' k' d',.bool t,.slice C i j,.slice C' i' j',.bool t2,.slice D x y,.slice D' x' y',.bool r,.slice E p q,.slice E' p' q',.bool r2,.slice F g h,.slice F' g' h']:=by kernel_rfl
theorem zXg {f g f' g' f'' g'':UF} {u q:Wj} (hu:(fPT f g).p u W) (hv:(fPT f' g').p v W) (hq:(fPT f'' g'').p q W): ∃cells,prog.built 94 [(0,u),(1,v),(2,q)]=some cells/\(fTG (fPT f g) (fPT f' g') (fPT f'' g'')).p (.agg cells) W:=by
 obtain ⟨s,A,n,c,A',n',c',s2,B,k,d,B',k',d',rfl,h1,h2⟩:=hu
 obtain ⟨s3,A3,n3,c3,A4,n4,c4,s4,B3,k3,d3,B4,k4,d4,rfl,h3,h4⟩:=hv
 obtain ⟨s5,A5,n5,c5,A6,n6,c6,s6,B5,k5,d5,B6,k6,d6,rfl,h5,h6⟩:=hq
 exact ⟨_,thB ..,_,_,_,rfl,⟨s,A,n,c,A',n',c',s2,B,k,d,B',k',d',rfl,h1,h2⟩,⟨s3,A3,n3,c3,A4,n4,c4,s4,B3,k3,d3,B4,k4,d4,rfl,h3,h4⟩,⟨s5,A5,n5,c5,A6,n6,c6,s6,B5,k5,d5,B6,k6,d6,rfl,h5,h6⟩⟩
theorem zRz {p q:V2} {x:Wj} (hx:(fTG (fPV m p) (fPV m q) (fPV m r)).p x W) (hm:m<=159) (hm0:0<m) (hT:Tab W):Calls prog 61 #[x] W (Ret W (fI (zAG p q r)).tS):=by
 have hq:=zVh hm0 hx
 refine z9 [(fTG (fPV m p) (fPV m q) (fPV m r)).tS] func61 rfl kH ⟨hx,trivial⟩ fun a s=> ?_
 replace s:=s.renew [(0,.u (fTG (fPV m p) (fPV m q) (fPV m r)))] (fmz ⟨.inr ⟨_,rfl,.head _⟩,fnz⟩)
 refine zXP ?_
 refine zB 0 [] hmix s kH
  zC fun a w1 s=> ?_
 refine yK (wC (fTG (fPV m p) (fPV m q) (fPV m r))) rfl s kH (fun v W h=>zTd h) fun b1 a w s=> ?_
 refine yR (uI 0) rfl s kH iiz fun a w s=> ?_
 refine zA rfl ?_
 refine zXP ?_
 replace s:=s.drop [2]
 refine zB 13 ((3,.X (fTG (fPV m p) (fPV m q) (fPV m r)) 6)::(4,.Z (fPV m q))::(5,.X (fTG (fPV m p) (fPV m q) (fPV m r)) 0)::(6,.Z (fPV m p))::(7,.Z (fPN ((q).1 - (p).1,(q).2 - (p).2)))::(8,.X (fTG (fPV m p) (fPV m q) (fPV m r)) 12)::(9,.Z (fPV m r))::(10,.X (fTG (fPV m p) (fPV m q) (fPV m r)) 0)::(11,.Z (fPV m p))::(12,.Z (fPN ((r).1 - (p).1,(r).2 - (p).2)))::(13,.Z (fQN (((q).1 - (p).1,(q).2 - (p).2).1*((r).1 - (p).1,(r).2 - (p).2).2 - ((q).1 - (p).1,(q).2 - (p).2).2*((r).1 - (p).1,(r).2 - (p).2).1)))::(14,.Z (uI (zAG p q r)))::(2,.u (uI (zAG p q r))):: []) hmix s kH
  (oc (zL (C:=cg (fTG (fPV m p) (fPV m q) (fPV m r))) 6 kH)<|oc (zR (C:=cg (fTG (fPV m p) (fPV m q) (fPV m r))) (k:=6) 6 kH (h:=zTc))<|oc (zL (C:=cg (fTG (fPV m p) (fPV m q) (fPV m r))) 0 kH)<|oc (zR (C:=cg (fTG (fPV m p) (fPV m q) (fPV m r))) (k:=0) 6 kH (h:=zQc))<|oc (zI zD zSR (fun u0 u1 W hb (h0:(fPV m q).p u0 W) (h1:(fPV m p).p u1 W)=>zLo (p:=q) (q:=p) h0 h1 oO hm0 (hT.below (s.up hb))))<|oc (zL (C:=cg (fTG (fPV m p) (fPV m q) (fPV m r))) 12 kH)<|oc (zR (C:=cg (fTG (fPV m p) (fPV m q) (fPV m r))) (k:=12) 6 kH (h:=zRB))<|oc (zL (C:=cg (fTG (fPV m p) (fPV m q) (fPV m r))) 0 kH)<|oc (zR (C:=cg (fTG (fPV m p) (fPV m q) (fPV m r))) (k:=0) 6 kH (h:=zQc))<|oc (zI zD zSR (fun u0 u1 W hb (h0:(fPV m r).p u0 W) (h1:(fPV m p).p u1 W)=>zLo (p:=r) (q:=p) h0 h1 oO hm0 (hT.below (s.up hb))))<|oc (zI zD zVT (fun u0 u1 W hb (h0:(fPN ((q).1 - (p).1,(q).2 - (p).2)).p u0 W) (h1:(fPN ((r).1 - (p).1,(r).2 - (p).2)).p u1 W)=>zN9 (m:=(2*m+1)) (p:=((q).1 - (p).1,(q).2 - (p).2)) (q:=((r).1 - (p).1,(r).2 - (p).2)) (zAo (p:=((q).1 - (p).1,(q).2 - (p).2)) (m:=(2*m+1)) ((QP.sub hq.2.1 hq.1).1.mono (by first|omega|decide)) ((QP.sub hq.2.1 hq.1).2.mono (by first|omega|decide)) h0) (zAo (p:=((r).1 - (p).1,(r).2 - (p).2)) (m:=(2*m+1)) ((QP.sub hq.2.2 hq.1).1.mono (by first|omega|decide)) ((QP.sub hq.2.2 hq.1).2.mono (by first|omega|decide)) h1) (QP.sub hq.2.1 hq.1) (QP.sub hq.2.2 hq.1) oO oO (hT.below (s.up hb))))<|oc (zJ zD zVU (fun u0 W hb (h0:QNp (((q).1 - (p).1,(q).2 - (p).2).1*((r).1 - (p).1,(r).2 - (p).2).2 - ((q).1 - (p).1,(q).2 - (p).2).2*((r).1 - (p).1,(r).2 - (p).2).1) u0 W)=>zRS (wM h0 (QB.mono (((QP.sub hq.2.1 hq.1).1.mul (QP.sub hq.2.2 hq.1).2).sub ((QP.sub hq.2.1 hq.1).2.mul (QP.sub hq.2.2 hq.1).1)) (m':=8*m+5) oO)) oO oO (hT.below (s.up hb))))<|oc zF<|zC) fun a w2 s=> ?_
 refine zA rfl ?_
 refine zXQ ?_
 exact wG s (t:=2) rfl iiz
theorem zRD {p q:V2} {u x:Wj} (h1:(fPV m p).p u W) (h2:(fPV m q).p v W) (h3:(fPV m r).p x W) (hm:m<=159) (hm0:0<m) (hT:Tab W):Calls prog 32 #[u,v,x] W (Ret W (fI (zAG p q r)).tS):=by
 refine z9 [(fPV m p).tS,(fPV m q).tS,(fPV m r).tS] func32 rfl kH ⟨h1,h2,h3,trivial⟩ fun a s=> ?_
 replace s:=s.renew [(0,.u (fPV m p)),(1,.u (fPV m q)),(2,.u (fPV m r))] (fmz ⟨.inr ⟨_,rfl,.head _⟩,fmz ⟨.inr ⟨_,rfl,mz1⟩,fmz ⟨.inr ⟨_,rfl,mz2⟩,fnz⟩⟩⟩)
 refine zXP ?_
 refine zB 0 [] hmix s kH
  zC fun a w1 s=> ?_
 refine yK (wC (fPV m p)) rfl s kH (fun v W h=>yS h) fun b3 a w s=> ?_
 refine yK (wC (fPV m q)) rfl s kH (fun v W h=>yS h) fun b4 a w s=> ?_
 refine yK (wC (fPV m r)) rfl s kH (fun v W h=>yS h) fun b5 a w s=> ?_
 refine yR (uI 0) rfl s kH iiz fun a w s=> ?_
 refine zA rfl ?_
 refine zXP ?_
 replace s:=s.drop [6]
 refine zB 6 ((7,.Z (fPV m p))::(8,.Z (fPV m q))::(9,.Z (fPV m r))::(10,.Z (fTG (fPV m p) (fPV m q) (fPV m r)))::(11,.Z (uI (zAG p q r)))::(6,.u (uI (zAG p q r))):: []) hmix s kH
  (oc (zK (f:=fPV m p) 6 kH (hz:=zP _ _))<|oc (zK (f:=fPV m q) 6 kH (hz:=zP _ _))<|oc (zK (f:=fPV m r) 6 kH (hz:=zP _ _))<|oc (zCa (fun u v z W (hu:(fPV m p).p u W) (hv:(fPV m q).p v W) (hz:(fPV m r).p z W)=>zXg hu hv hz))<|oc (zJ zD zV7 (fun u0 W hb (h0:(fTG (fPV m p) (fPV m q) (fPV m r)).p u0 W)=>zRz h0 hm hm0 (hT.below (s.up hb))))<|oc zF<|zC) fun a w2 s=> ?_
 refine zA rfl ?_
 refine zXQ ?_
 exact wG s (t:=6) rfl iiz
theorem zUR {b p:V2} (ha:QB a.1 m/\QB a.2 m) (hb:QB b.1 m/\QB b.2 m) (hp:QB p.1 M/\QB p.2 M):QB (crs a b p) ((2*m+1+(M+m+1))+(2*m+1+(M+m+1))+1):=
 ((((hb.1.sub ha.1).mul (hp.2.sub ha.2)).sub ((hb.2.sub ha.2).mul (hp.1.sub ha.1))).mono oO)
theorem zBh {p q:V2} (hp:QB p.1 M/\QB p.2 M) (hq:QB q.1 m/\QB q.2 m):QB (p.1 - q.1) (M+m+1)/\QB (p.2 - q.2) (M+m+1):=⟨hp.1.sub hq.1,hp.2.sub hq.2⟩
theorem zKG {u:Wj} {p q:V2} (h1:(fPV M p).p u W) (h2:(fPV M q).p v W) (hp:QB p.1 m/\QB p.2 m) (hq:QB q.1 M/\QB q.2 M) (hmM:m<=M) (hm0:0<m) (hM:m+M<=990):Calls prog 82 #[u,v] W (Ret W (fQN (p.1*q.2 - p.2*q.1)).tS):=by
 refine z9 [(fPV M p).tS,(fPV M q).tS] func82 rfl kH ⟨h1,h2,trivial⟩ fun a s=> ?_
 refine zXP ?_
 refine zB 0 [] hmix s kH
  zC fun a w1 s=> ?_
 refine yK (wC (fPV M p)) rfl s kH (fun v W h=>yS h) fun b2 a w s=> ?_
 refine yK (wC (fPV M q)) rfl s kH (fun v W h=>yS h) fun b3 a w s=> ?_
 refine zZ (CU.len 3) (cs:=zR3) kH rfl s kH (fun W=>rfl) rfl fun b4 a w s=> ?_
 refine zA rfl ?_
 refine zXP ?_
 refine z7 [] 13 ((5,.X (fPV M p) 0)::(6,.Z (fRV M ((p).1)))::(7,.X (fPV M q) 3)::(8,.Z (fRV M ((q).2)))::(9,.s (wD 3 (rvs M [(p).1,(q).2])))::(10,.Z (fQN ((p).1*(q).2)))::(11,.X (fPV M p) 3)::(12,.Z (fRV M ((p).2)))::(13,.X (fPV M q) 0)::(14,.Z (fRV M ((q).1)))::(15,.s (wD 3 (rvs M [(p).2,(q).1])))::(16,.Z (fQN ((p).2*(q).1)))::(17,.u (fQN (((p).1*(q).2) - ((p).2*(q).1)))):: []) hmix s kH
  (oc (zL (C:=cg (fPV M p)) 0 kH)<|oc (zR (C:=cg (fPV M p)) (k:=0) 3 kH (h:=zDf))<|oc (zL (C:=cg (fPV M q)) 3 kH)<|oc (zR (C:=cg (fPV M q)) (k:=3) 3 kH (h:=zDe))<|oc (yJ (fun u v W (hu:RVp M ((p).1) u W) (hv:RVp M ((q).2) v W)=>zB7 hu hv))<|oc (zJ zD zH2 (fun u0 W hb (h0:(wD 3 (rvs M [(p).1,(q).2])).p u0 W)=>zBV h0 (hp.1.mono hmM) hq.2 oO))<|oc (zL (C:=cg (fPV M p)) 3 kH)<|oc (zR (C:=cg (fPV M p)) (k:=3) 3 kH (h:=zDe))<|oc (zL (C:=cg (fPV M q)) 0 kH)<|oc (zR (C:=cg (fPV M q)) (k:=0) 3 kH (h:=zDf))<|oc (yJ (fun u v W (hu:RVp M ((p).2) u W) (hv:RVp M ((q).1) v W)=>zB7 hu hv))<|oc (zJ zD zH2 (fun u0 W hb (h0:(wD 3 (rvs M [(p).2,(q).1])).p u0 W)=>zBV h0 (hp.2.mono hmM) hq.1 oO))<|oc (zI zD zPJ (fun u0 u1 W hb (h0:QNp ((p).1*(q).2) u0 W) (h1:QNp ((p).2*(q).1) u1 W)=>zGr (wM h0 (hp.1.mul hq.2)) (wM h1 (hp.2.mul hq.1)) oO oO))<|zC) fun Q' hQ a w2 s=> ?_
 refine zQ (wC (fQN (((p).1*(q).2) - ((p).2*(q).1)))) ((fQN (((p).1*(q).2) - ((p).2*(q).1))).tS) rfl s kH rfl rfl rfl iiz iiz yI fun a w s=> ?_
 refine zA rfl (hQ _ _ ?_)
 refine zXQ ?_
 exact wI s (wC (fQN (p.1*q.2 - p.2*q.1))) rfl kH rfl rfl (qX _) (fun cs W h=>h)
theorem QB.inv {q:Rat} (h:QB q m):QB q⁻¹ m:=by
 by_cases e:q=0
 ·subst e
  rw [Rat.inv_zero];exact h
 ·have hn:q.num≠0:=fun h0=>e (zYD.1 h0)
  refine vG h.pos (X:=(q.den:Int)) (D:=q.num) ?_ hn (jK h.2) h.1
  have h1:(q.num:Rat)=q*((q.den:Nat):Rat):=zJK q
  rw [h1, <-Rat.mul_assoc,Rat.inv_mul_cancel q e,zYg]
  rfl
theorem QB.div {p q:Rat} (h:QB p m) (h':QB q n):QB (p / q) (m+n):=by
 rw [Rat.div_def]
 exact h.mul h'.inv
def zIY (p q:V2):Rat:=p.1*q.1+p.2*q.2
def onS (a b p:V2):Bool:=if ((crs a b p).num.sign !=0)=true then false else decide ((zIY (p.1 - a.1,p.2 - a.2) (p.1 - b.1,p.2 - b.2)).num.sign<=0)
theorem zVD {b p:V2} (h:((crs a b p).num.sign !=0)=true):onS a b p=false:=if_pos h
theorem zVE {b p:V2} (h:((crs a b p).num.sign !=0)=false):onS a b p=decide ((zIY (p.1 - a.1,p.2 - a.2) (p.1 - b.1,p.2 - b.2)).num.sign<=0):=if_neg (by rw [h];decide)
def zKx (f:Nat->Bool) (N:Nat):Nat:=match (List.range N).find? (fun k=> !(f k)) with|some k=>k|none=>N
theorem zLx (h: ∀j,j<N->f j=true):zKx f N=N:=by
 unfold zKx
 rw [List.find?_eq_none.2 (fun x hx=>by rw [h x (zYo.1 hx)];simp)]
theorem zOk (hk:k<N) (h: ∀j,j<k->f j=true) (e:f k=false):zKx f N=k:=by
 unfold zKx
 have:(List.range N).find? (fun k=> !(f k))=some k:=by
  rw [List.find?_range_eq_some]
  exact ⟨by rw [e];rfl,zYo.2 hk,fun j hj=>by rw [h j hj];rfl⟩
 rw [this]
def zNZ (L:List V2) (p:V2):Nat:=zKx (fun k=>decide (q8 (at_ L k) p<0)) L.length
def zGw (L:List V2) (p:V2):List V2:=if (decide (zNZ L p<L.length)&&(q8 (at_ L (zNZ L p)) p==0))=true then L else L.take (zNZ L p)++ [p]++L.drop (zNZ L p)
theorem zTL {p:V2} (hk:zNZ L p=k) (h:(decide ((k:Int)<((pns L).length:Int))&&(q8 (at_ L k) p==0))=true):zGw L p=L:=by
 unfold zGw
 rw [hk]
 refine if_pos ?_
 rw [zYi] at h ⊢
 exact ⟨zX3 (by have:=zXT h.1;simp at this;omega),h.2⟩
theorem zTM {p:V2} (hk:zNZ L p=k) (h:(decide ((k:Int)<((pns L).length:Int))&&(q8 (at_ L k) p==0))=false):zGw L p=L.take k++ [p]++L.drop k:=by
 unfold zGw
 rw [hk]
 refine if_neg fun h'=> ?_
 rw [zYi] at h'
 rw [Bool.and_eq_false_iff] at h
 rcases h with h|h
 ·have:=zYa h
  have:=zXT h'.1
  simp at*
  omega
 ·rw [h] at h';exact absurd h'.2 dA
theorem zSh (L:List V2) (p:V2):zNZ L p<=L.length:=by
 unfold zNZ zKx
 split
 ·rename_i k h
  have:=zYo.1 (List.mem_of_find?_eq_some h)
  omega
 ·exact zXW _
theorem zOY (L:List V2) (p:V2):(zGw L p).length<=L.length+1:=by
 unfold zGw
 split
 ·omega
 ·have:=zSh L p
  simp
  omega
theorem zOX {p x:V2} (h:x∈zGw L p):x=p∨x∈L:=by
 unfold zGw at h
 split at h
 ·exact .inr h
 ·rw [zYc,zYc,List.mem_singleton] at h
  rcases h with (h|h)|h
  ·exact .inr (List.mem_of_mem_take h)
  ·exact .inl h
  ·exact .inr (List.mem_of_mem_drop h)
def yM (a b c d:V2):Nat->List V2
 |0=> []
 |i+1=>if (onS a b (at_ [a,b,c,d] i)&&onS c d (at_ [a,b,c,d] i))=true then zGw (yM a b c d i) (at_ [a,b,c,d] i) else yM a b c d i
theorem zSM {b c d:V2} (h:(onS a b (at_ [a,b,c,d] i)&&onS c d (at_ [a,b,c,d] i))=true):yM a b c d (i+1)=zGw (yM a b c d i) (at_ [a,b,c,d] i):=if_pos h
theorem zSN {b c d:V2} (h:(onS a b (at_ [a,b,c,d] i)&&onS c d (at_ [a,b,c,d] i))=false):yM a b c d (i+1)=yM a b c d i:=if_neg (by rw [h];decide)
theorem zFt (a b c d:V2): ∀i,(yM a b c d i).length<=i
 |0=>zXW _
 | i+1=>by
  have ih:=zFt a b c d i
  show (if _ then _ else _:List V2).length<=_
  split
  ·have:=zOY (yM a b c d i) (at_ [a,b,c,d] i)
   omega
  ·omega
theorem zJ4 {m:Nat} {a b c d:V2} (h: ∀p,p∈ [a,b,c,d]->QB p.1 m/\QB p.2 m): ∀i,i<=4-> ∀p,p∈yM a b c d i->QB p.1 m/\QB p.2 m
 |0,_,p,hp=>absurd hp List.not_mem_nil
 | i+1,hi,p,hp=>by
  have ih:=zJ4 h i oO
  have hp':p∈(if (onS a b (at_ [a,b,c,d] i)&&onS c d (at_ [a,b,c,d] i))=true then zGw (yM a b c d i) (at_ [a,b,c,d] i) else yM a b c d i):=hp
  split at hp'
  ·rcases zOX hp' with e|e
   ·rw [e];exact h _ (zB2 (by simp;omega))
   ·exact ih p e
  ·exact ih p hp'
def fRW (W0:Wi) (z:Nat) (Cs:List CU):UF:=⟨⟨fun v _=>(wD z Cs).p v W0,fun _ _ _ h _=>h⟩,fun _ _ _ h _=>h⟩
section
variable {F:Fence} {m:Nat} {P:Wn} {w0:Wi} {ops:Array Oper} {G:Nat->SF} {d:Tmp} {ty:Wk} {pos:String} {aft:Array Edge}
theorem zDb (hu:P.underlying t=some (.slice e')) (hie:P.info? e'=some ie) (hsz:ie.size=z) (A:Wl Addr) (n c k:Nat) (hk:k<=n) (w:Wi):(Instr.sliceAt t (.slice A n c) (some (.int .i64 (k:Int))) none none).run P w= .ok (.slice (if c=k then A else A.map (·.add (k*z))) (n - k) (c - k)) w:=by
 simp [Instr.sliceAt,Instr.slice,Instr.sliceBounds,run_underlying hu,sizeOf,typeInfo,hie,hsz,go_sem,hk]
theorem zHn (hu:P.underlying t=some (.slice e')) (hie:P.info? e'=some ie) (A:Wl Addr) (n c k:Nat) (hk:k<=c) (w:Wi):(Instr.sliceAt t (.slice A n c) none (some (.int .i64 (k:Int))) none).run P w= .ok (.slice A k c) w:=by
 simp [Instr.sliceAt,Instr.slice,Instr.sliceBounds,run_underlying hu,sizeOf,typeInfo,hie,go_sem,hk]
theorem zS4 (hz:jM P t=some z) (hk:k<=Cs.length) (hx: ∀v W,bW w0 W->(fct G x).p v W->(wD z Cs).p v W) (hh: ∀v W,(fct G lo).p v W->v= .int .i64 (k:Int)) (hd: ∀v W,(wD z (Cs.drop k)).p v W->(G d).p v W:=by exact fun _ _ h=>h):qN F m P w0 ops G ⟨some d,.slice t x (some lo) none none,ty,pos,aft,none⟩:=
 qK (fun _ e=>by cases e) (fun _ e=>by cases e) fun b W hb hp=>by
  obtain ⟨A,c,e,h2,h3,h4,h5⟩:=hx _ _ hb (hp x (by simp [Op.operands]))
  have e2:=hh _ _ (hp lo (by simp [Op.operands]))
  unfold jM at hz
  split at hz<;>try cases hz
  rename_i e' hu
  obtain ⟨ie,hie,hsz⟩:=zYp.1 hz
  refine ⟨.slice (if c=k then A else A.map (·.add (k*z))) (Cs.length - k) (c - k),by simp [execOp,e,e2,zDb hu hie hsz A Cs.length c k hk],hd _ _ ⟨_,c - k,by rw [zYq],by rw [zYq];omega,by omega,fun hA=> ?_,fun i C hi=> ?_⟩⟩
  ·split at hA
   ·omega
   ·cases A with
    |none=>have:=h4 rfl;omega
    |some q=>cases hA
  ·rw [List.getElem?_drop] at hi
   have hlt:=(zXS.1 hi).1
   obtain ⟨b',o,cs,rfl,h6,h7⟩:=h5 _ C hi
   rw [if_neg oO]
   refine ⟨b',o+k*z,cs,by simp [Addr.add_lit], ?_,h7⟩
   rwa [show o+(k+i)*z=o+k*z+i*z by rw [Nat.add_mul];omega] at h6
theorem zPa {hi:Wm} (hz:jM P t=some z) (hk:k<=Cs.length) (hx: ∀v W,bW w0 W->(fct G x).p v W->(wD z Cs).p v W) (hh: ∀v W,(fct G hi).p v W->v= .int .i64 (k:Int)) (hd: ∀v W,(wD z (Cs.take k)).p v W->(G d).p v W:=by exact fun _ _ h=>h):qN F m P w0 ops G ⟨some d,.slice t x none (some hi) none,ty,pos,aft,none⟩:=
 qK (fun _ e=>by cases e) (fun _ e=>by cases e) fun b W hb hp=>by
  obtain ⟨A,c,e,h2,h3,h4,h5⟩:=hx _ _ hb (hp x (by simp [Op.operands]))
  have e2:=hh _ _ (hp hi (by simp [Op.operands]))
  unfold jM at hz
  split at hz<;>try cases hz
  rename_i e' hu
  obtain ⟨ie,hie,hsz⟩:=zYp.1 hz
  have hkc:k<=c:=zXY hk h2
  refine ⟨.slice A k c,by simp [execOp,e,e2,zHn hu hie A Cs.length c k hkc],hd _ _ ⟨A,c,by rw [List.length_take,Nat.min_eq_left hk],by rw [List.length_take];omega,h3,h4,fun i C hi=> ?_⟩⟩
  rw [List.getElem?_take] at hi
  split at hi
  ·exact h5 i C hi
  ·cases hi
theorem zIJ (hz:jM P t=some z) (hk:k<=Cs.length) (hl:(wD z Cs).p l0 W0) (hx: ∀v W,(fct G x).p v W->v=l0) (hh: ∀v W,(fct G lo).p v W->v= .int .i64 (k:Int)) (hd: ∀v W,(wD z (Cs.drop k)).p v W0->(G d).p v W):qN F m P w0 ops G ⟨some d,.slice t x (some lo) none none,ty,pos,aft,none⟩:=
 qK (fun _ e=>by cases e) (fun _ e=>by cases e) fun b W hb hp=>by
  have e0:=hx _ _ (hp x (by simp [Op.operands]))
  obtain ⟨A,c,e,h2,h3,h4,h5⟩:=hl
  have e2:=hh _ _ (hp lo (by simp [Op.operands]))
  rw [e] at e0
  unfold jM at hz
  split at hz<;>try cases hz
  rename_i e' hu
  obtain ⟨ie,hie,hsz⟩:=zYp.1 hz
  refine ⟨.slice (if c=k then A else A.map (·.add (k*z))) (Cs.length - k) (c - k),by simp [execOp,e0,e2,zDb hu hie hsz A Cs.length c k hk],hd _ _ ⟨_,c - k,by rw [zYq],by rw [zYq];omega,by omega,fun hA=> ?_,fun i C hi=> ?_⟩⟩
  ·split at hA
   ·omega
   ·cases A with
    |none=>have:=h4 rfl;omega
    |some q=>cases hA
  ·rw [List.getElem?_drop] at hi
   have hlt:=(zXS.1 hi).1
   obtain ⟨b',o,cs,rfl,h6,h7⟩:=h5 _ C hi
   rw [if_neg oO]
   refine ⟨b',o+k*z,cs,by simp [Addr.add_lit], ?_,h7⟩
   rwa [show o+(k+i)*z=o+k*z+i*z by rw [Nat.add_mul];omega] at h6
end
theorem zIW {d:Tmp} (hz:jM P t=some z) (hk:k<=Cs.length) (hl:(wD z Cs).p l0 W0) (hx: ∀v W,(fct G x).p v W->v=l0) (hh: ∀v W,(fct G lo).p v W->v= .int .i64 (k:Int)):zFD P w0 ops G ⟨some d,.slice t x (some lo) none none,ty,pos,aft,none⟩:=
 zFr (fun _ e=>by cases e) fun b W _ hp=>by
  have e0:=hx _ _ (hp x (by simp [Op.operands]))
  obtain ⟨A,c,e,h2,h3,h4,h5⟩:=hl
  have e2:=hh _ _ (hp lo (by simp [Op.operands]))
  rw [e] at e0
  unfold jM at hz
  split at hz<;>try cases hz
  rename_i e' hu
  obtain ⟨ie,hie,hsz⟩:=zYp.1 hz
  exact ⟨.slice (if c=k then A else A.map (·.add (k*z))) (Cs.length - k) (c - k),fun W' _=>by simp [execOp,e0,e2,zDb hu hie hsz A Cs.length c k hk]⟩
section
variable {S:Nat->Prop} {F:Fence} {m:Nat} {P:Wn} {Q:Exit->Act->Wi->Prop} {w0:Wi} {K:List (Nat×KF)} {B:List Bx} {n:Nat} {ds:List Deferred} {a:Act} {w:Wi}
theorem zQd (f:UF) (ho:ops[k]?=some ⟨some d,.assign x,ty,pos,aft,none⟩) (h:StS S w0 K B n ds a w) (hf:zAf K B n d=true) (hx: ∀v W,(Wd.fct (jV K B) x).p v W->f.p v W)
  (fin: ∀a,StS S w0 ((d,.u f)::K) B n ds a w->zBf F m P ops Q (k+1) a w):zBf F m P ops Q k a w:=
 zA5 ho rfl (zBW (fun _ e=>by cases e) (fun _ e=>by cases e) (W':=w) (v:=a.eval x) rfl (fin _ (h.set hf (zXV _ _) (hx _ _ (h.fct x)))))
end
theorem zO1 (ps:List V2) (k:Nat):(pns ps).take k=pns (ps.take k):=by unfold pns;rw [List.map_take]
theorem zO2 (ps:List V2) (k:Nat):(pns ps).drop k=pns (ps.drop k):=by unfold pns;rw [List.map_drop]
theorem zMm (a b:List V2) (p:V2):pns a++pns [p]++pns b=pns (a++ [p]++b):=by simp [pns]
theorem zWU (a1 a2 a3 a4 a5 a6 b1 b2 b3 b4 b5 b6 c1 c2 c3 c4 c5 c6 d1 d2 d3 d4 d5 d6:Wj):yE prog 22 4 [(0,.agg #[a1,a2,a3,a4,a5,a6]),(1,.agg #[b1,b2,b3,b4,b5,b6]),(2,.agg #[c1,c2,c3,c4,c5,c6]),(3,.agg #[d1,d2,d3,d4,d5,d6])]=some (30,#[a1,a2,a3,a4,a5,a6,b1,b2,b3,b4,b5,b6,c1,c2,c3,c4,c5,c6,d1,d2,d3,d4,d5,d6]):=by kernel_rfl
theorem zT2 (h:cs.length=6): ∃u0 u1 u2 u3 u4 u5,cs= [u0,u1,u2,u3,u4,u5]:=by
 match cs,h with
 | [u0,u1,u2,u3,u4,u5],_=>exact ⟨u0,u1,u2,u3,u4,u5,rfl⟩
theorem zJA {f g:UF} (h:(fPT f g).p v W): ∃u0 u1 u2 u3 u4 u5,v= .agg #[u0,u1,u2,u3,u4,u5]/\(wC (fPT f g)).p [u0,u1,u2,u3,u4,u5] W:=by
 obtain ⟨vs,rfl,hl,_,_,hc⟩:=yT v W h
 obtain ⟨u0,u1,u2,u3,u4,u5,rfl⟩:=zT2 hl
 exact ⟨u0,u1,u2,u3,u4,u5,rfl,hc⟩
theorem zTn {p q s:V2} {u x y:Wj} (hu:(fPV m p).p u W) (hv:(fPV m q).p v W) (hx:(fPV m r).p x W) (hy:(fPV m s).p y W): ∃e cs,yE prog 22 4 [(0,u),(1,v),(2,x),(3,y)]=some (e,cs)/\(wD 6 (pvs m [p,q,r,s])).p (.slice (some ⟨W.heap.size,0,none⟩) 4 4) (W.alloc (.cells cs e)):=by
 obtain ⟨a1,a2,a3,a4,a5,a6,rfl,ha⟩:=zJA hu
 obtain ⟨b1,b2,b3,b4,b5,b6,rfl,hb⟩:=zJA hv
 obtain ⟨c1,c2,c3,c4,c5,c6,rfl,hc⟩:=zJA hx
 obtain ⟨d1,d2,d3,d4,d5,d6,rfl,hd⟩:=zJA hy
 refine ⟨_,_,zWU ..,zGm (Cs:=pvs m [p,q,r,s]) (cs:= [a1,a2,a3,a4,a5,a6,b1,b2,b3,b4,b5,b6,c1,c2,c3,c4,c5,c6,d1,d2,d3,d4,d5,d6]) fN fun i C hi=> ?_⟩
 have hlt:=(zXS.1 hi).1
 simp at hlt
 rcases (by omega:i=0∨i=1∨i=2∨i=3) with rfl|rfl|rfl|rfl
 ·obtain rfl:wC (fPV m p)=C:=by simpa using hi
  exact ⟨_,fun j u hj=>by have:=(zXS.1 hj).1;simp at this;rcases (by omega:j=0∨j=1∨j=2∨j=3∨j=4∨j=5) with rfl|rfl|rfl|rfl|rfl|rfl<;>simpa using hj,ha⟩
 ·obtain rfl:wC (fPV m q)=C:=by simpa using hi
  exact ⟨_,fun j u hj=>by have:=(zXS.1 hj).1;simp at this;rcases (by omega:j=0∨j=1∨j=2∨j=3∨j=4∨j=5) with rfl|rfl|rfl|rfl|rfl|rfl<;>simpa using hj,hb⟩
 ·obtain rfl:wC (fPV m r)=C:=by simpa using hi
  exact ⟨_,fun j u hj=>by have:=(zXS.1 hj).1;simp at this;rcases (by omega:j=0∨j=1∨j=2∨j=3∨j=4∨j=5) with rfl|rfl|rfl|rfl|rfl|rfl<;>simpa using hj,hc⟩
 ·obtain rfl:wC (fPV m s)=C:=by simpa using hi
  exact ⟨_,fun j u hj=>by have:=(zXS.1 hj).1;simp at this;rcases (by omega:j=0∨j=1∨j=2∨j=3∨j=4∨j=5) with rfl|rfl|rfl|rfl|rfl|rfl<;>simpa using hj,hd⟩
theorem zMu {d:Tmp} {z q:Wm} (h: ∀u v r s W,(fct G x).p u W->(fct G y).p v W->(fct G z).p r W->(fct G q).p s W-> ∃e cs,yE P t 4 [(0,u),(1,v),(2,r),(3,s)]=some (e,cs)/\(G d).p (.slice (some ⟨W.heap.size,0,none⟩) 4 4) (W.alloc (.cells cs e))):qN F m P w0 ops G ⟨some d,.buildSlice t 4 #[(0,x),(1,y),(2,z),(3,q)],ty,pos,aft,none⟩:=
 zEH fun b W hb hh=>by
  obtain ⟨e,cs,h1,h2⟩:=h _ _ _ _ W (hh x fN) (hh y fN) (hh z fN) (hh q fN)
  exact ⟨e,cs,by simpa using h1,h2⟩
theorem zRT {u:Wj} {p q:V2} (h1:(fPV M p).p u W) (h2:(fPV M q).p v W) (hp:QB p.1 M/\QB p.2 M) (hq:QB q.1 M/\QB q.2 M) (hM:M<=495):Calls prog 128 #[u,v] W (Ret W (fQN (zIY p q)).tS):=by
 refine z9 [(fPV M p).tS,(fPV M q).tS] func128 rfl kH ⟨h1,h2,trivial⟩ fun a s=> ?_
 refine zXP ?_
 refine zB 0 [] hmix s kH
  zC fun a w1 s=> ?_
 refine yK (wC (fPV M p)) rfl s kH (fun v W h=>yS h) fun b2 a w s=> ?_
 refine yK (wC (fPV M q)) rfl s kH (fun v W h=>yS h) fun b3 a w s=> ?_
 refine zZ (CU.len 3) (cs:=zR3) kH rfl s kH (fun W=>rfl) rfl fun b4 a w s=> ?_
 refine zA rfl ?_
 refine zXP ?_
 refine z7 [] 14 ((5,.X (fPV M p) 0)::(6,.Z (fRV M ((p).1)))::(7,.X (fPV M q) 0)::(8,.Z (fRV M ((q).1)))::(9,.s (wD 3 (rvs M [(p).1,(q).1])))::(10,.Z (fQN ((p).1*(q).1)))::(11,.X (fPV M p) 3)::(12,.Z (fRV M ((p).2)))::(13,.X (fPV M q) 3)::(14,.Z (fRV M ((q).2)))::(15,.s (wD 3 (rvs M [(p).2,(q).2])))::(16,.Z (fQN ((p).2*(q).2)))::(17,.s (wD 3 (rvs (M+M) [((p).1*(q).1),((p).2*(q).2)])))::(18,.u (fQN (((p).1*(q).1)+((p).2*(q).2)))):: []) hmix s kH
  (oc (zL (C:=cg (fPV M p)) 0 kH)<|oc (zR (C:=cg (fPV M p)) (k:=0) 3 kH (h:=zDf))<|oc (zL (C:=cg (fPV M q)) 0 kH)<|oc (zR (C:=cg (fPV M q)) (k:=0) 3 kH (h:=zDf))<|oc (yJ (fun u v W (hu:RVp M ((p).1) u W) (hv:RVp M ((q).1) v W)=>zB7 hu hv))<|oc (zJ zD zH2 (fun u0 W hb (h0:(wD 3 (rvs M [(p).1,(q).1])).p u0 W)=>zBV h0 hp.1 hq.1 oO))<|oc (zL (C:=cg (fPV M p)) 3 kH)<|oc (zR (C:=cg (fPV M p)) (k:=3) 3 kH (h:=zDe))<|oc (zL (C:=cg (fPV M q)) 3 kH)<|oc (zR (C:=cg (fPV M q)) (k:=3) 3 kH (h:=zDe))<|oc (yJ (fun u v W (hu:RVp M ((p).2) u W) (hv:RVp M ((q).2) v W)=>zB7 hu hv))<|oc (zJ zD zH2 (fun u0 W hb (h0:(wD 3 (rvs M [(p).2,(q).2])).p u0 W)=>zBV h0 hp.2 hq.2 oO))<|oc (yJ (fun u v W (hu:QNp ((p).1*(q).1) u W) (hv:QNp ((p).2*(q).2) v W)=>zB7 (wM hu (hp.1.mul hq.1)) (wM hv (hp.2.mul hq.2))))<|oc (zJ zD zNr (fun u0 W hb (h0:(wD 3 (rvs (M+M) [((p).1*(q).1),((p).2*(q).2)])).p u0 W)=>zDy h0 (hp.1.mul hq.1) (hp.2.mul hq.2) oO))<|zC) fun Q' hQ a w2 s=> ?_
 refine zQ (wC (fQN (((p).1*(q).1)+((p).2*(q).2)))) ((fQN (((p).1*(q).1)+((p).2*(q).2))).tS) rfl s kH rfl rfl rfl iiz iiz yI fun a w s=> ?_
 refine zA rfl (hQ _ _ ?_)
 refine zXQ ?_
 exact wI s (wC (fQN (p.1*q.1+p.2*q.2))) rfl kH rfl rfl (qX _) (fun cs W h=>h)
theorem zBU {u:Wj} {p q:V2} (h1:(fPV m p).p u W) (h2:(fPV m q).p v W) (hm:m<=990) (hm0:0<m):Calls prog 24 #[u,v] W (Ret W (fB (q8 p q==0)).tS):=by
 refine z9 [(fPV m p).tS,(fPV m q).tS] func24 rfl kH ⟨h1,h2,trivial⟩ fun a s=> ?_
 refine zXP ?_
 refine zB 0 [] hmix s kH
  zC fun a w1 s=> ?_
 refine yK (wC (fPV m p)) rfl s kH (fun v W h=>yS h) fun b2 a w s=> ?_
 refine yK (wC (fPV m q)) rfl s kH (fun v W h=>yS h) fun b3 a w s=> ?_
 refine yR (uB false) rfl s kH iiz fun a w s=> ?_
 refine zA rfl ?_
 refine zXP ?_
 replace s:=s.drop [4]
 refine zB 5 ((5,.Z (fPV m p))::(6,.Z (fPV m q))::(7,.Z (uI (q8 p q)))::(8,.Z (uB (q8 p q==0)))::(4,.u (uB (q8 p q==0))):: []) hmix s kH
  (oc (zK (f:=fPV m p) 6 kH (hz:=zP _ _))<|oc (zK (f:=fPV m q) 6 kH (hz:=zP _ _))<|oc (zI zD zUr (fun u0 u1 W hb (h0:(fPV m p).p u0 W) (h1:(fPV m q).p u1 W)=>zL1 h0 h1 hm hm0))<|oc (zS .i64 (q8 p q) 0 (q8 p q==0) iiz iiz rfl rfl)<|oc zF<|zC) fun a w2 s=> ?_
 refine zA rfl ?_
 refine zXQ ?_
 exact wG s (t:=4) rfl iiz
theorem zGu {u x:Wj} {ca cb p:V2} (h1:(fPV m ca).p u W) (h2:(fPV m cb).p v W) (h3:(fPV M p).p x W) (hmM:m<=M) (hm0:0<m) (hM:M+m+1<=495) (hM2:3*m+M+2<=990):Calls prog 107 #[u,v,x] W (Ret W (fB (onS ca cb p)).tS):=by
 have hqa:=zCD hm0 h1
 have hqb:=zCD hm0 h2
 have hqp:=zCD oO h3
 refine z9 [(fPV m ca).tS,(fPV m cb).tS,(fPV M p).tS] func107 rfl kH ⟨h1,h2,h3,trivial⟩ fun a s=> ?_
 refine zXP ?_
 refine zB 0 [] hmix s kH
  zC fun a w1 s=> ?_
 refine yK (wC (fPV m ca)) rfl s kH (fun v W h=>yS h) fun b3 a w s=> ?_
 refine yK (wC (fPV m cb)) rfl s kH (fun v W h=>yS h) fun b4 a w s=> ?_
 refine yK (wC (fPV M p)) rfl s kH (fun v W h=>yS h) fun b5 a w s=> ?_
 refine yR (uB false) rfl s kH iiz fun a w s=> ?_
 refine zA rfl ?_
 refine zXP ?_
 refine zXP ?_
 refine zB 9 ((7,.Z (fPV m cb))::(8,.Z (fPV m ca))::(9,.Z (fPN ((cb).1 - (ca).1,(cb).2 - (ca).2)))::(10,.Z (fPV M p))::(11,.Z (fPV m ca))::(12,.Z (fPN ((p).1 - (ca).1,(p).2 - (ca).2)))::(13,.Z (fQN (crs ca cb p)))::(14,.Z (uI ((crs ca cb p).num.sign)))::(15,.u (uB ((crs ca cb p).num.sign !=0))):: []) hmix s kH
  (oc (zK (f:=fPV m cb) 6 kH (hz:=zP _ _))<|oc (zK (f:=fPV m ca) 6 kH (hz:=zP _ _))<|oc (zI zD zFu (fun u0 u1 W hb (h0:(fPV m cb).p u0 W) (h1:(fPV m ca).p u1 W)=>zBL (m:=m) (p:=cb) (q:=ca) h0 h1 oO hm0))<|oc (zK (f:=fPV M p) 6 kH (hz:=zP _ _))<|oc (zK (f:=fPV m ca) 6 kH (hz:=zP _ _))<|oc (zI zD zFu (fun u0 u1 W hb (h0:(fPV M p).p u0 W) (h1:(fPV m ca).p u1 W)=>zBL (m:=M) (p:=p) (q:=ca) h0 (zDd oO h1) oO oO))<|oc (zI zD zPH (fun u0 u1 W hb (h0:(fPN ((cb).1 - (ca).1,(cb).2 - (ca).2)).p u0 W) (h1:(fPN ((p).1 - (ca).1,(p).2 - (ca).2)).p u1 W)=>zKG (m:=2*m+1) (M:=M+m+1) (p:=((cb).1 - (ca).1,(cb).2 - (ca).2)) (q:=((p).1 - (ca).1,(p).2 - (ca).2)) (zAo (p:=((cb).1 - (ca).1,(cb).2 - (ca).2)) (m:=(M+m+1)) ((zBg hqb hqa).1.mono (by first|omega|decide)) ((zBg hqb hqa).2.mono (by first|omega|decide)) h0) (zAo (p:=((p).1 - (ca).1,(p).2 - (ca).2)) (m:=(M+m+1)) ((zBh hqp hqa).1.mono (by first|omega|decide)) ((zBh hqp hqa).2.mono (by first|omega|decide)) h1) (zBg hqb hqa) (zBh hqp hqa) oO oO oO))<|oc (zJ zD zST (fun u0 W hb (h0:QNp (crs ca cb p) u0 W)=>zGs (m:=((2*m+1+(M+m+1))+(2*m+1+(M+m+1))+1)) (wM h0 (zUR hqa hqb hqp)) oO))<|oc (zS .i64 ((crs ca cb p).num.sign) 0 ((crs ca cb p).num.sign !=0) iiz iiz rfl rfl)<|zC) fun a w2 s=> ?_
 refine zA rfl ?_
 refine StS.cond s ((crs ca cb p).num.sign !=0) iiz (fun e=> ?_) (fun e=> ?_)
 ·refine zXP ?_
  replace s:=s.drop [6]
  refine zB 1 ((6,.u (uB false)):: []) hmix s kH
   (oc zF<|zC) fun a w3 s=> ?_
  refine zA rfl ?_
  refine zXQ ?_
  exact wG s (t:=6) rfl (fun v W h=>by rw [zVD e];exact h)
 ·refine zXX ?_
  refine zXP ?_
  replace s:=s.drop [6]
  refine zB 10 ((16,.Z (fPV M p))::(17,.Z (fPV m ca))::(18,.Z (fPN ((p).1 - (ca).1,(p).2 - (ca).2)))::(19,.Z (fPV M p))::(20,.Z (fPV m cb))::(21,.Z (fPN ((p).1 - (cb).1,(p).2 - (cb).2)))::(22,.Z (fQN (zIY ((p).1 - (ca).1,(p).2 - (ca).2) ((p).1 - (cb).1,(p).2 - (cb).2))))::(23,.Z (uI ((zIY ((p).1 - (ca).1,(p).2 - (ca).2) ((p).1 - (cb).1,(p).2 - (cb).2)).num.sign)))::(24,.Z (uB (decide ((zIY ((p).1 - (ca).1,(p).2 - (ca).2) ((p).1 - (cb).1,(p).2 - (cb).2)).num.sign<=0))))::(6,.u (uB (decide ((zIY ((p).1 - (ca).1,(p).2 - (ca).2) ((p).1 - (cb).1,(p).2 - (cb).2)).num.sign<=0)))):: []) hmix s kH
   (oc (zK (f:=fPV M p) 6 kH (hz:=zP _ _))<|oc (zK (f:=fPV m ca) 6 kH (hz:=zP _ _))<|oc (zI zD zFu (fun u0 u1 W hb (h0:(fPV M p).p u0 W) (h1:(fPV m ca).p u1 W)=>zBL (m:=M) (p:=p) (q:=ca) h0 (zDd oO h1) oO oO))<|oc (zK (f:=fPV M p) 6 kH (hz:=zP _ _))<|oc (zK (f:=fPV m cb) 6 kH (hz:=zP _ _))<|oc (zI zD zFu (fun u0 u1 W hb (h0:(fPV M p).p u0 W) (h1:(fPV m cb).p u1 W)=>zBL (m:=M) (p:=p) (q:=cb) h0 (zDd oO h1) oO oO))<|oc (zI zD zUG (fun u0 u1 W hb (h0:(fPN ((p).1 - (ca).1,(p).2 - (ca).2)).p u0 W) (h1:(fPN ((p).1 - (cb).1,(p).2 - (cb).2)).p u1 W)=>zRT (M:=M+m+1) (p:=((p).1 - (ca).1,(p).2 - (ca).2)) (q:=((p).1 - (cb).1,(p).2 - (cb).2)) (zAo (p:=((p).1 - (ca).1,(p).2 - (ca).2)) (m:=(M+m+1)) ((zBh hqp hqa).1.mono (by first|omega|decide)) ((zBh hqp hqa).2.mono (by first|omega|decide)) h0) (zAo (p:=((p).1 - (cb).1,(p).2 - (cb).2)) (m:=(M+m+1)) ((zBh hqp hqb).1.mono (by first|omega|decide)) ((zBh hqp hqb).2.mono (by first|omega|decide)) h1) (zBh hqp hqa) (zBh hqp hqb) oO))<|oc (zJ zD zST (fun u0 W hb (h0:QNp (zIY ((p).1 - (ca).1,(p).2 - (ca).2) ((p).1 - (cb).1,(p).2 - (cb).2)) u0 W)=>zGs (m:=((M+m+1)+(M+m+1)+((M+m+1)+(M+m+1))+1)) (wM h0 (((zBh hqp hqa).1.mul (zBh hqp hqb).1).add ((zBh hqp hqa).2.mul (zBh hqp hqb).2))) oO))<|oc (zS .i64 ((zIY ((p).1 - (ca).1,(p).2 - (ca).2) ((p).1 - (cb).1,(p).2 - (cb).2)).num.sign) 0 (decide ((zIY ((p).1 - (ca).1,(p).2 - (ca).2) ((p).1 - (cb).1,(p).2 - (cb).2)).num.sign<=0)) iiz iiz rfl rfl)<|oc zF<|zC) fun a w4 s=> ?_
  refine zA rfl ?_
  refine zXQ ?_
  exact wG s (t:=6) rfl (fun v W h=>by rw [zVE e];exact h)
theorem zOQ {u:Wj} {p:V2} (hl:(wD 6 (pns L)).p l W) (h1:(fPV m p).p u W) (hqL: ∀x,x∈L->QB x.1 m/\QB x.2 m) (hm:m<=990) (hm0:0<m) (hn:L.length<=1000000):Calls prog 127 #[l,u] W (Ret W (wD 6 (pns (zGw L p)))):=by
 refine z9 [(wB l).tS,(fPV m p).tS] func127 rfl kH ⟨rfl,h1,trivial⟩ fun a s=> ?_
 replace s:=s.renew [(0,.u (wB l)),(1,.u (fPV m p))] (fmz ⟨.inr ⟨_,rfl,.head _⟩,fmz ⟨.inr ⟨_,rfl,mz1⟩,fnz⟩⟩)
 refine zXP ?_
 refine zB 0 [] hmix s kH
  zC fun a w1 s=> ?_
 refine yK (wC (fPV m p)) rfl s kH (fun v W h=>yS h) fun b3 a w s=> ?_
 refine yR (wB (sN)) rfl s kH iiz fun a w s=> ?_
 refine zA rfl ?_
 refine zXP ?_
 refine zB 1 ((5,.u (uI 0)):: []) hmix s kH
  (oc zF<|zC) fun a w2 s=> ?_
 refine zA rfl ?_
 refine zXP ?_
 refine zX1 ?_
 refine zAF (fun k=>k<=L.length/\ ∀j,j<k->decide (q8 (at_ L j) p<0)=true) (fun k=> [(0,.u (wB l)),(5,.u (uI ((k:Nat):Int)))]) (fun k=>L.length - k) (0:Nat) (⟨zXU _,fun j hj=>absurd hj (Nat.not_lt_zero _)⟩) (s.keepK _ (fmz ⟨mz2,fmz ⟨.head _,fnz⟩⟩)) fun k a w hx s=> ?_
 refine zXP ?_
 refine zXP ?_
 refine zB 13 ((7,.Z (uI (k:Int)))::(8,.Z (wB l))::(9,.Z (uI ((pns L).length:Int)))::(10,.Z (uB (ltz k ((pns L).length))))::(11,.Z (uB (ltz k ((pns L).length))))::(12,.s (SF.imp ((ltz k ((pns L).length))=true) ((wB l).tS)))::(13,.s (SF.imp ((ltz k ((pns L).length))=true) ((uI (k:Int)).tS)))::(14,.s (SF.imp ((ltz k ((pns L).length))=true) (wE (cg (fPN (at_ L k))))))::(15,.s (SF.imp ((ltz k ((pns L).length))=true) ((fPN (at_ L k)).tS)))::(16,.s (SF.imp ((ltz k ((pns L).length))=true) ((fPV m p).tS)))::(17,.s (SF.imp ((ltz k ((pns L).length))=true) ((uI (q8 (at_ L k) p)).tS)))::(18,.s (SF.imp ((ltz k ((pns L).length))=true) ((uB (decide (q8 (at_ L k) p<0))).tS)))::(19,.u (uB ((ltz k ((pns L).length))&&(decide (q8 (at_ L k) p<0))))):: []) hmix s kH
  (oc zE<|oc zE<|oc (yV (z:=6) (Cs:=pns L) kH (fun v W hb h=>(yU hl h (s.up hb))) (fun _=>rfl))<|oc (zS .i64 (k:Int) ((pns L).length:Int) (ltz k ((pns L).length)) iiz iiz rfl rfl)<|oc zE<|oc (zG 11 (ltz k ((pns L).length)) kH iiz (fun e=>z5 [] ((wB l).tS) fnz fM kH zE) fL)<|oc (zG 11 (ltz k ((pns L).length)) kH iiz (fun e=>z5 [] ((uI (k:Int)).tS) fnz fM kH zE) fL)<|oc (zG 11 (ltz k ((pns L).length)) kH iiz (fun e=>z5 [(12,(wB l).tS),(13,(uI (k:Int)).tS)] (wE (cg (fPN (at_ L k)))) (fmz ⟨fun v W h=>zT (c:=(ltz k ((pns L).length))=true) (f:=(wB l).tS) e h,fmz ⟨fun v W h=>zT (c:=(ltz k ((pns L).length))=true) (f:=(uI (k:Int)).tS) e h,fnz⟩⟩) fM kH (yH (z:=6) (Cs:=pns L) (i:=k) (C:=wC (fPN (at_ L k))) kH (zDg (by have:=zXT e;simp at this;omega)) (fun v W hb h=>(yU hl h (s.up hb))) iiz)) fL)<|oc (zG 11 (ltz k ((pns L).length)) kH iiz (fun e=>z5 [(14,wE (cg (fPN (at_ L k))))] ((fPN (at_ L k)).tS) (fmz ⟨fun v W h=>zT (c:=(ltz k ((pns L).length))=true) (f:=wE (cg (fPN (at_ L k)))) e h,fnz⟩) fM kH (zK (f:=fPN (at_ L k)) 6 kH (hz:=zP _ _))) fL)<|oc (zG 11 (ltz k ((pns L).length)) kH iiz (fun e=>z5 [] ((fPV m p).tS) fnz fM kH (zK (f:=fPV m p) 6 kH (hz:=zP _ _))) fL)<|oc (zG 11 (ltz k ((pns L).length)) kH iiz (fun e=>z5 [(15,(fPN (at_ L k)).tS),(16,(fPV m p).tS)] ((uI (q8 (at_ L k) p)).tS) (fmz ⟨fun v W h=>zT (c:=(ltz k ((pns L).length))=true) (f:=(fPN (at_ L k)).tS) e h,fmz ⟨fun v W h=>zT (c:=(ltz k ((pns L).length))=true) (f:=(fPV m p).tS) e h,fnz⟩⟩) fM kH (zI zD zUr (fun u0 u1 W hb (h0:(fPN (at_ L k)).p u0 W) (h1:(fPV m p).p u1 W)=>zL1 (m:=m) (p:=at_ L k) (q:=p) (zAo (p:=at_ L k) (m:=m) (hqL _ (zB2 (l:=L) (i:=k) (by have:=zXT e;simp at this;omega))).1 (hqL _ (zB2 (l:=L) (i:=k) (by have:=zXT e;simp at this;omega))).2 h0) h1 hm hm0))) fL)<|oc (zG 11 (ltz k ((pns L).length)) kH iiz (fun e=>z5 [(17,(uI (q8 (at_ L k) p)).tS)] ((uB (decide (q8 (at_ L k) p<0))).tS) (fmz ⟨fun v W h=>zT (c:=(ltz k ((pns L).length))=true) (f:=(uI (q8 (at_ L k) p)).tS) e h,fnz⟩) fM kH (zS .i64 (q8 (at_ L k) p) 0 (decide (q8 (at_ L k) p<0)) iiz iiz rfl rfl)) fL)<|oc (yO (ltz k ((pns L).length)) iiz (fun e v W h=>zAP (zT e h) e) (fun e v W h=>zAe h e))<|zC) fun a w3 s=> ?_
 refine zA rfl ?_
 refine StS.cond s ((ltz k ((pns L).length))&&(decide (q8 (at_ L k) p<0))) iiz (fun e=> ?_) (fun e=> ?_)
 ·rw [zYi] at e
  have hk:k<L.length:=by have:=zXT e.1;simp at this;omega
  have hlt:=e.2
  refine zXX ?_
  refine zX1 ?_
  refine zX 2 ((20,.Z (uI (k:Int)))::(21,.u (uI ((k+1:Nat):Int))):: []) s kH
   (oc zE<|oc (yN .i64 (k:Int) 1 ((k+1:Nat):Int) iiz iiz (wrap64 _ _ oO oO))<|zC) fun a w4 s=> ?_
  replace s:=s.drop [5]
  refine yR (uI ((k+1:Nat):Int)) rfl s kH iiz fun a w s=> ?_
  refine zA rfl ?_
  exact ⟨k+1,⟨hk,fun j hj=>by rcases zYH (Nat.le_of_lt_succ hj) with h|h;exact hx.2 j h;rw [h];exact hlt⟩,(by show L.length - (k+1)<L.length - k;omega),s.keepK _ (fmz ⟨mz3,fmz ⟨.head _,fnz⟩⟩)⟩
 ·have hkl:=hx.1
  have hpos:zNZ L p=k:=by
   rw [Bool.and_eq_false_iff] at e
   rcases zYH hkl with h|h
   ·exact zOk h hx.2 (by rcases e with e|e;exact absurd (show (k:Int)<((pns L).length:Int) by simp;omega) (zYa e);exact e)
   ·unfold zNZ;rw [h];exact zLx (by rw [<-h];exact hx.2)
  clear e
  refine zYb ?_
  refine zXP ?_
  refine zXP ?_
  refine zB 12 ((22,.Z (uI (k:Int)))::(23,.Z (wB l))::(24,.Z (uI ((pns L).length:Int)))::(25,.Z (uB (ltz k ((pns L).length))))::(26,.Z (uB (ltz k ((pns L).length))))::(27,.s (SF.imp ((ltz k ((pns L).length))=true) ((wB l).tS)))::(28,.s (SF.imp ((ltz k ((pns L).length))=true) ((uI (k:Int)).tS)))::(29,.s (SF.imp ((ltz k ((pns L).length))=true) (wE (cg (fPN (at_ L k))))))::(30,.s (SF.imp ((ltz k ((pns L).length))=true) ((fPN (at_ L k)).tS)))::(31,.s (SF.imp ((ltz k ((pns L).length))=true) ((fPV m p).tS)))::(32,.s (SF.imp ((ltz k ((pns L).length))=true) ((uB (q8 (at_ L k) p==0)).tS)))::(33,.u (uB ((ltz k ((pns L).length))&&(q8 (at_ L k) p==0)))):: []) hmix s kH
   (oc zE<|oc zE<|oc (yV (z:=6) (Cs:=pns L) kH (fun v W hb h=>(yU hl h (s.up hb))) (fun _=>rfl))<|oc (zS .i64 (k:Int) ((pns L).length:Int) (ltz k ((pns L).length)) iiz iiz rfl rfl)<|oc zE<|oc (zG 26 (ltz k ((pns L).length)) kH iiz (fun e=>z5 [] ((wB l).tS) fnz fM kH zE) fL)<|oc (zG 26 (ltz k ((pns L).length)) kH iiz (fun e=>z5 [] ((uI (k:Int)).tS) fnz fM kH zE) fL)<|oc (zG 26 (ltz k ((pns L).length)) kH iiz (fun e=>z5 [(27,(wB l).tS),(28,(uI (k:Int)).tS)] (wE (cg (fPN (at_ L k)))) (fmz ⟨fun v W h=>zT (c:=(ltz k ((pns L).length))=true) (f:=(wB l).tS) e h,fmz ⟨fun v W h=>zT (c:=(ltz k ((pns L).length))=true) (f:=(uI (k:Int)).tS) e h,fnz⟩⟩) fM kH (yH (z:=6) (Cs:=pns L) (i:=k) (C:=wC (fPN (at_ L k))) kH (zDg (by have:=zXT e;simp at this;omega)) (fun v W hb h=>(yU hl h (s.up hb))) iiz)) fL)<|oc (zG 26 (ltz k ((pns L).length)) kH iiz (fun e=>z5 [(29,wE (cg (fPN (at_ L k))))] ((fPN (at_ L k)).tS) (fmz ⟨fun v W h=>zT (c:=(ltz k ((pns L).length))=true) (f:=wE (cg (fPN (at_ L k)))) e h,fnz⟩) fM kH (zK (f:=fPN (at_ L k)) 6 kH (hz:=zP _ _))) fL)<|oc (zG 26 (ltz k ((pns L).length)) kH iiz (fun e=>z5 [] ((fPV m p).tS) fnz fM kH (zK (f:=fPV m p) 6 kH (hz:=zP _ _))) fL)<|oc (zG 26 (ltz k ((pns L).length)) kH iiz (fun e=>z5 [(30,(fPN (at_ L k)).tS),(31,(fPV m p).tS)] ((uB (q8 (at_ L k) p==0)).tS) (fmz ⟨fun v W h=>zT (c:=(ltz k ((pns L).length))=true) (f:=(fPN (at_ L k)).tS) e h,fmz ⟨fun v W h=>zT (c:=(ltz k ((pns L).length))=true) (f:=(fPV m p).tS) e h,fnz⟩⟩) fM kH (zI zD zH3 (fun u0 u1 W hb (h0:(fPN (at_ L k)).p u0 W) (h1:(fPV m p).p u1 W)=>zBU (m:=m) (p:=at_ L k) (q:=p) (zAo (p:=at_ L k) (m:=m) (hqL _ (zB2 (l:=L) (i:=k) (by have:=zXT e;simp at this;omega))).1 (hqL _ (zB2 (l:=L) (i:=k) (by have:=zXT e;simp at this;omega))).2 h0) h1 hm hm0))) fL)<|oc (yO (ltz k ((pns L).length)) iiz (fun e v W h=>zAP (zT e h) e) (fun e v W h=>zAe h e))<|zC) fun a w5 s=> ?_
  refine zA rfl ?_
  refine StS.cond s ((ltz k ((pns L).length))&&(q8 (at_ L k) p==0)) iiz (fun e=> ?_) (fun e=> ?_)
  ·refine zXP ?_
   refine zB 2 ((34,.Z (wB l))::(4,.u (wB l)):: []) hmix s kH
    (oc zE<|oc zF<|zC) fun a w6 s=> ?_
   refine zA rfl ?_
   refine zXQ ?_
   exact StS.resN s (zXV _ _) (t:=4) rfl (by rw [s.val (.head _),zTL hpos e];exact (wD 6 _).st _ _ _ hl s.below)
  ·refine zXX ?_
   refine zXP ?_
   have hbX:=s.below
   have hlX:=(wD 6 _).st _ _ _ hl hbX
   have hX3:b3<w5.heap.size:=s.old _ (.head _)
   replace s:StS _ _ _ [⟨3,30,wC (fPV m p),b3,true⟩] _ _ _ _:=s.freeze
   replace s:=s.reb rfl [(33,.u (uB ((ltz k ((pns L).length))&&(q8 (at_ L k) p==0)))),(19,.u (uB ((ltz k ((pns L).length))&&(decide (q8 (at_ L k) p<0))))),(0,.u (wB l)),(5,.u (uI (k:Int)))] (fmz ⟨.inl (.head _),fmz ⟨.inl mz1,fmz ⟨.inl mz2,fmz ⟨.inl mz3,fnz⟩⟩⟩⟩)
   refine qV 5 ((35,.s (vF w5 30))::(36,.Z (wB l))::(37,.Z (uI (k:Int)))::(38,.s (wD 6 (pns (L.take k))))::(39,.s (wL w5 30 6 (pns (L.take k)))):: []) hmix s kH
    (oc (zMv (z:=6) kH)<|oc zE<|oc zE<|oc (zPa (z:=6) (k:=k) (Cs:=pns L) kH (by simp;omega) (fun v W hb h=>(yU hlX h (s.up hb))) iiz (fun v W h=>by rw [zO1] at h;exact h))<|oc (zSn (pns (L.take k)) kH iiz (fun v W hb h=>h) (zMn _) (by simp;omega))<|zC) fun a w7 s hr=> ?_
   obtain ⟨v39,e39⟩: ∃v,a.tmps.getD 39 undef=v:=⟨_,rfl⟩
   have hv39:zAU w7 w5.heap.size 30 6 v39 (pns (L.take k)):=e39▸(hr (_,_) mz4)
   replace s:=s.learn 39 v39 e39
   refine zQd (wB v39) rfl s kH iiz fun a s=> ?_
   refine zA rfl ?_
   refine zXP ?_
   have sb:=s;have so: ∀q,q∈ [(⟨3,30,wC (fPV m p),b3,true⟩:Bx)]->q.b<w5.heap.size:=fun q hq=>by rcases zYr.1 hq with rfl|hq;exact hX3;cases hq
   have sg:w5.heap.size<=w5.heap.size:=zXW _
   have hwX:=s.below
   refine zLU (GW w5) hmix s fun w8 hw8 s=> ?_
   have hwb:=hwX.trans (hw8.mono hwX.size)
   have hz:=hwb.size
   refine zGo [5,6,7] [0,1,2,3,5,6,7] ((40,.u (wB v39))::(41,.Z (fPV m p))::(42,.s (wD 6 [wC (fPV m p)]))::(43,.s (wD 6 (pns [p])))::(45,.Z (wB l))::(46,.Z (uI (k:Int)))::(47,.u (fRW w5 6 (pns (L.drop k)))):: []) (zNc hwb) s kH
    (oc zE<|oc (zK (f:=fPV m p) 6 kH (hz:=zP _ _))<|oc (jI (fun u W (hu:(fPV m p).p u W)=>zEn hu))<|oc (zJ zD zUB (fun u0 W hb h0=>(zOI (m:=m) (ps:= [p]) h0 oO fN).mono (wH zAw)))<|oc zE<|oc zE<|oc (zIJ (W0:=w5) (l0:=l) (z:=6) (k:=k) (Cs:=pns L) kH (by simp;omega) hlX iiz iiz (fun v W h=>by rw [zO2] at h;exact h))<|zC)
    (zA9 rfl (zFD.c zFs hwb) (zA9 rfl (zFD.c zFs hwb) (zA9 rfl (zFD.c (zIW (x:= .tmp 45) (lo:= .tmp 46) (l0:=l) (z:=6) (k:=k) (Cs:=pns L) kH (by simp;omega) hlX iiz iiz) hwb) zGT))) fun a w9 hbw s hr=> ?_
   replace hwb:=hwb.trans (hbw.mono hwb.size)
   have hN:=hv39.below (hw8.trans (hbw.mono hw8.size))
   refine zJt (i:=4) (x:= .tmp 40) (y:= .tmp 43) (pns [p]) hwb s sg hN rfl (zC9 rfl) kH kH kH (s.fct (.tmp 40)) (hr (_,_) mz3) (zMn _) (by simp;omega) so fun v44 a w10 hwb hN44 s=> ?_
   have hR44:=hN44.row
   refine zJt (i:=8) (x:= .tmp 44) (y:= .tmp 47) (pns (L.drop k)) hwb s sg hN44 rfl (zC9 rfl) kH kH kH (s.fct (.tmp 44)) ((wD 6 _).st _ _ _ (s.sl (47,.u (fRW w5 6 (pns (L.drop k)))) mz2) hwb) (zMn _) (by simp;omega) so fun v48 a w11 hwb hN48 s=> ?_
   have hR48:=hN48.row
   have hR:(wD 6 (pns (zGw L p))).p v48 w11:=by have:=hR48;rw [zMm, <-zTM hpos e] at this;exact this
   replace s:=s.drop [4]
   refine zGo [] [9] ((4,.u (wB v48)):: []) (zNc hwb) s kH (zJJ zF<|zC) zGT fun a w12 hbw s hr=> ?_
   refine zJs kH ?_
   refine zXQ ?_
   exact StS.resN s hbX (t:=4) rfl (by rw [s.val (.head _)];exact (wD 6 _).st _ _ _ hR hbw)
def PRp (u v:UF) (x:Wj) (w:Wi):Prop:= ∃a b:List Wj,x= .agg (a++b).toArray/\(wC u).p a w/\(wC v).p b w
def fPR (u v:UF):UF:= .mk' (PRp u v) fun _ _ _ ⟨a,b,e,h1,h2⟩ k=>⟨a,b,e,(wC u).us _ _ _ h1 k,(wC v).us _ _ _ h2 k⟩
section
variable {f g f' g':UF}
theorem zBp (h:(wC (fPR (fPT f g) (fPT f' g'))).p cs W): ∃a b:List Wj,cs=a++b/\a.length=6/\b.length=6/\(wC (fPT f g)).p a W/\(wC (fPT f' g')).p b W:=by
 obtain ⟨a,b,e,h1,h2⟩:=h
 have:=zX5 Array.toList (jL e)
 have this:cs=a++b:=this
 exact ⟨a,b,this,(zD8 _ _ a W h1).1,(zD8 _ _ b W h2).1,h1,h2⟩
theorem zKN:CU.ok 12 (wC (fPR (fPT f g) (fPT f' g'))):=fun cs W h=>by
 obtain ⟨a,b,rfl,l1,l2,h1,h2⟩:=zBp h
 have o1:=zD8 _ _ a W h1;have o2:=zD8 _ _ b W h2
 refine ⟨by simp [l1,l2],by rw [List.all_append,o1.2.1,o2.2.1];rfl,fun u hu=> ?_⟩
 rcases zYc.1 hu with hu|hu
 ·exact o1.2.2 u hu
 ·exact o2.2.2 u hu
theorem zBd: ∀cs:List Wj, ∀W,(fPR (fPT f g) (fPT f' g')).p (.agg cs.toArray) W->cs.length=12:=fun cs W h=>(zKN cs W h).1
theorem zJB (h:(fPR (fPT f g) (fPT f' g')).p v W):(wC (fPR (fPT f g) (fPT f' g'))).p v.cells.toList W/\v.cells.toList.all yA=true:=by
 obtain ⟨a,b,rfl,h1⟩:=id h
 exact ⟨h,(zKN _ W h).2.1⟩
theorem zBo (v:Wj) (W:Wi) (h:(fPR (fPT f g) (fPT f' g')).p v W): ∃vs:List Wj,v= .agg vs.toArray/\vs.length=12/\(∀u,u∈vs->u.oneCell'=true)/\vs.all yA=true/\(wC (fPR (fPT f g) (fPT f' g'))).p vs W:=by
 obtain ⟨a,b,rfl,h1⟩:=id h
 have:=zKN _ W h
 exact ⟨_,rfl,this.1,this.2.2,this.2.1,h⟩
theorem zC8 (cs:List Wj) (W:Wi) (h:(wC (fPR (fPT f g) (fPT f' g'))).p cs W):0+6<=cs.length/\(fPT f g).p (.agg ((cs.drop 0).take 6).toArray) W:=by
 obtain ⟨a,b,rfl,l1,l2,h1,_⟩:=zBp h
 refine ⟨by simp [l1,l2], ?_⟩
 rw [zYI,zYl oO,zYd oO]
 exact h1
theorem zDA (cs:List Wj) (W:Wi) (h:(wC (fPR (fPT f g) (fPT f' g'))).p cs W):6+6<=cs.length/\(fPT f' g').p (.agg ((cs.drop 6).take 6).toArray) W:=by
 obtain ⟨a,b,rfl,l1,l2,_,h2⟩:=zBp h
 refine ⟨by simp [l1,l2], ?_⟩
 rw [zYm oO,zYn oO,zX4,zYd oO]
 exact h2
theorem zSf (cs:List Wj) (W:Wi) (h:(wC (fPR (fPT f g) (fPT f' g'))).p cs W):3+3<=cs.length/\g.p (.agg ((cs.drop 3).take 3).toArray) W:=by
 obtain ⟨a,b,rfl,l1,l2,h1,_⟩:=zBp h
 refine ⟨by simp [l1,l2], ?_⟩
 have:=(zDe a W h1).2
 rwa [zYm oO,zYl (by simp;omega)]
theorem zOZ (cs:List Wj) (W:Wi) (h:(wC (fPR (fPT f g) (fPT f' g'))).p cs W):9+3<=cs.length/\g'.p (.agg ((cs.drop 9).take 3).toArray) W:=by
 obtain ⟨a,b,rfl,l1,l2,_,h2⟩:=zBp h
 refine ⟨by simp [l1,l2], ?_⟩
 have:=(zDe b W h2).2
 rwa [show 9=a.length+3 by omega,List.drop_append,zYn oO,zX4,Nat.add_sub_cancel_left]
end
section
variable {F:Fence} {m:Nat} {P:Wn} {u w0:Wi} {ops:Array Oper} {G:Nat->SF} {d:Tmp} {ty:Wk} {pos:String} {aft:Array Edge}
variable {l:Wj} {x y:Wm} {t:Wk} {z:Nat} {Cs:List CU} {i:Nat} {C:CU}
theorem zHK (hz:jM P t=some z) (hi:Cs[i]?=some C) (hl:(wD z Cs).p l u) (hx: ∀v W,(fct G x).p v W->v=l) (hy: ∀v W,(fct G y).p v W->v= .int .i64 (i:Int)) (hd: ∀v W,(fOp u C).p v W->(G d).p v W:=by exact fun _ _ h=>h):qN F m P w0 ops G ⟨some d,.indexAddr t x y,ty,pos,aft,none⟩:=
 qK (fun _ e=>by cases e) (fun _ e=>by cases e) fun b W hb hh=>by
  have e1:=hx _ _ (hh x (by simp [Op.operands]))
  have e2:=hy _ _ (hh y (by simp [Op.operands]))
  obtain ⟨A,c,rfl,h2,h3,h4,h5⟩:=hl
  obtain ⟨b',o,cs,rfl,h6,h7⟩:=h5 i C hi
  refine ⟨.pointer (some ⟨b',o+i*z,none⟩), ?_,hd _ _ ⟨b',o+i*z,cs,rfl,h7,h6⟩⟩
  simp [execOp,e1,e2,zFO hz (zXS.1 hi).1]
theorem zJG (hu:bW u w0) (f:UF) (k:Nat) (hk:zAc P t=some k) (hx: ∀v W,(fct G x).p v W->(fOp u C).p v W) (h: ∀cs W,C.p cs W->0+k<=cs.length/\f.p (.agg ((cs.drop 0).take k).toArray) W) (hd: ∀v W,f.p v W->(G d).p v W:=by exact fun _ _ h=>h):qN F m P w0 ops G ⟨some d,.load t x,ty,pos,aft,none⟩:=
 qK (fun _ e=>by cases e) (fun _ e=>by cases e) fun b W hb hh=>by
  have hb:=hu.trans (hb.mono hu.size)
  obtain ⟨a,q,cs,e,h2,h3⟩:=hx _ _ (hh x (by simp [Op.operands]))
  obtain ⟨h4,h5⟩:=h cs W (C.us _ _ _ h2 (zV hb))
  rw [zYI] at h5
  exact ⟨_,by simp [execOp,Instr.loadAt,e,Instr.sureAddr,zAn hk (h3.below hb) oO],hd _ _ h5⟩
end
section
variable {S:Nat->Prop} {w0:Wi} {K:List (Nat×KF)} {B:List Bx} {n:Nat} {ds:List Deferred} {a:Act} {w:Wi}
theorem StS.own (h:St w0 K B n ds a w) {c:Nat} {y:Bx} (hB:zFC B c=some y) (hro:y.r=false):w0.heap.size<=y.b:=by
 obtain ⟨hy,_⟩:=zAT hB
 obtain ⟨_,_,h2,_⟩:=h.bx.mem y hy
 rcases h2 with e|e|e
 ·rw [hro] at e;cases e
 ·exact e
 ·exact e.elim
theorem zQL {wb:Wi} (h:bW wb w) {b:Nat} (hb:wb.heap.size<=b) (vs:Array Wj):Gr (GW wb) (w.setRow b vs):=zNc (zK9 h hb)
end
theorem zLL (m:Nat) (W:Wi):RVp m 0 (.agg #[.bool false, sN, sN]) W:=⟨iv false [],0,⟨_,_,_,rfl,⟨false,none,0,0, [],rfl,wN W,zBR,zXU _,rfl⟩,⟨none,0,0, [],rfl,wN W,zBR,zXU _,rfl⟩⟩,zYe _⟩
abbrev ptZ:List Wj:= [.bool false, sN, sN,.bool false, sN, sN]
theorem zGx (m:Nat) (W:Wi):(wC (fPV m (0,0))).p ptZ W:=⟨false,none,0,0,none,0,0,false,none,0,0,none,0,0,rfl,zLL m W,zLL m W⟩
def nE (ps:List V2):Nat:=if 2<=ps.length then ps.length else 0
section
variable {S:Nat->Prop} {w0:Wi} {K:List (Nat×KF)} {B:List Bx} {n:Nat} {a:Act} {w:Wi} {P:Wn} {Q:Exit->Act->Wi->Prop}
end
def zN1 (a b p:V2):Bool:=(decide (qsg a.2 p.2<=0)&&decide (qsg p.2 b.2<0))&&(zAG a b p==1)
def zCp (a b p:V2):Bool:=if qsg a.2 b.2>0 then zN1 b a p else zN1 a b p
def zFY (f:Nat->Bool) (N:Nat):Int:=match (List.range N).find? f with|some k=>(k:Int)|none=> -1
def zVF (f:Nat->Bool) (k:Nat):Prop:= ∀j,j<k->f j=false
theorem zIV (h:zVF f N):zFY f N= -1:=by
 unfold zFY
 rw [List.find?_eq_none.2 (fun x hx=>by rw [h x (zYo.1 hx)];simp)]
def zIZ (f:Nat->Bool):Nat->Nat
 |0=>0
 |k+1=>zIZ f k+(if f k=true then 1 else 0)
theorem zQ6 (h:f k=true):zIZ f (k+1)=zIZ f k+1:=by show _+(if f k=true then 1 else 0)=_;rw [if_pos h]
theorem zKg (h:f k=false):zIZ f (k+1)=zIZ f k:=by show _+(if f k=true then 1 else 0)=_;rw [if_neg (by simp [h])];rfl
def onK (ps:List V2) (p:V2) (k:Nat):Bool:=onB (at_ ps k) (at_ ps ((k+1) % ps.length)) p
def crK (ps:List V2) (p:V2) (k:Nat):Bool:=zCp (at_ ps k) (at_ ps ((k+1) % ps.length)) p
def onI (ps:List V2) (p:V2):Int:=zFY (onK ps p) (nE ps)
def crN (ps:List V2) (p:V2):Nat:=zIZ (crK ps p) (nE ps)
def zCn (ps:List V2) (p:V2):Int:=if onI ps p≥0 then 0 else 2*((crN ps p % 2:Nat):Int) - 1
section
variable {f g f' g' f'' g'':UF}
end
section
variable {F:Fence} {m:Nat} {P:Wn} {w0:Wi} {ops:Array Oper} {G:Nat->SF} {d:Tmp} {ty:Wk} {pos:String} {aft:Array Edge}
end
theorem zLR (z:Nat) (W:Wi):(wD z []).p (sN) W:=⟨none,0,rfl,zXW _,by decide,fun _=>rfl,fun i C hi=>by simp at hi⟩
abbrev T3L:List V2:= [(((0:Int):Rat),((0:Int):Rat)),(((2:Int):Rat),((0:Int):Rat)),(((0:Int):Rat),((2:Int):Rat))]
abbrev hlf (x:Int):Rat:=((x:Rat)+((0:Int):Rat)) / 2
theorem zQr:QB (hlf 1) 1:=⟨by unfold Bd BB;decide+kernel,by unfold BB;decide+kernel⟩
theorem zVl: ∀p,p∈T3L->QB p.1 1/\QB p.2 1:=fun p hp=>by
 have h0:=qbz (z:=0) dA
 have h2:=qbz (z:=2) dA
 simp only [zYr,List.not_mem_nil,or_false] at hp
 rcases hp with rfl|rfl|rfl
 ·exact ⟨h0,h0⟩
 ·exact ⟨h2,h0⟩
 ·exact ⟨h0,h2⟩
end Go.Proofs.Wd
