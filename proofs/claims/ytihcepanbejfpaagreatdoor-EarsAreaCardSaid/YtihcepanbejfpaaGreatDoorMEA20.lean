/- Natural numbers as values; the walks of gcd's Reduce, Lcm, Coprime; Th and what it needs. -/
import Derived.Test.YtihcepanbejfpaaGreatDoorMEA18
import Derived.Test.YtihcepanbejfpaaGreatDoorMEA13
import Derived.Test.YtihcepanbejfpaaGreatDoorMEA7
import Derived.Test.YtihcepanbejfpaaGreatDoorMEA19
import Derived.Test.YtihcepanbejfpaaGreatDoorMEA17
import Derived.Test.YtihcepanbejfpaaGreatDoorMEA6
import Derived.Test.YtihcepanbejfpaaGreatDoorMEA1
import Derived.Test.YtihcepanbejfpaaGreatDoorMEA9
import Derived.Test.YtihcepanbejfpaaGreatDoorMEA16
import Derived.Lib.AppendZeros
theorem kH {P:Prop} (h:P:=by kernel_rfl):P:=h
theorem oO {P:Prop} (h:P:=by omega):P:=h
theorem dA {P:Prop} (h:P:=by decide):P:=h
theorem fM {P:Prop} (h:P:=by simp):P:=h
abbrev tN:=@Go.wpIn_seq
abbrev tO:=@Go.wpIn_ret
abbrev tP:=@Nat.lt_of_le_of_lt
abbrev tQ:=@List.getElem?_eq_some_iff
abbrev tR:=@Go.RowKit.Below.refl
abbrev tS:=@Nat.le_trans
abbrev tT:=@Nat.le_refl
abbrev tU:=@Nat.lt_of_lt_of_le
abbrev tV:=@List.getD_eq_getElem?_getD
abbrev tW:=@List.getElem?_eq_getElem
abbrev tX:=@Nat.div_le_self
abbrev tY:=@Nat.zero_le
abbrev tZ:=@List.take_of_length_le
abbrev zBw:=@Go.wpIn_skip
abbrev zF0:=@Nat.pow_le_pow_right
abbrev zT8:=@List.nil_append
abbrev zT9:=@congrArg
abbrev zUa:=@Nat.eq_zero_or_pos
abbrev zUb:=@List.mem_cons
abbrev zUc:=@List.length_map
abbrev zUd:=@Go.run_underlying
abbrev zUe:=@List.append_assoc
abbrev zUf:=@List.all_eq_true
abbrev zUg:=@decide_eq_true
abbrev zUh:=@decide_eq_false
abbrev zUi:=@Option.some.inj
abbrev zUj:=@Go.KeepsOthers.setCell
abbrev zUk:=@of_decide_eq_true
abbrev zUl:=@List.getElem?_map
abbrev zUm:=@Go.wpIn_block
abbrev zUn:=@List.mem_append
abbrev zUo:=@List.take_append_of_le_length
abbrev zUp:=@List.drop_append_of_le_length
abbrev zUq:=@List.drop_of_length_le
abbrev zUr:=@List.length_take
abbrev zUs:=@List.size_toArray
abbrev zUt:=@Nat.mul_le_mul_right
abbrev zUu:=@Go.Sem.run_bind
abbrev zUv:=@Go.Sem.run_pure
abbrev zUw:=@List.mem_map
abbrev zUx:=@List.length_drop
abbrev zUy:=@Nat.mod_lt
abbrev zUz:=@List.length_cons
abbrev zUA:=@Nat.le_of_lt
abbrev zUB:=@Rat.one_mul
abbrev zUC:=@Nat.mul_assoc
abbrev zUD:=@Rat.num_eq_zero
abbrev zUE:=@Go.Addr.add_lit
abbrev zUF:=@List.drop_zero
abbrev zUG:=@Go.Result.andThen_ok
abbrev zUH:=@Option.map_eq_some_iff
abbrev zUI:=@Nat.add_mul
abbrev zUJ:=@List.getElem?_take
abbrev zUK:=@Rat.mkRat_zero
abbrev zUL:=@Go.World.block_lt_of_cell?
abbrev zUM:=@List.length_nil
abbrev zUN:=@Array.replicate_succ
abbrev zUO:=@Array.replicate_zero
abbrev zUP:=@List.push_toArray
abbrev zUQ:=@List.append_toArray
abbrev zUR:=@List.cons_append
abbrev zUS:=@Classical.byContradiction
abbrev zUT:=@Int.tdiv_eq_ediv_of_nonneg
abbrev zUU:=@Int.sign_eq_neg_one_of_neg
abbrev zUV:=@Int.sign_eq_one_of_pos
abbrev zUW:=@of_decide_eq_false
abbrev zUX:=@List.map_append
abbrev zUY:=@List.toList_toArray
abbrev zUZ:=@List.map_toArray
abbrev zU0:=@List.map_cons
abbrev zU1:=@List.getElem?_drop
abbrev zU2:=@List.length_append
abbrev zU3:=@List.mem_of_mem_drop
abbrev zU4:=@List.not_mem_nil
abbrev zU5:=@List.getElem_map
abbrev zU6:=@Nat.mod_eq_of_lt
abbrev zU7:=@Array.getElem?_eq_some_iff
abbrev zU8:=@Nat.gcd_pos_of_pos_right
abbrev zU9:=@Array.getD_eq_getD_getElem?
abbrev zVa:=@List.getElem?_append_left
abbrev Wi:=Go.World
abbrev Wj:=Go.Value
abbrev Wk:=Go.TypeId
abbrev Wl:=Option
abbrev Wm:=Go.Operand
abbrev Wn:=Go.Program
namespace Go.Proofs.Wd
open Tryz
set_option maxHeartbeats 1000000
open Go.RowKit Lb
theorem zSF {W:Wi} {m:Nat} {v v':Wj} {a b:Nat} (h:LV W m v a) (h':LV W m v' b) (hm:m<=2000) (hT:Tab W):Calls prog 149 #[v,v'] W (zLU W (Nat.gcd a b)):=by
 obtain ⟨A,n,c,l,rfl,h1,h2,h3,rfl⟩:=h
 obtain ⟨A',n',c',l',rfl,h1',h2',h3',rfl⟩:=h'
 exact (zPR A n c l A' n' c' l' W h1 h1' h2 h2' oO oO hT).mono fun _ _=>qZ.v
theorem zOi {a b m:Nat} (ha:a<BB^m) (hb:b<BB^m):Nat.gcd a b<BB^m:=by
 rcases zUa a with rfl|h
 ·rwa [Nat.gcd_zero_left]
 ·exact tP (Nat.gcd_le_left b h) ha
theorem zLI {m:Nat} {v vg:Wj} {a g B:Nat} {W:Wi} (h:LV W m v a) (hg:LV W m vg g) (hm:m<=2000) (hg0:0<g) (hc:W.cell? ⟨B,0,none⟩=some vg):
  Calls prog 159 #[v,pO B 0] W (zLU W (a / g)):=by
 obtain ⟨A,n,c,l,rfl,h1,h2,h3,h4⟩:=h
 obtain ⟨A',n',c',l',rfl,h1',h2',h3',h4'⟩:=hg
 have hd:=zIp a g hg0 A n c l A' n' c' l' W h1 h2 h1' h2' h4 h4' oO oO
 have H4:=hid h4;have H4':=hid h4'
 clear h4 h4'
 go_enter func159,ntmps159
 go_wp2_with fail
 refine hd.mono ?_
 rintro e w4 ⟨A4,n4,c4,l4,A5,n5,c5,l5,rfl,hi4,hr4,hi5,hr5,hb5⟩
 go_wp2_with fail
 go_ret
 exact ⟨_,rfl,⟨A4,n4,c4,l4,rfl,hi4,hr4⟩,hb5⟩
theorem zR1 (A:Wl Addr) (n c:Nat) (w:Wi):
  Calls prog 150 #[.slice A n c] w fun e w'=>e= .returned (.func (.func 159) #[] #[pO w.heap.size 0])/\w'=w.alloc (.cells #[.slice A n c] 24):=by
 go_enter func150,ntmps150
 go_wp2
 go_ret
 exact ⟨rfl,rfl⟩
theorem zMF {W:Wi} {m:Nat} {v v':Wj} {a b:Nat} (h:LV W m v a) (h':LV W m v' b) (hm:m<=2000) (hT:Tab W):Calls prog 135 #[v,v'] W (zTm W (a / Nat.gcd a b) (b / Nat.gcd a b)):=by
 have hgc:=zSF h h' hm hT
 have hgl:=zOi h.bound h'.bound
 have hen: ∀args w,(callFunc 159 args).run prog w= .ok (.enter 159 args) w:=enters_of func159 kH rfl
 obtain ⟨g,hg⟩: ∃g,Nat.gcd a b=g:=⟨_,rfl⟩
 rw [hg] at hgc hgl ⊢
 rcases zUa g with h0|h0
 ·have HZ:=hid h0
  go_enter func135,ntmps135
  go_wp2_with fail
  refine hgc.mono ?_
  rintro e w4 ⟨v4,rfl,⟨A4,n4,c4,l4,rfl,hi4,hr4⟩,hb4⟩
  obtain rfl:n4=0:=by rw [<-hr4.len];exact hi4.zero_iff.1 HZ.out
  go_wp2_with fail
  go_ret2
  exact ⟨_,_,rfl,⟨none,0,0, [],rfl,by rw [HZ.out,Nat.div_zero];exact Is.nil,wK _⟩,⟨none,0,0, [],rfl,by rw [HZ.out,Nat.div_zero];exact Is.nil,wK _⟩,hb4⟩
 ·clear hg
  go_enter func135,ntmps135
  go_wp2_with fail
  refine hgc.mono ?_
  rintro e w4 ⟨v4,rfl,⟨A4,n4,c4,l4,rfl,hi4,hr4⟩,hb4⟩
  have hn4:0<n4:=by rw [<-hr4.len];exact hi4.pos_iff.1 h0
  have hb5:=hb4.trans ((tR _ w4).alloc (tT _) (.cells #[.slice A4 n4 c4] 24)|>.mono hb4.size)
  have x5:=Boxed.new w4 24 (.slice A4 n4 c4)
  obtain ⟨W5,hW5⟩: ∃W5,w4.alloc (.cells #[.slice A4 n4 c4] 24)=W5:=⟨_,rfl⟩
  rw [hW5] at hb5 x5
  have hg5:LV W5 m (.slice A4 n4 c4) g:=by rw [<-hW5];exact (qC.lv ⟨A4,n4,c4,l4,rfl,hi4,hr4⟩ hgl).below ((tR _ w4).alloc (tT _) _)
  have hby:=zR1 A4 n4 c4 w4
  rw [hW5] at hby
  clear hW5
  go_wp2_with fail
  refine hby.mono ?_
  rintro e w6 ⟨rfl,rfl⟩
  go_wp2_with fail
  refine (zLI (h.below hb5) hg5 hm h0 x5.cell).mono ?_
  rintro e w7 ⟨v7,rfl,hv7,hb7⟩
  go_wp2_with fail
  refine (zLI ((h'.below hb5).below hb7) (hg5.below hb7) hm h0 ((hb7.cell (p:=⟨w4.heap.size,0,none⟩) (zT x5.cell)).trans x5.cell)).mono ?_
  rintro e w8 ⟨v8,rfl,hv8,hb8⟩
  go_wp2_with fail
  go_ret2
  have t1:=hb5.trans (hb7.mono hb5.size)
  exact ⟨_,_,rfl,hv7.below hb8,hv8,t1.trans (hb8.mono t1.size)⟩
theorem zNy {W:Wi} (nq:Nat):Below W.heap.size W (W.drewN nq):=⟨(tR W.heap.size W).os,(tR W.heap.size W).tape,(tR W.heap.size W).output,(tR W.heap.size W).size,(tR W.heap.size W).block⟩
end Go.Proofs.Wd

namespace Go.Proofs.Wd
open Tryz
set_option maxRecDepth 100000
open Go.RowKit Lb
theorem zNM {W:Wi} {m:Nat} {v:Wj} {x:Nat} (h:LV W m v x) (hm:m<=100000):Calls prog 124 #[v] W (zLU W x):=by
 obtain ⟨A,n,c,l,rfl,h1,h2,h3,rfl⟩:=h
 exact (qP A n c l W h1 h2 oO).mono fun _ _=>qZ.v
theorem Tab.bls {W w:Wi} {b:Nat} {cs:List Wj} {te:Wk} (hT:Tab W) (hb:W.heap[b]?=some (.cells cs.toArray te (0,0))) (h0: ∃s,cs[0]?=some (.bool s)) (hg:BlS (fun k=>k=b) W w):Tab w:=fun j hj=>by
 have h1:=hT j hj
 have hne:(0:Nat)≠b:=fun e=>by
  have h2:=hT 0 dA
  obtain ⟨s,hs⟩:=h0
  unfold World.cell? at h2
  rw [show ((⟨0,0,none⟩:Addr).block)=b from e,hb] at h2
  simp [hs] at h2
 exact (World.cell?_of_block (a:=⟨0,j,none⟩) (hg.block _ (zT h1) hne)).trans h1
theorem zHw {m:Nat} {k:Int} {d:Nat} {cs:List Wj} {W:Wi} (h:QVp m k d (.agg cs.toArray) W): ∃s,cs[0]?=some (.bool s):=by
 obtain ⟨u,h1,s,rfl⟩:=zQW cs W h
 exact ⟨s,h1⟩
theorem zBz {m:Nat} {k:Int} {d:Nat} {cs:List Wj} {W:Wi} (h:QVp m k d (.agg cs.toArray) W):cs.all zV=true:=by
 have:=(zEp (v:= .agg cs.toArray) h).2
 simpa [Value.cells] using this
theorem zFj {W:Wi} {v:Wj} {x:Nat} (h:qC W v x):Calls prog 105 #[v] W (Ret W (fNV (x:Int)).tS):=by
 refine yF [(qR x).tS] func105 rfl kH ⟨h,trivial⟩ fun a s=> ?_
 refine tN ?_
 refine zB 0 [] hmix s kH
  zE fun a w1 s=> ?_
 refine yE (CU.len 2) (cs:= [.bool false, .slice none 0 0]) kH rfl s kH (fun W=>rfl) rfl fun b2 a w s=> ?_
 refine zA rfl ?_
 refine tN ?_
 refine zB 2 ((3, .Z (qR x))::(4, .u (fNV (x:Int))):: []) hmix s kH
  (oc zC<|oc (zEz (fun u W (hu:qC W u x)=>zLJ hu))<|zE) fun a w2 s=> ?_
 refine zU (CU.agg (fNV (x:Int))) ((fNV (x:Int)).tS) rfl s kH rfl rfl rfl iiz iiz zFO fun a w s=> ?_
 refine zA rfl ?_
 refine tO ?_
 exact wJ s (CU.agg (fNV (x:Int))) rfl kH rfl rfl (zOe _) (fun cs W h=>h)
theorem zMB {W:Wi} (z:Int) (hz: -9223372036854775808<=z/\z<=9223372036854775807):Calls prog 51 #[.int .i64 z] W (Ret W (fQN (z:Rat)).tS):=by
 refine yF [(fI z).tS] func51 rfl kH ⟨rfl,trivial⟩ fun a s=> ?_
 refine tN ?_
 refine zB 0 [] hmix s kH
  zE fun a w1 s=> ?_
 refine yE (CU.len 3) (cs:=zR3) kH rfl s kH (fun W=>rfl) rfl fun b2 a w s=> ?_
 refine zA rfl ?_
 refine tN ?_
 refine zB 4 ((3, .Z (uI z))::(4, .Z (fNV z))::(5, .Z (qR 1))::(6, .u (fQN (z:Rat))):: []) hmix s kH
  (oc zC<|oc (zH zD zSV (fun u0 W hb (h0:u0= .int .i64 z)=>by subst h0;exact zTR z hz))<|oc (jP (fun u W (hu:u= .int .u32 1)=>zNV hu))<|oc (jA (fun u v W (hu:NV W u z) (hv:qC W v 1)=>zG1 (q:=(z:Rat)) hu hv))<|zE) fun a w2 s=> ?_
 refine zU (CU.agg (fQN (z:Rat))) ((fQN (z:Rat)).tS) rfl s kH rfl rfl rfl iiz iiz yB fun a w s=> ?_
 refine zA rfl ?_
 refine tO ?_
 exact wJ s (CU.agg (fQN (z:Rat))) rfl kH rfl rfl (y9 _) (fun cs W h=>h)
theorem zO0 {W:Wi} {b m:Nat} {k:Int} {d:Nat} {cs:List Wj} (hh:W.heap[b]?=some (.cells cs.toArray 98 (0,0))) (hc:QVp m k d (.agg cs.toArray) W) (hm:m<=2000) (hd:d=0):Calls prog 107 #[pO b 0] W (zLT W b 98 (CU.agg (fQN ((0:Int):Rat))) (uB false).tS):=by
 have hz:true=decide (d=0):=(zUg hd).symm
 refine zFz b [(0,UF.eq (pO b 0))] [⟨0,98,CU.agg (fQV m k d),b,false⟩] func107 rfl kH (fun q hq=>by simp at hq;subst hq;exact ⟨by simp,rfl⟩) ⟨⟨cs,rfl, .inr (.inr rfl),hh,hc,zBz hc,fun y hy=>by cases hy⟩,trivial⟩ (fun x hx=>by simp at hx;subst hx;simp) fun a s=> ?_
 refine tN ?_
 refine zB 1 ((2, .u (uB false)):: []) hmix s kH
  (oc zG<|zE) fun a w1 s=> ?_
 refine zA rfl ?_
 refine tN ?_
 refine tN ?_
 refine zB 8 ((3, .s (wG b (cg (fQV m k d))))::(4, .Y (fQV m k d))::(5, .X (fQV m k d) 0)::(6, .X (fQV m k d) 2)::(7, .Z (fLV m d))::(8, .Z (qR d))::(9, .s (zOk d))::(10, .u (uB true)):: []) hmix s kH
  (oc zC<|oc (j7 (C:=cg (fQV m k d)))<|oc (zP (C:=cg (fQV m k d)) 0 kH)<|oc (yZ (C:=cg (fQV m k d)) 0 2 kH)<|oc (jI (C:=cg (fQV m k d)) (k:=2) kH (h:=zGy))<|oc (zH zD zOm (fun u0 W hb (h0:LV W m u0 d)=>zNM h0 oO))<|oc (zDx kH iiz)<|oc (zDy hz)<|zE) fun a w2 s=> ?_
 refine zA rfl ?_
 refine StS.cond s true iiz (fun e=> ?_) (fun e=>by cases e)
 refine tN ?_
 refine zB 4 ((11, .Z (UF.eq (pO b 0)))::(12, .u (fQN ((0:Int):Rat)))::(13, .Z (UF.eq (pO b 0)))::(14, .u (UF.eq (pO b 0))):: []) hmix s kH
  (oc (zC (fun _ _ _ h=>h.1))<|oc (zH zD zPZ (fun u0 W hb (h0:u0= .int .i64 0)=>by subst h0;exact zMB 0 dA))<|oc (zBN (a:=⟨b,0,none⟩) iiz)<|oc (jS (b:=b) (o:=0) 0 kH iiz)<|zE) fun a w3 s=> ?_
 refine jH (c:=0) (o:=0) (kk:=3) (CU.agg (fQN ((0:Int):Rat))) ((fQN ((0:Int):Rat)).tS) rfl s kH rfl rfl iiz iiz zMj fun a w s=> ?_
 refine zA rfl ?_
 refine tN ?_
 replace s:=s.drop [2]
 refine zB 1 ((2, .u (uB false)):: []) hmix s kH
  (oc zG<|zE) fun a w4 s=> ?_
 refine zA rfl ?_
 refine tO ?_
 exact vE s (c:=0) (C:=CU.agg (fQN ((0:Int):Rat))) rfl rfl rfl rfl iiz
theorem zO1 {W:Wi} {b m:Nat} {k:Int} {d:Nat} {cs:List Wj} (hh:W.heap[b]?=some (.cells cs.toArray 98 (0,0))) (hc:QVp m k d (.agg cs.toArray) W) (hm:m<=2000) (hd0:0<d) (hT:Tab W):Calls prog 107 #[pO b 0] W (zLT W b 98 (CU.agg (fQN (mkRat k d))) (uB true).tS):=by
 have hz:false=decide (d=0):=(zUh oO).symm
 have bk:k.natAbs<BB^m:=by obtain ⟨_,_,_,_,h1,_⟩:=hc;exact h1.bound
 have hred: ∀W u0 u1,Tab W->LV W m u0 k.natAbs->LV W m u1 d->Calls prog 135 #[u0,u1] W (Ret W (wX (qR (k.natAbs / Nat.gcd k.natAbs d)).tS (qR (d / Nat.gcd k.natAbs d)).tS)):=fun W u0 u1 hT h0 h1=>(zMF h0 h1 hm hT).mono fun e w' ⟨v,v',e1,h1,h2,hb⟩=>⟨_,e1,⟨v,v',rfl,h1,h2⟩,hb⟩
 refine zFz b [(0,UF.eq (pO b 0))] [⟨0,98,CU.agg (fQV m k d),b,false⟩] func107 rfl kH (fun q hq=>by simp at hq;subst hq;exact ⟨by simp,rfl⟩) ⟨⟨cs,rfl, .inr (.inr rfl),hh,hc,zBz hc,fun y hy=>by cases hy⟩,trivial⟩ (fun x hx=>by simp at hx;subst hx;simp) fun a s=> ?_
 refine tN ?_
 refine zB 1 ((2, .u (uB false)):: []) hmix s kH
  (oc zG<|zE) fun a w1 s=> ?_
 refine zA rfl ?_
 refine tN ?_
 refine tN ?_
 refine zB 8 ((3, .s (wG b (cg (fQV m k d))))::(4, .Y (fQV m k d))::(5, .X (fQV m k d) 0)::(6, .X (fQV m k d) 2)::(7, .Z (fLV m d))::(8, .Z (qR d))::(9, .s (zOk d))::(10, .u (uB false)):: []) hmix s kH
  (oc zC<|oc (j7 (C:=cg (fQV m k d)))<|oc (zP (C:=cg (fQV m k d)) 0 kH)<|oc (yZ (C:=cg (fQV m k d)) 0 2 kH)<|oc (jI (C:=cg (fQV m k d)) (k:=2) kH (h:=zGy))<|oc (zH zD zOm (fun u0 W hb (h0:LV W m u0 d)=>zNM h0 oO))<|oc (zDx kH iiz)<|oc (zDy hz)<|zE) fun a w2 s=> ?_
 refine zA rfl ?_
 refine StS.cond s false iiz (fun e=>by cases e) (fun e=> ?_)
 refine zBw ?_
 refine tN ?_
 refine zB 10 ((15, .Z (UF.eq (pO b 0)))::(16, .s (wG b (cg (fQV m k d))))::(17, .Y (fQV m k d))::(18, .X (fQV m k d) 0)::(19, .X (fQV m k d) 0)::(20, .Z (fUV m k))::(21, .u (fNV k))::(22, .Z (UF.eq (pO b 0)))::(23, .Z (UF.eq (pO b 0)))::(24, .u (UF.eq (pO b 0))):: []) hmix s kH
  (oc (zC (fun _ _ _ h=>h.1))<|oc zC<|oc (j7 (C:=cg (fQV m k d)))<|oc (zP (C:=cg (fQV m k d)) 0 kH)<|oc (yZ (C:=cg (fQV m k d)) 0 0 kH)<|oc (zS (C:=cg (fQV m k d)) (k:=0) 2 kH (h:=zKy))<|oc (zH zD zRQ (fun u0 W hb (h0:UV W m u0 k)=>zRa h0 oO))<|oc (zBN (a:=⟨b,0,none⟩) iiz)<|oc (jS (b:=b) (o:=0) 0 kH iiz)<|oc (jS (b:=b) (o:=0) 0 kH iiz)<|zE) fun a w3 s=> ?_
 refine jH (c:=0) (o:=0) (kk:=2) (CU.agg (fQM m k d)) ((fNV k).tS) rfl s kH rfl rfl iiz iiz zOR fun a w s=> ?_
 refine zA rfl ?_
 refine tN ?_
 refine yK [0,1,2,8] 15 ((26, .u (UF.eq (pO b 0)))::(27, .u (UF.eq (pO b 0)))::(28, .s (wG b (cg (fQM m k d))))::(29, .Y (fQM m k d))::(30, .X (fQM m k d) 0)::(31, .X (fQM m k d) 0)::(32, .X (fQM m k d) 1)::(33, .Z (qR (k.natAbs)))::(34, .s (wG b (cg (fQM m k d))))::(35, .Y (fQM m k d))::(36, .X (fQM m k d) 0)::(37, .X (fQM m k d) 2)::(38, .Z (fLV m d))::(39, .Z (zBm (qR (k.natAbs / Nat.gcd k.natAbs d)) (qR (d / Nat.gcd k.natAbs d))))::(25, .u (zBm (qR (k.natAbs / Nat.gcd k.natAbs d)) (qR (d / Nat.gcd k.natAbs d)))):: []) hmix s kH
  (oc (zC (fun _ _ _ h=>h.1))<|oc (zC (fun _ _ _ h=>h.1))<|oc zC<|oc (j7 (C:=cg (fQM m k d)))<|oc (zP (C:=cg (fQM m k d)) 0 kH)<|oc (yZ (C:=cg (fQM m k d)) 0 0 kH)<|oc (yZ (C:=cg (fQM m k d)) 0 1 kH)<|oc (jI (C:=cg (fQM m k d)) (k:=1) kH (h:=zQ1))<|oc zC<|oc (j7 (C:=cg (fQM m k d)))<|oc (zP (C:=cg (fQM m k d)) 0 kH)<|oc (yZ (C:=cg (fQM m k d)) 0 2 kH)<|oc (jI (C:=cg (fQM m k d)) (k:=2) kH (h:=zQ0))<|oc (zM zD zRP (fun u0 u1 W hb (h0:qC W u0 (k.natAbs)) (h1:LV W m u1 d)=>hred W u0 u1 (hT.bls hh (zHw hc) (s.gr.trans hb)) (qC.lv h0 bk) h1))<|oc zC<|zE) fun Q' hQ a w4 s=> ?_
 refine zDp (qR (k.natAbs / Nat.gcd k.natAbs d)) rfl s kH (zBr (A:=(qR (k.natAbs / Nat.gcd k.natAbs d)).tS) (B:=(qR (d / Nat.gcd k.natAbs d)).tS) iiz) kH fun a w s=> ?_
 refine zDp (qR (d / Nat.gcd k.natAbs d)) rfl s kH (zBq (A:=(qR (k.natAbs / Nat.gcd k.natAbs d)).tS) (B:=(qR (d / Nat.gcd k.natAbs d)).tS) iiz) kH fun a w s=> ?_
 refine zDp (UF.eq (pO b 0)) rfl s kH (zBN (a:=⟨b,0,none⟩) iiz) kH fun a w s=> ?_
 refine zDp (UF.eq (pO b 0)) rfl s kH (jS (b:=b) (o:=0) 0 kH iiz) kH fun a w s=> ?_
 refine zDp (UF.eq (pO b 0)) rfl s kH (jS (b:=b) (o:=0) 0 kH iiz) kH fun a w s=> ?_
 refine zDp (UF.eq (pO b 1)) rfl s kH (jS (b:=b) (o:=0) 1 kH iiz) kH fun a w s=> ?_
 refine jH (c:=0) (o:=1) (kk:=1) (CU.agg (fQA m (decide (k<0)) (k.natAbs / Nat.gcd k.natAbs d) d)) ((qR (k.natAbs / Nat.gcd k.natAbs d)).tS) rfl s kH rfl rfl iiz iiz zQG fun a w s=> ?_
 refine zDp (UF.eq (pO b 0)) rfl s kH (zBN (a:=⟨b,0,none⟩) iiz) kH fun a w s=> ?_
 refine zDp (UF.eq (pO b 0)) rfl s kH (jS (b:=b) (o:=0) 0 kH iiz) kH fun a w s=> ?_
 refine zDp (UF.eq (pO b 2)) rfl s kH (jS (b:=b) (o:=0) 2 kH iiz) kH fun a w s=> ?_
 refine jH (c:=0) (o:=2) (kk:=1) (CU.agg (fQN (mkRat k d))) ((qR (d / Nat.gcd k.natAbs d)).tS) rfl s kH rfl rfl iiz iiz (zQF (zBP k d hd0).symm (zC9 k d hd0).symm (zCc k d hd0).symm) fun a w s=> ?_
 refine zA rfl (hQ _ _ ?_)
 refine tN ?_
 replace s:=s.drop [2]
 refine zB 1 ((2, .u (uB true)):: []) hmix s kH
  (oc zG<|zE) fun a w5 s=> ?_
 refine zA rfl ?_
 refine tO ?_
 exact vE s (c:=0) (C:=CU.agg (fQN (mkRat k d))) rfl rfl rfl rfl iiz
theorem zEm {W:Wi} {b m:Nat} {k:Int} {d:Nat} {cs:List Wj} (hh:W.heap[b]?=some (.cells cs.toArray 98 (0,0))) (hc:QVp m k d (.agg cs.toArray) W) (hm:m<=2000) (hT:Tab W):Calls prog 107 #[pO b 0] W (zLT W b 98 (CU.agg (fQN (mkRat k d))) (uB (decide (0<d))).tS):=by
 rcases zUa d with h|h
 ·have:=zO0 hh hc hm h
  rw [h,zUK,zUh oO]
  exact this
 ·rw [zUg h]
  exact zO1 hh hc hm h hT
end Go.Proofs.Wd

namespace Go.Proofs.Wd
open Tryz
set_option maxRecDepth 100000
open Go.RowKit Lb
theorem zSx {W:Wi} {m:Nat} {v:Wj} {k:Int} {d:Nat} (h:QVp m k d v W) (hm:m<=2000) (hT:Tab W):Calls prog 102 #[v] W (Ret W (wI W 98 (CU.agg (fQN (mkRat k d))))):=by
 refine yF [(fQV m k d).tS] func102 rfl kH ⟨h,trivial⟩ fun a s=> ?_
 refine tN ?_
 refine zB 0 [] hmix s kH
  zE fun a w1 s=> ?_
 refine qD (CU.agg (fQV m k d)) rfl s kH (fun v W h=>zEp h) fun b1 a w s=> ?_
 refine qN (UF.eq (.pointer none)) rfl s kH iiz fun a w s=> ?_
 refine zA rfl ?_
 refine tN ?_
 refine zB 2 ((4, .Z (fQV m k d))::(5, .u (fQV m k d)):: []) hmix s kH
  (oc (zR (f:=fQV m k d) 3 kH (hz:=zN6 _ _ _))<|oc (zEz (fun u W (hu:QVp m k d u W)=>zR4 hu))<|zE) fun a w2 s=> ?_
 refine qD (CU.agg (fQV m k d)) rfl s kH (fun v W h=>zEp h) fun b6 a w s=> ?_
 refine zSq rfl s kH fun a w s=> ?_
 refine zA rfl ?_
 refine tN ?_
 refine zB 1 ((7, .u (UF.eq (pO b6 0))):: []) hmix s kH
  (oc (zC (fun _ _ _ h=>h.1))<|zE) fun a w3 s=> ?_
 refine zFs (c:=3) (CU.agg (fQN (mkRat k d))) (UF.any) rfl zD zLz s kH rfl rfl iiz (fun cs h1 h2=> ?_) fun a w s=> ?_
 ·exact (zEm h1 h2 hm (hT.below s.gr.below)).mono fun e w' ⟨v,g1,_,g2⟩=>⟨v,g1,trivial,g2⟩
 refine zA rfl ?_
 refine tN ?_
 replace s:=s.drop [2]
 refine zB 2 ((9, .s (wG b6 (cg (fQN (mkRat k d)))))::(2, .u (UF.eq (pO b6 0))):: []) hmix s kH
  (oc zC<|oc (zG (fun _ _ _ h=>h.1))<|zE) fun a w4 s=> ?_
 refine zA rfl ?_
 refine tO ?_
 exact vI s (t:=2) (c:=3) rfl rfl rfl iiz
theorem zM3 {W:Wi} {b b' m m':Nat} {q q':Rat} {cs cs':List Wj} (hh:W.heap[b]?=some (.cells cs.toArray 98 (0,0))) (hc:QNp q (.agg cs.toArray) W) (hh':W.heap[b']?=some (.cells cs'.toArray 98 (0,0))) (hc':QNp q' (.agg cs'.toArray) W) (hne:b'≠b) (hq:QB q m) (hq':QB q' m') (hm:m+m'+1<=2000) (hT:Tab W):Calls prog 78 #[pO b 0,pO b' 0] W (zLT W b 98 (CU.agg (fQN (q+q'))) SF.any):=by
 have bk:Bd (((q).num*((q').den:Int))+((q').num*((q).den:Int))) (m+m'+1):=hq.num_add hq'
 rw [Rat.add_def']
 refine zFz b [(0,UF.eq (pO b 0)),(1,UF.eq (pO b' 0))] [⟨0,98,CU.agg (fQN q),b,false⟩,⟨1,98,CU.agg (fQN q'),b',true⟩] func78 rfl kH (fun x hx=>by simp at hx;rcases hx with rfl|rfl<;>exact ⟨by simp,rfl⟩) ⟨⟨cs,rfl, .inr (.inr rfl),hh,hc,zBz (zHx hc hq),fun y hy=>by simp at hy;subst hy;exact .inl hne⟩,⟨cs',rfl, .inl rfl,hh',hc',zBz (zHx hc' hq'),fun y hy=>by cases hy⟩,trivial⟩ (fun x hx=>by simp at hx;rcases hx with rfl|rfl<;>simp) fun a s=> ?_
 refine tN ?_
 refine yK [0,1,6,14,19] 32 ((4, .Z (UF.eq (pO b 0)))::(5, .s (wG b (cg (fQN q))))::(6, .Y (fQN q))::(7, .X (fQN q) 0)::(8, .X (fQN q) 0)::(9, .Z (fNV ((q).num)))::(10, .s (wG b' (cg (fQN q'))))::(11, .Y (fQN q'))::(12, .X (fQN q') 0)::(13, .X (fQN q') 2)::(14, .Z (qR ((q').den)))::(15, .Z (fNV ((q').den:Int)))::(16, .s (zJm (m+m') [(q).num,((q').den:Int)]))::(17, .Z (fNV ((q).num*((q').den:Int))))::(18, .s (wG b' (cg (fQN q'))))::(19, .Y (fQN q'))::(20, .X (fQN q') 0)::(21, .X (fQN q') 0)::(22, .Z (fNV ((q').num)))::(23, .s (wG b (cg (fQN q))))::(24, .Y (fQN q))::(25, .X (fQN q) 0)::(26, .X (fQN q) 2)::(27, .Z (qR ((q).den)))::(28, .Z (fNV ((q).den:Int)))::(29, .s (zJm (m+m') [(q').num,((q).den:Int)]))::(30, .Z (fNV ((q').num*((q).den:Int))))::(31, .s (zJm (m+m') [((q).num*((q').den:Int)),((q').num*((q).den:Int))]))::(32, .u (fNV (((q).num*((q').den:Int))+((q').num*((q).den:Int)))))::(33, .Z (UF.eq (pO b 0)))::(34, .Z (UF.eq (pO b 0)))::(35, .u (UF.eq (pO b 0))):: []) hmix s kH
  (oc (zC (fun _ _ _ h=>h.1))<|oc zC<|oc (j7 (C:=cg (fQN q)))<|oc (zP (C:=cg (fQN q)) 0 kH)<|oc (yZ (C:=cg (fQN q)) 0 0 kH)<|oc (zS (C:=cg (fQN q)) (k:=0) 2 kH (h:=zAQ))<|oc zC<|oc (j7 (C:=cg (fQN q')))<|oc (zP (C:=cg (fQN q')) 0 kH)<|oc (yZ (C:=cg (fQN q')) 0 2 kH)<|oc (jI (C:=cg (fQN q')) (k:=2) kH (h:=zAC))<|oc (zH zD zIQ (fun u0 W hb (h0:qC W u0 ((q').den))=>zFj h0))<|oc (yC (fun u v W (hu:NV W u ((q).num)) (hv:NV W v ((q').den:Int))=>zAS (NV.uv' hu (Bd.mono (hq).1 (m':=(m+m')) (by first|omega|decide))) (NV.uv' hv (Bd.mono (zAe hq'.2) (m':=(m+m')) (by first|omega|decide)))))<|oc (zH zD zGV (fun u0 W hb (h0:ISV W (m+m') u0 [(q).num,((q').den:Int)])=>zKV (k:=((q).num*((q').den:Int))) h0 (by show (m+m')*2+(m+m')+1<=40000;omega) fM fM))<|oc zC<|oc (j7 (C:=cg (fQN q')))<|oc (zP (C:=cg (fQN q')) 0 kH)<|oc (yZ (C:=cg (fQN q')) 0 0 kH)<|oc (zS (C:=cg (fQN q')) (k:=0) 2 kH (h:=zAQ))<|oc zC<|oc (j7 (C:=cg (fQN q)))<|oc (zP (C:=cg (fQN q)) 0 kH)<|oc (yZ (C:=cg (fQN q)) 0 2 kH)<|oc (jI (C:=cg (fQN q)) (k:=2) kH (h:=zAC))<|oc (zH zD zIQ (fun u0 W hb (h0:qC W u0 ((q).den))=>zFj h0))<|oc (yC (fun u v W (hu:NV W u ((q').num)) (hv:NV W v ((q).den:Int))=>zAS (NV.uv' hu (Bd.mono (hq').1 (m':=(m+m')) (by first|omega|decide))) (NV.uv' hv (Bd.mono (zAe hq.2) (m':=(m+m')) (by first|omega|decide)))))<|oc (zH zD zGV (fun u0 W hb (h0:ISV W (m+m') u0 [(q').num,((q).den:Int)])=>zKV (k:=((q').num*((q).den:Int))) h0 (by show (m+m')*2+(m+m')+1<=40000;omega) fM fM))<|oc (yC (fun u v W (hu:NV W u ((q).num*((q').den:Int))) (hv:NV W v ((q').num*((q).den:Int)))=>zAS (NV.uv' hu (Bd.mono (Bd.mul (hq).1 (zAe hq'.2)) oO)) (NV.uv' hv (Bd.mono (Bd.mul (hq').1 (zAe hq.2)) oO))))<|oc (zH zD zRX (fun u0 W hb (h0:ISV W (m+m') u0 [((q).num*((q').den:Int)),((q').num*((q).den:Int))])=>zTi (k:=(((q).num*((q').den:Int))+((q').num*((q).den:Int)))) h0 oO fM fM))<|oc (zBN (a:=⟨b,0,none⟩) iiz)<|oc (jS (b:=b) (o:=0) 0 kH iiz)<|oc (jS (b:=b) (o:=0) 0 kH iiz)<|zE) fun Q' hQ a w1 s=> ?_
 refine jH (c:=0) (o:=0) (kk:=2) (CU.agg (fQK (((q).num*((q').den:Int))+((q').num*((q).den:Int))) ((q).den))) ((fNV (((q).num*((q').den:Int))+((q').num*((q).den:Int)))).tS) rfl s kH rfl rfl iiz iiz (zHk (k0:=q.num) (d:=q.den)) fun a w s=> ?_
 refine zA rfl (hQ _ _ ?_)
 refine tN ?_
 refine yK [0,1,6] 15 ((36, .Z (UF.eq (pO b 0)))::(37, .s (wG b (cg (fQK (((q).num*((q').den:Int))+((q').num*((q).den:Int))) ((q).den)))))::(38, .Y (fQK (((q).num*((q').den:Int))+((q').num*((q).den:Int))) ((q).den)))::(39, .X (fQK (((q).num*((q').den:Int))+((q').num*((q).den:Int))) ((q).den)) 0)::(40, .X (fQK (((q).num*((q').den:Int))+((q').num*((q).den:Int))) ((q).den)) 2)::(41, .Z (qR ((q).den)))::(42, .s (wG b' (cg (fQN q'))))::(43, .Y (fQN q'))::(44, .X (fQN q') 0)::(45, .X (fQN q') 2)::(46, .Z (qR ((q').den)))::(47, .u (qR (((q).den)*((q').den))))::(48, .Z (UF.eq (pO b 0)))::(49, .Z (UF.eq (pO b 0)))::(50, .u (UF.eq (pO b 2))):: []) hmix s kH
  (oc (zC (fun _ _ _ h=>h.1))<|oc zC<|oc (j7 (C:=cg (fQK (((q).num*((q').den:Int))+((q').num*((q).den:Int))) ((q).den))))<|oc (zP (C:=cg (fQK (((q).num*((q').den:Int))+((q').num*((q).den:Int))) ((q).den))) 0 kH)<|oc (yZ (C:=cg (fQK (((q).num*((q').den:Int))+((q').num*((q).den:Int))) ((q).den))) 0 2 kH)<|oc (jI (C:=cg (fQK (((q).num*((q').den:Int))+((q').num*((q).den:Int))) ((q).den))) (k:=2) kH (h:=zQ3))<|oc zC<|oc (j7 (C:=cg (fQN q')))<|oc (zP (C:=cg (fQN q')) 0 kH)<|oc (yZ (C:=cg (fQN q')) 0 2 kH)<|oc (jI (C:=cg (fQN q')) (k:=2) kH (h:=zAC))<|oc (zM zD zOo (fun u0 u1 W hb (h0:qC W u0 ((q).den)) (h1:qC W u1 ((q').den))=>zRe (LV.mono (qC.lv h0 hq.2) (m':=(m+m')) oO) (LV.mono (qC.lv h1 hq'.2) (m':=(m+m')) oO) oO))<|oc (zBN (a:=⟨b,0,none⟩) iiz)<|oc (jS (b:=b) (o:=0) 0 kH iiz)<|oc (jS (b:=b) (o:=0) 2 kH iiz)<|zE) fun Q' hQ a w2 s=> ?_
 refine jH (c:=0) (o:=2) (kk:=1) (CU.agg (fQK (((q).num*((q').den:Int))+((q').num*((q).den:Int))) (((q).den)*((q').den)))) ((qR (((q).den)*((q').den))).tS) rfl s kH rfl rfl iiz iiz zJZ fun a w s=> ?_
 refine zA rfl (hQ _ _ ?_)
 refine zB 1 ((51, .u (UF.eq (pO b 0))):: []) hmix s kH
  (oc (zC (fun _ _ _ h=>h.1))<|zE) fun a w3 s=> ?_
 refine zFs (c:=0) (CU.agg (fQN (mkRat (((q).num*((q').den:Int))+((q').num*((q).den:Int))) ((q).den*(q').den)))) (UF.any) rfl zD zLz s kH rfl rfl iiz (fun cs h1 h2=> ?_) fun a w s=> ?_
 ·exact (zEm (m:=m+m'+1) h1 (zQ2 h2 bk (tU (hq.den_mul hq') (zF0 yS oO))) oO (hT.bls hh (zHw (zHx hc hq)) s.gr)).mono fun e w' ⟨v,g1,_,g2⟩=>⟨v,g1,trivial,g2⟩
 refine zA rfl ?_
 exact vF s (c:=0) (C:=CU.agg (fQN (mkRat (((q).num*((q').den:Int))+((q').num*((q).den:Int))) ((q).den*(q').den)))) rfl rfl rfl rfl (fun _=>trivial)
theorem zM2 {W:Wi} {b b' m m':Nat} {q q':Rat} {cs cs':List Wj} (hh:W.heap[b]?=some (.cells cs.toArray 98 (0,0))) (hc:QNp q (.agg cs.toArray) W) (hh':W.heap[b']?=some (.cells cs'.toArray 98 (0,0))) (hc':QNp q' (.agg cs'.toArray) W) (hne:b'≠b) (hq:QB q m) (hq':QB q' m') (hm:m+m'+1<=2000) (hT:Tab W):Calls prog 109 #[pO b 0,pO b' 0] W (zLT W b 98 (CU.agg (fQN (q*q'))) SF.any):=by
 have bk:Bd ((q).num*(q').num) (m+m'+1):=(hq.1.mul hq'.1).mono oO
 rw [Rat.mul_def']
 refine zFz b [(0,UF.eq (pO b 0)),(1,UF.eq (pO b' 0))] [⟨0,98,CU.agg (fQN q),b,false⟩,⟨1,98,CU.agg (fQN q'),b',true⟩] func109 rfl kH (fun x hx=>by simp at hx;rcases hx with rfl|rfl<;>exact ⟨by simp,rfl⟩) ⟨⟨cs,rfl, .inr (.inr rfl),hh,hc,zBz (zHx hc hq),fun y hy=>by simp at hy;subst hy;exact .inl hne⟩,⟨cs',rfl, .inl rfl,hh',hc',zBz (zHx hc' hq'),fun y hy=>by cases hy⟩,trivial⟩ (fun x hx=>by simp at hx;rcases hx with rfl|rfl<;>simp) fun a s=> ?_
 refine tN ?_
 refine yK [0,1,2,7,14,19] 28 ((4, .Z (UF.eq (pO b 0)))::(5, .u (UF.eq (pO b 0)))::(6, .s (wG b (cg (fQN q))))::(7, .Y (fQN q))::(8, .X (fQN q) 0)::(9, .X (fQN q) 0)::(10, .Z (fNV ((q).num)))::(11, .s (wG b' (cg (fQN q'))))::(12, .Y (fQN q'))::(13, .X (fQN q') 0)::(14, .X (fQN q') 0)::(15, .Z (fNV ((q').num)))::(16, .s (zJm (m+m') [(q).num,(q').num]))::(17, .u (fNV ((q).num*(q').num)))::(18, .s (wG b (cg (fQN q))))::(19, .Y (fQN q))::(20, .X (fQN q) 0)::(21, .X (fQN q) 2)::(22, .Z (qR ((q).den)))::(23, .s (wG b' (cg (fQN q'))))::(24, .Y (fQN q'))::(25, .X (fQN q') 0)::(26, .X (fQN q') 2)::(27, .Z (qR ((q').den)))::(28, .u (qR (((q).den)*((q').den))))::(29, .Z (UF.eq (pO b 0)))::(30, .Z (UF.eq (pO b 0)))::(31, .u (UF.eq (pO b 0))):: []) hmix s kH
  (oc (zC (fun _ _ _ h=>h.1))<|oc (zC (fun _ _ _ h=>h.1))<|oc zC<|oc (j7 (C:=cg (fQN q)))<|oc (zP (C:=cg (fQN q)) 0 kH)<|oc (yZ (C:=cg (fQN q)) 0 0 kH)<|oc (zS (C:=cg (fQN q)) (k:=0) 2 kH (h:=zAQ))<|oc zC<|oc (j7 (C:=cg (fQN q')))<|oc (zP (C:=cg (fQN q')) 0 kH)<|oc (yZ (C:=cg (fQN q')) 0 0 kH)<|oc (zS (C:=cg (fQN q')) (k:=0) 2 kH (h:=zAQ))<|oc (yC (fun u v W (hu:NV W u ((q).num)) (hv:NV W v ((q').num))=>zAS (NV.uv' hu (Bd.mono (hq).1 (m':=(m+m')) (by first|omega|decide))) (NV.uv' hv (Bd.mono (hq').1 (m':=(m+m')) (by first|omega|decide)))))<|oc (zH zD zGV (fun u0 W hb (h0:ISV W (m+m') u0 [(q).num,(q').num])=>zKV (k:=((q).num*(q').num)) h0 (by show (m+m')*2+(m+m')+1<=40000;omega) fM fM))<|oc zC<|oc (j7 (C:=cg (fQN q)))<|oc (zP (C:=cg (fQN q)) 0 kH)<|oc (yZ (C:=cg (fQN q)) 0 2 kH)<|oc (jI (C:=cg (fQN q)) (k:=2) kH (h:=zAC))<|oc zC<|oc (j7 (C:=cg (fQN q')))<|oc (zP (C:=cg (fQN q')) 0 kH)<|oc (yZ (C:=cg (fQN q')) 0 2 kH)<|oc (jI (C:=cg (fQN q')) (k:=2) kH (h:=zAC))<|oc (zM zD zOo (fun u0 u1 W hb (h0:qC W u0 ((q).den)) (h1:qC W u1 ((q').den))=>zRe (LV.mono (qC.lv h0 hq.2) (m':=(m+m')) oO) (LV.mono (qC.lv h1 hq'.2) (m':=(m+m')) oO) oO))<|oc (zBN (a:=⟨b,0,none⟩) iiz)<|oc (jS (b:=b) (o:=0) 0 kH iiz)<|oc (jS (b:=b) (o:=0) 0 kH iiz)<|zE) fun Q' hQ a w1 s=> ?_
 refine jH (c:=0) (o:=0) (kk:=2) (CU.agg (fQK ((q).num*(q').num) ((q).den))) ((fNV ((q).num*(q').num)).tS) rfl s kH rfl rfl iiz iiz (zHk (k0:=q.num) (d:=q.den)) fun a w s=> ?_
 refine zDp (UF.eq (pO b 0)) rfl s kH (zBN (a:=⟨b,0,none⟩) iiz) kH fun a w s=> ?_
 refine zDp (UF.eq (pO b 0)) rfl s kH (jS (b:=b) (o:=0) 0 kH iiz) kH fun a w s=> ?_
 refine zDp (UF.eq (pO b 2)) rfl s kH (jS (b:=b) (o:=0) 2 kH iiz) kH fun a w s=> ?_
 refine jH (c:=0) (o:=2) (kk:=1) (CU.agg (fQK ((q).num*(q').num) (((q).den)*((q').den)))) ((qR (((q).den)*((q').den))).tS) rfl s kH rfl rfl iiz iiz zJZ fun a w s=> ?_
 refine zA rfl (hQ _ _ ?_)
 refine zB 1 ((35, .u (UF.eq (pO b 0))):: []) hmix s kH
  (oc (zC (fun _ _ _ h=>h.1))<|zE) fun a w2 s=> ?_
 refine zFs (c:=0) (CU.agg (fQN (mkRat ((q).num*(q').num) ((q).den*(q').den)))) (UF.any) rfl zD zLz s kH rfl rfl iiz (fun cs h1 h2=> ?_) fun a w s=> ?_
 ·exact (zEm (m:=m+m'+1) h1 (zQ2 h2 bk (tU (hq.den_mul hq') (zF0 yS oO))) oO (hT.bls hh (zHw (zHx hc hq)) s.gr)).mono fun e w' ⟨v,g1,_,g2⟩=>⟨v,g1,trivial,g2⟩
 refine zA rfl ?_
 exact vF s (c:=0) (C:=CU.agg (fQN (mkRat ((q).num*(q').num) ((q).den*(q').den)))) rfl rfl rfl rfl (fun _=>trivial)
end Go.Proofs.Wd

namespace Go.Proofs.Wd
open Tryz
set_option maxRecDepth 100000
open Go.RowKit Lb
theorem zI5 {W:Wi} {m:Nat} {v:Wj} {q:Rat} (h:RVp m q v W) (hm:m<=2000) (hT:Tab W):Calls prog 102 #[v] W (Ret W (wI W 98 (CU.agg (fQN q)))):=by
 obtain ⟨k,d,h1,rfl⟩:=h
 exact zSx h1 hm hT
theorem zKo {W:Wi} {m:Nat} {v:Wj} {q:Rat} (h:RVp m q v W) (hm:m<=2000) (hm0:0<m) (hT:Tab W):Calls prog 94 #[v] W (Ret W (fQN q).tS):=by
 have hq:QB q m:=h.qb hm0
 refine yF [(fRV m q).tS] func94 rfl kH ⟨h,trivial⟩ fun a s=> ?_
 refine tN ?_
 refine zB 0 [] hmix s kH
  zE fun a w1 s=> ?_
 refine qD (CU.agg (fRV m q)) rfl s kH (fun v W h=>zAZ h) fun b1 a w s=> ?_
 refine yE (CU.len 3) (cs:=zR3) kH rfl s kH (fun W=>rfl) rfl fun b2 a w s=> ?_
 refine zA rfl ?_
 refine tN ?_
 refine zB 5 ((3, .Z (fRV m q))::(4, .s (wI w 98 (CU.agg (fQN q))))::(5, .Y (fQN q))::(6, .X (fQN q) 0)::(7, .u (fQN q)):: []) hmix s kH
  (oc (zR (f:=fRV m q) 3 kH (hz:=jN _ _))<|oc (zH zD zGW (fun u0 W hb (h0:RVp m q u0 W)=>(zI5 h0 oO (hT.below (s.up hb))).mono (wD (zBB hb.size))))<|oc (j7 (C:=cg (fQN q)) zE4)<|oc (zP (C:=cg (fQN q)) 0 kH)<|oc (zS (C:=cg (fQN q)) (k:=0) 3 kH (h:=zIn))<|zE) fun a w2 s=> ?_
 refine zU (CU.agg (fQN q)) ((fQN q).tS) rfl s kH rfl rfl rfl iiz iiz yB fun a w s=> ?_
 refine zA rfl ?_
 refine tO ?_
 exact wJ s (CU.agg (fQN q)) rfl kH rfl rfl (y9 _) (fun cs W h=>h)
theorem zKn {W:Wi} {m:Nat} {v:Wj} {q:Rat} (h:RVp m q v W) (hm:m<=2000) (hm0:0<m) (hT:Tab W):Calls prog 90 #[v] W (Ret W (fI q.num.sign).tS):=by
 have hq:QB q m:=h.qb hm0
 refine yF [(fRV m q).tS] func90 rfl kH ⟨h,trivial⟩ fun a s=> ?_
 refine tN ?_
 refine zB 0 [] hmix s kH
  zE fun a w1 s=> ?_
 refine qD (CU.agg (fRV m q)) rfl s kH (fun v W h=>zAZ h) fun b1 a w s=> ?_
 refine qN (uI 0) rfl s kH iiz fun a w s=> ?_
 refine zA rfl ?_
 refine tN ?_
 replace s:=s.drop [2]
 refine zB 8 ((3, .Z (fRV m q))::(4, .s (wI w 98 (CU.agg (fQN q))))::(5, .Y (fQN q))::(6, .X (fQN q) 0)::(7, .X (fQN q) 0)::(8, .Z (fNV ((q).num)))::(9, .Z (uI (q.num.sign)))::(2, .u (uI (q.num.sign))):: []) hmix s kH
  (oc (zR (f:=fRV m q) 3 kH (hz:=jN _ _))<|oc (zH zD zGW (fun u0 W hb (h0:RVp m q u0 W)=>(zI5 h0 oO (hT.below (s.up hb))).mono (wD (zBB hb.size))))<|oc (j7 (C:=cg (fQN q)) zE4)<|oc (zP (C:=cg (fQN q)) 0 kH)<|oc (yZ (C:=cg (fQN q)) 0 0 kH)<|oc (zS (C:=cg (fQN q)) (k:=0) 2 kH (h:=zAQ))<|oc (zH zD zRU (fun u0 W hb (h0:NV W u0 ((q).num))=>zD5 (zQJ (NV.uv' h0 (hq).1) oO)))<|oc zG<|zE) fun a w2 s=> ?_
 refine zA rfl ?_
 refine tO ?_
 exact wF s (t:=2) rfl iiz
theorem zN1 {W:Wi} {m:Nat} {v v':Wj} {q q':Rat} (h:RVp m q v W) (h':RVp m q' v' W) (hm:m<=2000) (hm0:0<m) (hT:Tab W):Calls prog 123 #[v,v'] W (Ret W (fI (qsg q q')).tS):=by
 have hq:QB q m:=h.qb hm0
 have hq':QB q' m:=h'.qb hm0
 refine yF [(fRV m q).tS,(fRV m q').tS] func123 rfl kH ⟨h,h',trivial⟩ fun a s=> ?_
 refine tN ?_
 refine zB 0 [] hmix s kH
  zE fun a w1 s=> ?_
 refine qD (CU.agg (fRV m q)) rfl s kH (fun v W h=>zAZ h) fun b2 a w s=> ?_
 refine qD (CU.agg (fRV m q')) rfl s kH (fun v W h=>zAZ h) fun b3 a w s=> ?_
 refine qN (uI 0) rfl s kH iiz fun a w s=> ?_
 refine zA rfl ?_
 refine tN ?_
 have so:=s.old;have sg:=s.gr
 refine yD 6 ((7, .Z (fRV m q))::(8, .s (wI w 98 (CU.agg (fQN q))))::(9, .Z (fRV m q'))::(10, .s (wI w 98 (CU.agg (fQN q'))))::(5, .s (wI w 98 (CU.agg (fQN q))))::(6, .s (wI w 98 (CU.agg (fQN q')))):: []) hmix s kH
  (oc (zR (f:=fRV m q) 3 kH (hz:=jN _ _))<|oc (zH zD zGW (fun u0 W hb (h0:RVp m q u0 W)=>(zI5 h0 oO (hT.below (s.up hb))).mono (wD (zBB hb.size))))<|oc (zR (f:=fRV m q') 3 kH (hz:=jN _ _))<|oc (zH zD zGW (fun u0 W hb (h0:RVp m q' u0 W)=>(zI5 h0 oO (hT.below (s.up hb))).mono (wD (zBB hb.size))))<|oc zG<|oc zG<|zE) fun a w2 s hr=> ?_
 obtain ⟨b5,_,s⟩:=s.adopt true 5 (hr (_,_) mz4) sg (fun y hy=> .inl (so y hy))
 obtain ⟨b6,_,s⟩:=s.adopt true 6 (hr (_,_) mz5) sg (fun y hy=>by rcases zUb.1 hy with rfl|hy;exact .inr ⟨rfl,rfl⟩;exact .inl (so y hy))
 refine zA rfl ?_
 refine tN ?_
 replace s:=s.drop [4]
 refine zB 28 ((11, .s (wG b5 (cg (fQN q))))::(12, .Y (fQN q))::(13, .X (fQN q) 0)::(14, .X (fQN q) 0)::(15, .Z (fNV ((q).num)))::(16, .s (wG b6 (cg (fQN q'))))::(17, .Y (fQN q'))::(18, .X (fQN q') 0)::(19, .X (fQN q') 2)::(20, .Z (qR ((q').den)))::(21, .Z (fNV ((q').den:Int)))::(22, .s (zJm (m+m) [(q).num,((q').den:Int)]))::(23, .Z (fNV ((q).num*((q').den:Int))))::(24, .s (wG b6 (cg (fQN q'))))::(25, .Y (fQN q'))::(26, .X (fQN q') 0)::(27, .X (fQN q') 0)::(28, .Z (fNV ((q').num)))::(29, .s (wG b5 (cg (fQN q))))::(30, .Y (fQN q))::(31, .X (fQN q) 0)::(32, .X (fQN q) 2)::(33, .Z (qR ((q).den)))::(34, .Z (fNV ((q).den:Int)))::(35, .s (zJm (m+m) [(q').num,((q).den:Int)]))::(36, .Z (fNV ((q').num*((q).den:Int))))::(37, .Z (uI (qsg q q')))::(4, .u (uI (qsg q q'))):: []) hmix s kH
  (oc zC<|oc (j7 (C:=cg (fQN q)))<|oc (zP (C:=cg (fQN q)) 0 kH)<|oc (yZ (C:=cg (fQN q)) 0 0 kH)<|oc (zS (C:=cg (fQN q)) (k:=0) 2 kH (h:=zAQ))<|oc zC<|oc (j7 (C:=cg (fQN q')))<|oc (zP (C:=cg (fQN q')) 0 kH)<|oc (yZ (C:=cg (fQN q')) 0 2 kH)<|oc (jI (C:=cg (fQN q')) (k:=2) kH (h:=zAC))<|oc (zH zD zIQ (fun u0 W hb (h0:qC W u0 ((q').den))=>zFj h0))<|oc (yC (fun u v W (hu:NV W u ((q).num)) (hv:NV W v ((q').den:Int))=>zAS (NV.uv' hu (Bd.mono (hq).1 (m':=(m+m)) (by first|omega|decide))) (NV.uv' hv (Bd.mono (zAe hq'.2) (m':=(m+m)) (by first|omega|decide)))))<|oc (zH zD zGV (fun u0 W hb (h0:ISV W (m+m) u0 [(q).num,((q').den:Int)])=>zKV (k:=((q).num*((q').den:Int))) h0 (by show (m+m)*2+(m+m)+1<=40000;omega) fM fM))<|oc zC<|oc (j7 (C:=cg (fQN q')))<|oc (zP (C:=cg (fQN q')) 0 kH)<|oc (yZ (C:=cg (fQN q')) 0 0 kH)<|oc (zS (C:=cg (fQN q')) (k:=0) 2 kH (h:=zAQ))<|oc zC<|oc (j7 (C:=cg (fQN q)))<|oc (zP (C:=cg (fQN q)) 0 kH)<|oc (yZ (C:=cg (fQN q)) 0 2 kH)<|oc (jI (C:=cg (fQN q)) (k:=2) kH (h:=zAC))<|oc (zH zD zIQ (fun u0 W hb (h0:qC W u0 ((q).den))=>zFj h0))<|oc (yC (fun u v W (hu:NV W u ((q').num)) (hv:NV W v ((q).den:Int))=>zAS (NV.uv' hu (Bd.mono (hq').1 (m':=(m+m)) (by first|omega|decide))) (NV.uv' hv (Bd.mono (zAe hq.2) (m':=(m+m)) (by first|omega|decide)))))<|oc (zH zD zGV (fun u0 W hb (h0:ISV W (m+m) u0 [(q').num,((q).den:Int)])=>zKV (k:=((q').num*((q).den:Int))) h0 (by show (m+m)*2+(m+m)+1<=40000;omega) fM fM))<|oc (zM zD zRN (fun u0 u1 W hb (h0:NV W u0 ((q).num*((q').den:Int))) (h1:NV W u1 ((q').num*((q).den:Int)))=>zD5 (zTe (NV.uv' h0 (Bd.mul (hq).1 (zAe hq'.2))) (NV.uv' h1 (Bd.mul (hq').1 (zAe hq.2))) oO)))<|oc zG<|zE) fun a w3 s=> ?_
 refine zA rfl ?_
 refine tO ?_
 exact wF s (t:=4) rfl iiz
theorem zQT {W:Wi} {m:Nat} {v:Wj} {q:Rat} (h:RVp m q v W) (hm:m<=2000) (hm0:0<m) (hT:Tab W):Calls prog 108 #[v] W (Ret W (fQN (-q)).tS):=by
 have hq:QB q m:=h.qb hm0
 refine yF [(fRV m q).tS] func108 rfl kH ⟨h,trivial⟩ fun a s=> ?_
 refine tN ?_
 refine zB 0 [] hmix s kH
  zE fun a w1 s=> ?_
 refine qD (CU.agg (fRV m q)) rfl s kH (fun v W h=>zAZ h) fun b1 a w s=> ?_
 refine yE (CU.len 3) (cs:=zR3) kH rfl s kH (fun W=>rfl) rfl fun b2 a w s=> ?_
 refine zA rfl ?_
 refine tN ?_
 have so:=s.old;have sg:=s.gr
 refine yD 3 ((4, .Z (fRV m q))::(5, .s (wI w 98 (CU.agg (fQN q))))::(3, .s (wI w 98 (CU.agg (fQN q)))):: []) hmix s kH
  (oc (zR (f:=fRV m q) 3 kH (hz:=jN _ _))<|oc (zH zD zGW (fun u0 W hb (h0:RVp m q u0 W)=>(zI5 h0 oO (hT.below (s.up hb))).mono (wD (zBB hb.size))))<|oc zG<|zE) fun a w2 s hr=> ?_
 obtain ⟨b3,_,s⟩:=s.adopt false 3 (hr (_,_) mz2) sg (fun y hy=> .inl (so y hy))
 refine zA rfl ?_
 refine tN ?_
 refine zB 10 ((6, .Z (UF.eq (pO b3 0)))::(7, .s (wG b3 (cg (fQN q))))::(8, .Y (fQN q))::(9, .X (fQN q) 0)::(10, .X (fQN q) 0)::(11, .Z (fNV ((q).num)))::(12, .u (fNV (-(q).num)))::(13, .Z (UF.eq (pO b3 0)))::(14, .Z (UF.eq (pO b3 0)))::(15, .u (UF.eq (pO b3 0))):: []) hmix s kH
  (oc (zC (fun _ _ _ h=>h.1))<|oc zC<|oc (j7 (C:=cg (fQN q)))<|oc (zP (C:=cg (fQN q)) 0 kH)<|oc (yZ (C:=cg (fQN q)) 0 0 kH)<|oc (zS (C:=cg (fQN q)) (k:=0) 2 kH (h:=zAQ))<|oc (zH zD zRO (fun u0 W hb (h0:NV W u0 ((q).num))=>zSC (NV.uv' h0 (hq).1) oO))<|oc (zBN (a:=⟨b3,0,none⟩) iiz)<|oc (jS (b:=b3) (o:=0) 0 kH iiz)<|oc (jS (b:=b3) (o:=0) 0 kH iiz)<|zE) fun a w3 s=> ?_
 refine jH (c:=3) (o:=0) (kk:=2) (CU.agg (fQN (-q))) ((fNV (-(q).num)).tS) rfl s kH rfl rfl iiz iiz (zHk (k0:=q.num) (d:=q.den)) fun a w s=> ?_
 refine zA rfl ?_
 refine tN ?_
 refine zB 4 ((16, .s (wG b3 (cg (fQN (-q)))))::(17, .Y (fQN (-q)))::(18, .X (fQN (-q)) 0)::(19, .u (fQN (-q))):: []) hmix s kH
  (oc zC<|oc (j7 (C:=cg (fQN (-q))))<|oc (zP (C:=cg (fQN (-q))) 0 kH)<|oc (zS (C:=cg (fQN (-q))) (k:=0) 3 kH (h:=zIn))<|zE) fun a w4 s=> ?_
 refine zU (CU.agg (fQN (-q))) ((fQN (-q)).tS) rfl s kH rfl rfl rfl iiz iiz yB fun a w s=> ?_
 refine zA rfl ?_
 refine tO ?_
 exact wJ s (CU.agg (fQN (-q))) rfl kH rfl rfl (y9 _) (fun cs W h=>h)
end Go.Proofs.Wd

namespace Go.Proofs.Wd
open Tryz
set_option maxRecDepth 100000
set_option maxHeartbeats 1000000
open Go.RowKit Lb
attribute [local go_sem] Oper.semAt_some y5 z7
structure QRd (m:Nat) (w:World) (A:Option Addr) (n:Nat) (qs:List Rat):Prop where
 len:qs.length=n
 cells: ∀i,i<n-> ∃b o c0 c1 c2 q,A=some ⟨b,o,none⟩/\w.cell? ⟨b,o+i*3,none⟩=some c0/\w.cell? ⟨b,o+i*3+1,none⟩=some c1/\w.cell? ⟨b,o+i*3+2,none⟩=some c2/\qs[i]?=some q/\RVp m q (.agg #[c0,c1,c2]) w
theorem RVp.keep {m:Nat} {q:Rat} {v:Wj} {w w':Wi} (h:RVp m q v w) (hk: ∀p:Addr,p.block<w.heap.size->w'.cell? p=w.cell? p):RVp m q v w':=by
 obtain ⟨k,d,⟨b,s,t,e,⟨sg,A,n,c,l,e1,h1,h2⟩,A',n',c',l',e2,h1',h2'⟩,h3⟩:=h
 exact ⟨k,d,⟨b,s,t,e,⟨sg,A,n,c,l,e1,h1.keep hk,h2⟩,A',n',c',l',e2,h1'.keep hk,h2'⟩,h3⟩
theorem QRd.keep {m:Nat} {w w':Wi} {A:Wl Addr} {n:Nat} {qs:List Rat} (h:QRd m w A n qs) (hk: ∀p:Addr,p.block<w.heap.size->w'.cell? p=w.cell? p):QRd m w' A n qs:=
 ⟨h.len,fun i hi=>by
  obtain ⟨b,o,c0,c1,c2,q,e,g0,g1,g2,h1,h2⟩:=h.cells i hi
  exact ⟨b,o,c0,c1,c2,q,e,(hk _ (zUL w _ g0)).trans g0,(hk _ (zUL w _ g1)).trans g1,(hk _ (zUL w _ g2)).trans g2,h1,h2.keep hk⟩⟩
theorem QRd.below {m:Nat} {w w':Wi} {A:Wl Addr} {n:Nat} {qs:List Rat} (h:QRd m w A n qs) (hb:Below w.heap.size w w'):QRd m w' A n qs:=h.keep fun _ hp=>hb.cell hp
theorem RVp.below {m:Nat} {q:Rat} {v:Wj} {w w':Wi} (h:RVp m q v w) (hb:Below w.heap.size w w'):RVp m q v w':=h.keep fun _ hp=>hb.cell hp
def qAt (qs:List Rat) (k:Nat):Rat:=(qs[k]?).getD 0
def zOx (W:Wi) (B:Nat) (q:Rat):Prop:= ∃cs:List Wj,W.heap[B]?=some (.cells cs.toArray 98 (0,0))/\QNp q (.agg cs.toArray) W
theorem QNp.keepU {q:Rat} {v:Wj} {w w':Wi} (h:QNp q v w) (hk:yO w w'):QNp q v w':=(fQN q).us _ _ _ h hk
def zT5 (N0:Nat) (qs:List Rat) (k:Nat) (xs:Array Wj) (W:Wi):Prop:= ∃B,xs=#[pO B 0]/\N0<=B/\zOx W B (qAt qs k)
theorem zIq (A:Wl Addr) (n c:Nat) (w:Wi):
  Calls prog 77 #[.slice A n c] w fun e w'=>e= .returned (.func (.func 101) #[] #[pO w.heap.size 0])/\w'=w.alloc (.cells #[.slice A n c] 73):=by
 go_enter func77,ntmps77
 go_wp2
 go_ret
 exact ⟨rfl,rfl⟩
theorem zSy {W:Wi} {m:Nat} {c0 c1 c2:Wj} {q:Rat} (h:RVp m q (.agg #[c0,c1,c2]) W) (hm:m<=2000) (hT:Tab W):Calls prog 102 #[.agg #[c0,c1,c2]] W fun e w'=> ∃B,e= .returned (pO B 0)/\W.heap.size<=B/\zOx w' B q/\Below W.heap.size W w':=
 (zI5 h hm hT).mono fun _ _ ⟨_,e1,⟨B,cs,e2,h1,h2,h3,_⟩,hb⟩=>⟨B,by rw [e1,e2],h1,⟨cs,h2,h3⟩,hb⟩
theorem zE1 (m:Nat) (hm:m<=2000) (A:Wl Addr) (n c:Nat) (qs:List Rat) (b1:Nat) (w w0:Wi) (h:QRd m w A n qs) (hT:Tab w) (hw0:Below w.heap.size w w0) (hn:n<=c) (hc:c<=9223372036854775807)
  (hc1:w0.cell? ⟨b1,0,none⟩=some (.slice A n c)) {S:Nat->Prop} (hS: ∀b,S b->b<w0.heap.size) (_hS1:S b1) (hSA: ∀b,b<w.heap.size->S b):
  zNE prog 101 #[pO b1 0] (zT5 w0.heap.size qs) n (zEI S) Mk (fun _=>True) w0:=by
 intro lp J W hW hJ hY h0
 have hl1:=zT hc1
 have hw1:=(hW.cell (p:=⟨b1,0,none⟩) hl1).trans hc1
 refine zBe func101 rfl ?_
 simp only [ntmps101,zUs,zUz,zUM,Nat.reduceAdd,Nat.reduceSub,zUN,zUO,zUP,zUQ,zT8,zUR]
 gi_wp2
 gi_loopw [7] (fun i wr=> ∃k:Nat,k<=n/\i= .int .i64 k/\J k wr/\yM S w0 wr/\w0.heap.size<=wr.heap.size) (fun i _=>n - (intOf i).toNat)
 case atStart=>exact ⟨0,tY _,rfl,h0,wR hW hS,hW.size⟩
 case round=>
  obtain ⟨k,hk,rfl,hj,hb,hz⟩:=hrel
  by_cases hkn:k<n
  ·have hkeep: ∀p:Addr,p.block<w.heap.size->wr.cell? p=w.cell? p:=fun p hp=>(hb.cell (hSA _ hp)).trans (hw0.cell hp)
   obtain ⟨b,o,c0,c1,c2,q,rfl,p0,p1,p2,hi,hr⟩:=(h.keep (w':=wr) hkeep).cells k hkn
   have hTr:Tab wr:=fun j hj=>(hkeep ⟨0,j,none⟩ (zT (hT j hj))).trans (hT j hj)
   have hid1:qAt qs k=q:=by simp [qAt,hi]
   have hjk:=hJ k wr
   have hHI:=hid hi
   clear hi
   obtain ⟨sg,A1,n1,d1,A2,n2,d2,rfl,rfl,rfl⟩: ∃sg A1 n1 d1 A2 n2 d2,c0= .bool sg/\c1= .slice A1 n1 d1/\c2= .slice A2 n2 d2:=by
    obtain ⟨k',d',hq,_⟩:=hr
    obtain ⟨sg,A1,n1,d1,A2,n2,d2,e⟩:=zDv hq
    have:=zT9 Array.toList (jT e)
    simp at this
    exact ⟨sg,A1,n1,d1,A2,n2,d2,this.1,this.2.1,this.2.2⟩
   gi_wp2_with (first|(gi_at_call 102;refine CallsIn.mono (callsIn_wide.2 (zSy (hr.below (zBv _ _)) hm (hTr.below (zBv _ _)))) ?_;rintro e w2 ⟨B2,rfl,hB2,hn2,hb2⟩;have hmk:Mk wr w2:=((tR _ wr).alloc lr _).trans (hb2.mono fM);obtain ⟨fn,tmps,assign,body,hy,hR⟩:=hY k w2 #[pO B2 0] hkn (hjk _ hj hmk) ⟨B2,rfl,tS hz (tS fM hB2),by rw [hid1];exact hn2⟩)|(refine hR.mono ?_;rintro e W3 ⟨rfl,hJ3,hk3⟩))
   refine ⟨⟨k+1,by omega,rfl,hJ3,(hb.trans (wR hmk fun b hb=>tU (hS b hb) hz)).trans hk3.1,tS hz (tS hmk.size hk3.2)⟩, ?_⟩
   simp [intOf]
   omega
  ·obtain rfl:k=n:=by omega
   gi_wp2
   go_end0
   exact ⟨⟨_,rfl⟩,hj,trivial⟩
def zCP (qs:List Rat):Nat->Rat
 |0=>0
 |k+1=>zCP qs k+qAt qs k
def qU (qs:List Rat):Nat->Rat
 |0=>1
 |k+1=>qU qs k*qAt qs k
def zQh (w:Wi) (B0 P:Nat) (f:Nat->Rat) (k:Nat) (W:Wi):Prop:=
 zOx W B0 (f k)/\Boxed W P 96 (pO B0 0)/\qT W w.heap.size 28 #[.bool false, .slice none 0 0, .slice none 0 0]/\Below w.heap.size w W/\P+2<=W.heap.size/\w.heap.size<B0
theorem zOx.abide {W W':Wi} {B C:Nat} {q:Rat} {row:Wl Nat} (h:zOx W B q) (hg:W.grownBy W' row) (hr: ∀r,row=some r->C<=r/\ ∃o,W.heap[r]?=some o/\o.isCells=false):zOx W' B q:=by
 obtain ⟨cs,h1,h2⟩:=h
 have hk:yO W W':=fun p x hp=>zFc hp hg hr
 refine ⟨cs,(hg.block _ (zU7.1 h1).1 fun e=> ?_).trans h1,h2.keepU hk⟩
 obtain ⟨_,o,ho,hc⟩:=hr _ e.symm
 rw [h1] at ho
 cases ho
 cases hc
theorem zCW (w:Wi) (B0 P:Nat) (f:Nat->Rat) {C:Nat} (hC:w.heap.size<=C):OwnFrom C (zQh w B0 P f):=by
 rintro k W W' row ⟨h1,h2,h3,h4,h5,h6⟩ hg hr
 exact ⟨h1.abide hg hr,qI h2 hg hr,h3.abide hg hr,zAd h4 hg lr hC hr,tS h5 hg.size,h6⟩
theorem zMJ (m M:Nat) (A:Wl Addr) (n c:Nat) (qs:List Rat) (w:Wi) (h:QRd m w A n qs) (hn:n<=c) (hc:c<=9223372036854775807) (hm:m<=2000) (hm0:0<m) (hM:M+m+1<=2000) (hp: ∀k,k<=n->QB (zCP qs k) M) (hT:Tab w):
  Calls prog 52 #[.slice A n c] w (Ret w (fQN (zCP qs n)).tS):=by
 refine qS func52 rfl ?_
 simp only [ntmps52,zUs,zUz,zUM,Nat.reduceAdd,Nat.reduceSub,zUN,zUO,zUP,zUQ,zT8,zUR]
 go_wp2_with (first|(go_at_call 51;refine (zMB 0 dA).mono ?_;rintro e w1 ⟨v1,rfl,hv1,hb1⟩;obtain ⟨A1,n1,c1,A2,n2,c2,rfl⟩:=zB6 hv1)|(go_at_call 77;refine (zIq A n c _).mono ?_;rintro e w3 ⟨rfl,rfl⟩))
 have hv2:QNp 0 (.agg #[.bool false, .slice A1 n1 c1, .slice A2 n2 c2]) w1:=hv1
 obtain ⟨W0,hW0⟩: ∃W0,(((w1.alloc (.cells #[.bool false, .slice A1 n1 c1, .slice A2 n2 c2] 98)).alloc (.cells #[pO w1.heap.size 0] 96)).alloc (.cells #[.slice A n c] 73))=W0:=⟨_,rfl⟩
 have hsz:W0.heap.size=w1.heap.size+3:=by rw [<-hW0];simp
 have hbw1:Below w.heap.size w w1:=((tR _ w).alloc lr _).trans (hb1.mono fM)
 have hsz1:w.heap.size<w1.heap.size:=tU fM hb1.size
 have hb01:Below w1.heap.size w1 W0:=by rw [<-hW0];exact (((tR _ w1).alloc lr _).alloc fM _).alloc (by simp;omega) _
 have hB1:Below w.heap.size w W0:=hbw1.trans (hb01.mono hbw1.size)
 have x0:zOx W0 w1.heap.size 0:=⟨[_,_,_],(by rw [<-hW0];exact ((qT.new w1 _ #[.bool false, .slice A1 n1 c1, .slice A2 n2 c2]).alloc _).alloc _),hv2.keepU (zL hb01)⟩
 have x1:Boxed W0 (w1.heap.size+1) 96 (pO w1.heap.size 0):=by rw [<-hW0];exact (zAk _ _ _ fM).alloc _
 have x2:Boxed W0 (w1.heap.size+1+1) 73 (.slice A n c):=by rw [<-hW0];exact zAk _ _ _ fM
 have x3:qT W0 w.heap.size 28 #[.bool false, .slice none 0 0, .slice none 0 0]:=(qT.kept (qT.kept (qT.new w _ _) hb1) hb01)
 rw [hW0]
 clear hW0
 have hSb: ∀b,(b<w.heap.size∨b=w1.heap.size+1+1)->b<W0.heap.size:=fun b hb=>by have:=hbw1.size;omega
 refine zBU (gf:=101) rfl (enters_of func101 kH rfl) (zE1 m hm A n c qs (w1.heap.size+1+1) w W0 h hT hB1 hn hc x2.cell (S:=fun b=>b<w.heap.size∨b=w1.heap.size+1+1) hSb (.inr rfl) (fun b hb=> .inl hb)) ?hE ?hps zEI.trans (zFT hSb)
  (zQh w w1.heap.size (w1.heap.size+1) (zCP qs)) (zCW w _ _ _ hB1.size) (zBf (zCW w _ _ _ lr)) wQ (fun _ _ _ _ _ _ _ _=>trivial) ⟨x0,x1,x3,hB1,by omega,hsz1⟩
  (fun xs=>{ tmps:=#[.slice A n c,undef,pO w.heap.size 0, .pointer (some ⟨w1.heap.size+1,0,none⟩),xs.getD 0 undef, .agg #[.bool false, .slice A1 n1 c1, .slice A2 n2 c2], .agg #[.bool false, .slice A1 n1 c1, .slice A2 n2 c2],pO w1.heap.size 0, .slice A n c, .func (.func 101) #[] #[.pointer (some ⟨w1.heap.size+1+1,0,none⟩)],xs.getD 0 undef,undef,undef,undef,undef,undef,undef,undef],defers:= [] }) ?assign ?body ?done
 case hE=>
  rintro k xs W l o o' ⟨B,rfl,h1,h2⟩ ho hc
  exact ⟨B,rfl,h1,h2.abide (C:=0) (grownBy_putObj' W l o') (fun r e=>by cases e;exact ⟨tY _,o,ho,hc⟩)⟩
 case hps=>
  rintro k xs W ⟨B,rfl,_⟩
  rfl
 case assign=>
  rintro lp k xs W K ⟨B,rfl,h1,h2⟩ hK
  gi_wp2
  exact hK
 case body=>
  rintro lp k xs W hk ⟨h1,h2,h3,h4,h5,h6⟩ ⟨B,rfl,hB,hnb⟩
  have hc2:=h2.cell
  have hne:B≠w1.heap.size:=by omega
  have hbd:=hp k (zUA hk)
  have hbd2:QB (qAt qs k) m:=by
   obtain ⟨_,_,_,_,_,q,_,_,_,_,e,hr⟩:=h.cells k hk
   rw [show qAt qs k=q from by simp [qAt,e]]
   exact hr.qb hm0
  have hTW:Tab W:=hT.below h4
  gi_wp2_with (gi_at_call 78;refine CallsIn.mono (callsIn_wide.2 (by
   obtain ⟨cs,g1,g2⟩:=h1
   obtain ⟨cs',g1',g2'⟩:=hnb
   exact zM3 g1 g2 g1' g2' hne hbd hbd2 oO hTW)) ?_;rintro e w3 ⟨u,rfl,_,hg3,cs3,hh3,hc3,_⟩)
  refine ⟨(KeepsOthers.of_grownBy hg3 (fun j o e ho=>by cases e;obtain ⟨cs,g1,_⟩:=h1;rw [g1] at ho;cases ho;rfl)).from _,⟨(yM.refl _ _).grown hg3 (fun b hb=>⟨by have:=h4.size;rcases hb with hb|hb<;>omega,fun e=>by have:=zUi e;omega⟩),hg3.size⟩,⟨cs3,hh3,hc3⟩,h2.kept hg3 (fun e=>by have:=zUi e;omega),(hg3.block _ h3.lt (fun e=>by have:=zUi e;omega)).trans h3,zAx h4 hg3 h4.size oO,tS h5 hg3.size,h6⟩
 case done=>
  rintro D W hD ⟨h1,h2,h3,h4,h5,h6⟩ _ hd
  obtain ⟨cs,hh,hq⟩:=h1
  obtain ⟨A3,n3,c3,A4,n4,c4,ecs⟩:=zB6 hq
  have ecs:=zT9 Array.toList (jT ecs)
  simp at ecs
  subst ecs
  obtain ⟨g0,g1,g2⟩:W.cell? ⟨w1.heap.size,0,none⟩=some (.bool (decide ((zCP qs n).num<0)))/\W.cell? ⟨w1.heap.size,0+1,none⟩=some (.slice A3 n3 c3)/\W.cell? ⟨w1.heap.size,0+2,none⟩=some (.slice A4 n4 c4):=⟨zAK hh 0 _ rfl,zAK hh 1 _ rfl,zAK hh 2 _ rfl⟩
  simp only [Nat.zero_add] at g1 g2
  have hc2:=h2.cell
  have q0:W.cell? ⟨w.heap.size,0,none⟩=some (.bool false):=h3.cell 0
  have q1:W.cell? ⟨w.heap.size,1,none⟩=some (.slice none 0 0):=h3.cell 1
  have q2:W.cell? ⟨w.heap.size,2,none⟩=some (.slice none 0 0):=h3.cell 2
  have q3:=h3.frozen 0;have q4:=h3.frozen 1;have q5:=h3.frozen 2
  go_wp2
  have hb5:qT (((W.setCell ⟨w.heap.size,0,none⟩ (.bool (decide ((zCP qs n).num<0)))).setCell ⟨w.heap.size,1,none⟩ (.slice A3 n3 c3)).setCell ⟨w.heap.size,2,none⟩ (.slice A4 n4 c4)) w.heap.size 28 #[.bool (decide ((zCP qs n).num<0)), .slice A3 n3 c3, .slice A4 n4 c4]:=((h3.set 0 _).set 1 _).set 2 _
  have hM2:Marks w.heap.size (((W.setCell ⟨w.heap.size,0,none⟩ (.bool (decide ((zCP qs n).num<0)))).setCell ⟨w.heap.size,1,none⟩ (.slice A3 n3 c3)).setCell ⟨w.heap.size,2,none⟩ (.slice A4 n4 c4)) [mark D] [D]:=((Marks.nil w.heap.size W).more (D:=D) fM (by have:=hB1.size;omega) hd).others (((zUj _ _ _).trans (zUj _ _ _)).trans (zUj _ _ _))
  have hrow: ∀(W':Wi) (i:Nat) (v u:Wj),W'.cell? ⟨w.heap.size,i,none⟩=some u->zV u=true->yO W' (W'.setCell ⟨w.heap.size,i,none⟩ v):=fun W' i v u hu hn p x hp=>(World.cell?_setCell_other _ _ _ _ (fun e=>by rw [<-e] at hp;rw [hu] at hp;cases hp;cases hn)).trans hp
  have hk3:yO W (((W.setCell ⟨w.heap.size,0,none⟩ (.bool (decide ((zCP qs n).num<0)))).setCell ⟨w.heap.size,1,none⟩ (.slice A3 n3 c3)).setCell ⟨w.heap.size,2,none⟩ (.slice A4 n4 c4)):=((hrow _ _ _ _ q0 rfl).trans (hrow _ _ _ _ ((h3.set 0 _).cell 1) rfl)).trans (hrow _ _ _ _ (((h3.set 0 _).set 1 _).cell 2) rfl)
  have hq3:=hq.keepU hk3
  have hb3:Below w.heap.size w (((W.setCell ⟨w.heap.size,0,none⟩ (.bool (decide ((zCP qs n).num<0)))).setCell ⟨w.heap.size,1,none⟩ (.slice A3 n3 c3)).setCell ⟨w.heap.size,2,none⟩ (.slice A4 n4 c4)):=((h4.setCell lr _).setCell lr _).setCell lr _
  generalize ((W.setCell ⟨w.heap.size,0,none⟩ (.bool (decide ((zCP qs n).num<0)))).setCell ⟨w.heap.size,1,none⟩ (.slice A3 n3 c3)).setCell ⟨w.heap.size,2,none⟩ (.slice A4 n4 c4)=W9 at*
  refine yY _ (v:= .agg #[.bool (decide ((zCP qs n).num<0)), .slice A3 n3 c3, .slice A4 n4 c4]) (fun w' ho'=> ?_) [D] _ _ hM2 (Oth.refl _ _) ?_
  ·have h7:=hb5.oth ho'
   have:=zDV (P:=prog) (w:=w') (t:=28) (k:=3) kH (vs:= [.bool (decide ((zCP qs n).num<0)), .slice A3 n3 c3, .slice A4 n4 c4]) rfl h7
   simp [results,results52,asAddr,this]
  ·intro w' ho
   exact ⟨_,rfl,hq3.keepU (fun p x hp=>(ho.cell p).trans hp),jQ hb3 ho lr⟩
theorem zMI (m M:Nat) (A:Wl Addr) (n c:Nat) (qs:List Rat) (w:Wi) (h:QRd m w A n qs) (hn:n<=c) (hc:c<=9223372036854775807) (hm:m<=2000) (hm0:0<m) (hM:M+m+1<=2000) (hp: ∀k,k<=n->QB (qU qs k) M) (hT:Tab w):
  Calls prog 80 #[.slice A n c] w (Ret w (fQN (qU qs n)).tS):=by
 refine qS func80 rfl ?_
 simp only [ntmps80,zUs,zUz,zUM,Nat.reduceAdd,Nat.reduceSub,zUN,zUO,zUP,zUQ,zT8,zUR]
 go_wp2_with (first|(go_at_call 51;refine (zMB 1 dA).mono ?_;rintro e w1 ⟨v1,rfl,hv1,hb1⟩;obtain ⟨A1,n1,c1,A2,n2,c2,rfl⟩:=zB6 hv1)|(go_at_call 77;refine (zIq A n c _).mono ?_;rintro e w3 ⟨rfl,rfl⟩))
 have hv2:QNp 1 (.agg #[.bool false, .slice A1 n1 c1, .slice A2 n2 c2]) w1:=hv1
 obtain ⟨W0,hW0⟩: ∃W0,(((w1.alloc (.cells #[.bool false, .slice A1 n1 c1, .slice A2 n2 c2] 98)).alloc (.cells #[pO w1.heap.size 0] 96)).alloc (.cells #[.slice A n c] 73))=W0:=⟨_,rfl⟩
 have hsz:W0.heap.size=w1.heap.size+3:=by rw [<-hW0];simp
 have hbw1:Below w.heap.size w w1:=((tR _ w).alloc lr _).trans (hb1.mono fM)
 have hsz1:w.heap.size<w1.heap.size:=tU fM hb1.size
 have hb01:Below w1.heap.size w1 W0:=by rw [<-hW0];exact (((tR _ w1).alloc lr _).alloc fM _).alloc (by simp;omega) _
 have hB1:Below w.heap.size w W0:=hbw1.trans (hb01.mono hbw1.size)
 have x0:zOx W0 w1.heap.size 1:=⟨[_,_,_],(by rw [<-hW0];exact ((qT.new w1 _ #[.bool false, .slice A1 n1 c1, .slice A2 n2 c2]).alloc _).alloc _),hv2.keepU (zL hb01)⟩
 have x1:Boxed W0 (w1.heap.size+1) 96 (pO w1.heap.size 0):=by rw [<-hW0];exact (zAk _ _ _ fM).alloc _
 have x2:Boxed W0 (w1.heap.size+1+1) 73 (.slice A n c):=by rw [<-hW0];exact zAk _ _ _ fM
 have x3:qT W0 w.heap.size 28 #[.bool false, .slice none 0 0, .slice none 0 0]:=(qT.kept (qT.kept (qT.new w _ _) hb1) hb01)
 rw [hW0]
 clear hW0
 have hSb: ∀b,(b<w.heap.size∨b=w1.heap.size+1+1)->b<W0.heap.size:=fun b hb=>by have:=hbw1.size;omega
 refine zBU (gf:=101) rfl (enters_of func101 kH rfl) (zE1 m hm A n c qs (w1.heap.size+1+1) w W0 h hT hB1 hn hc x2.cell (S:=fun b=>b<w.heap.size∨b=w1.heap.size+1+1) hSb (.inr rfl) (fun b hb=> .inl hb)) ?hE ?hps zEI.trans (zFT hSb)
  (zQh w w1.heap.size (w1.heap.size+1) (qU qs)) (zCW w _ _ _ hB1.size) (zBf (zCW w _ _ _ lr)) wQ (fun _ _ _ _ _ _ _ _=>trivial) ⟨x0,x1,x3,hB1,by omega,hsz1⟩
  (fun xs=>{ tmps:=#[.slice A n c,undef,pO w.heap.size 0, .pointer (some ⟨w1.heap.size+1,0,none⟩),xs.getD 0 undef, .agg #[.bool false, .slice A1 n1 c1, .slice A2 n2 c2], .agg #[.bool false, .slice A1 n1 c1, .slice A2 n2 c2],pO w1.heap.size 0, .slice A n c, .func (.func 101) #[] #[.pointer (some ⟨w1.heap.size+1+1,0,none⟩)],xs.getD 0 undef,undef,undef,undef,undef,undef,undef,undef],defers:= [] }) ?assign ?body ?done
 case hE=>
  rintro k xs W l o o' ⟨B,rfl,h1,h2⟩ ho hc
  exact ⟨B,rfl,h1,h2.abide (C:=0) (grownBy_putObj' W l o') (fun r e=>by cases e;exact ⟨tY _,o,ho,hc⟩)⟩
 case hps=>
  rintro k xs W ⟨B,rfl,_⟩
  rfl
 case assign=>
  rintro lp k xs W K ⟨B,rfl,h1,h2⟩ hK
  gi_wp2
  exact hK
 case body=>
  rintro lp k xs W hk ⟨h1,h2,h3,h4,h5,h6⟩ ⟨B,rfl,hB,hnb⟩
  have hc2:=h2.cell
  have hne:B≠w1.heap.size:=by omega
  have hbd:=hp k (zUA hk)
  have hbd2:QB (qAt qs k) m:=by
   obtain ⟨_,_,_,_,_,q,_,_,_,_,e,hr⟩:=h.cells k hk
   rw [show qAt qs k=q from by simp [qAt,e]]
   exact hr.qb hm0
  have hTW:Tab W:=hT.below h4
  gi_wp2_with (gi_at_call 109;refine CallsIn.mono (callsIn_wide.2 (by
   obtain ⟨cs,g1,g2⟩:=h1
   obtain ⟨cs',g1',g2'⟩:=hnb
   exact zM2 g1 g2 g1' g2' hne hbd hbd2 oO hTW)) ?_;rintro e w3 ⟨u,rfl,_,hg3,cs3,hh3,hc3,_⟩)
  refine ⟨(KeepsOthers.of_grownBy hg3 (fun j o e ho=>by cases e;obtain ⟨cs,g1,_⟩:=h1;rw [g1] at ho;cases ho;rfl)).from _,⟨(yM.refl _ _).grown hg3 (fun b hb=>⟨by have:=h4.size;rcases hb with hb|hb<;>omega,fun e=>by have:=zUi e;omega⟩),hg3.size⟩,⟨cs3,hh3,hc3⟩,h2.kept hg3 (fun e=>by have:=zUi e;omega),(hg3.block _ h3.lt (fun e=>by have:=zUi e;omega)).trans h3,zAx h4 hg3 h4.size oO,tS h5 hg3.size,h6⟩
 case done=>
  rintro D W hD ⟨h1,h2,h3,h4,h5,h6⟩ _ hd
  obtain ⟨cs,hh,hq⟩:=h1
  obtain ⟨A3,n3,c3,A4,n4,c4,ecs⟩:=zB6 hq
  have ecs:=zT9 Array.toList (jT ecs)
  simp at ecs
  subst ecs
  obtain ⟨g0,g1,g2⟩:W.cell? ⟨w1.heap.size,0,none⟩=some (.bool (decide ((qU qs n).num<0)))/\W.cell? ⟨w1.heap.size,0+1,none⟩=some (.slice A3 n3 c3)/\W.cell? ⟨w1.heap.size,0+2,none⟩=some (.slice A4 n4 c4):=⟨zAK hh 0 _ rfl,zAK hh 1 _ rfl,zAK hh 2 _ rfl⟩
  simp only [Nat.zero_add] at g1 g2
  have hc2:=h2.cell
  have q0:W.cell? ⟨w.heap.size,0,none⟩=some (.bool false):=h3.cell 0
  have q1:W.cell? ⟨w.heap.size,1,none⟩=some (.slice none 0 0):=h3.cell 1
  have q2:W.cell? ⟨w.heap.size,2,none⟩=some (.slice none 0 0):=h3.cell 2
  have q3:=h3.frozen 0;have q4:=h3.frozen 1;have q5:=h3.frozen 2
  go_wp2
  have hb5:qT (((W.setCell ⟨w.heap.size,0,none⟩ (.bool (decide ((qU qs n).num<0)))).setCell ⟨w.heap.size,1,none⟩ (.slice A3 n3 c3)).setCell ⟨w.heap.size,2,none⟩ (.slice A4 n4 c4)) w.heap.size 28 #[.bool (decide ((qU qs n).num<0)), .slice A3 n3 c3, .slice A4 n4 c4]:=((h3.set 0 _).set 1 _).set 2 _
  have hM2:Marks w.heap.size (((W.setCell ⟨w.heap.size,0,none⟩ (.bool (decide ((qU qs n).num<0)))).setCell ⟨w.heap.size,1,none⟩ (.slice A3 n3 c3)).setCell ⟨w.heap.size,2,none⟩ (.slice A4 n4 c4)) [mark D] [D]:=((Marks.nil w.heap.size W).more (D:=D) fM (by have:=hB1.size;omega) hd).others (((zUj _ _ _).trans (zUj _ _ _)).trans (zUj _ _ _))
  have hrow: ∀(W':Wi) (i:Nat) (v u:Wj),W'.cell? ⟨w.heap.size,i,none⟩=some u->zV u=true->yO W' (W'.setCell ⟨w.heap.size,i,none⟩ v):=fun W' i v u hu hn p x hp=>(World.cell?_setCell_other _ _ _ _ (fun e=>by rw [<-e] at hp;rw [hu] at hp;cases hp;cases hn)).trans hp
  have hk3:yO W (((W.setCell ⟨w.heap.size,0,none⟩ (.bool (decide ((qU qs n).num<0)))).setCell ⟨w.heap.size,1,none⟩ (.slice A3 n3 c3)).setCell ⟨w.heap.size,2,none⟩ (.slice A4 n4 c4)):=((hrow _ _ _ _ q0 rfl).trans (hrow _ _ _ _ ((h3.set 0 _).cell 1) rfl)).trans (hrow _ _ _ _ (((h3.set 0 _).set 1 _).cell 2) rfl)
  have hq3:=hq.keepU hk3
  have hb3:Below w.heap.size w (((W.setCell ⟨w.heap.size,0,none⟩ (.bool (decide ((qU qs n).num<0)))).setCell ⟨w.heap.size,1,none⟩ (.slice A3 n3 c3)).setCell ⟨w.heap.size,2,none⟩ (.slice A4 n4 c4)):=((h4.setCell lr _).setCell lr _).setCell lr _
  generalize ((W.setCell ⟨w.heap.size,0,none⟩ (.bool (decide ((qU qs n).num<0)))).setCell ⟨w.heap.size,1,none⟩ (.slice A3 n3 c3)).setCell ⟨w.heap.size,2,none⟩ (.slice A4 n4 c4)=W9 at*
  refine yY _ (v:= .agg #[.bool (decide ((qU qs n).num<0)), .slice A3 n3 c3, .slice A4 n4 c4]) (fun w' ho'=> ?_) [D] _ _ hM2 (Oth.refl _ _) ?_
  ·have h7:=hb5.oth ho'
   have:=zDV (P:=prog) (w:=w') (t:=28) (k:=3) kH (vs:= [.bool (decide ((qU qs n).num<0)), .slice A3 n3 c3, .slice A4 n4 c4]) rfl h7
   simp [results,results80,asAddr,this]
  ·intro w' ho
   exact ⟨_,rfl,hq3.keepU (fun p x hp=>(ho.cell p).trans hp),jQ hb3 ho lr⟩
def fQS (m:Nat) (qs:List Rat):SF:=⟨fun v W=> ∃A c,v= .slice A qs.length c/\qs.length<=c/\c<=9223372036854775807/\QRd m W A qs.length qs,fun _ _ _ ⟨A,c,h1,h2,h3,h4⟩ hb=>⟨A,c,h1,h2,h3,h4.below hb⟩⟩
theorem zNX (s s':Bool) (A A' D D':Wl Addr) (n n' c c' i i' j j':Nat):z9 prog 73 2 [(0, .agg #[.bool s, .slice A n c, .slice D i j]),(1, .agg #[.bool s', .slice A' n' c', .slice D' i' j'])]=some (28,#[.bool s, .slice A n c, .slice D i j, .bool s', .slice A' n' c', .slice D' i' j']):=by kernel_rfl
theorem zEh {u v:Wj} {W:Wi} {m:Nat} {p q:Rat} (hu:RVp m p u W) (hv:RVp m q v W): ∃e cs,z9 prog 73 2 [(0,u),(1,v)]=some (e,cs)/\(fQS m [p,q]).p (.slice (some ⟨W.heap.size,0,none⟩) 2 2) (W.alloc (.cells cs e)):=by
 obtain ⟨k,d,h1,h2⟩:=id hu
 obtain ⟨k',d',h1',h2'⟩:=id hv
 obtain ⟨s,A,n,c,D,i,j,rfl⟩:=zDv h1
 obtain ⟨s',A',n',c',D',i',j',rfl⟩:=zDv h1'
 refine ⟨_,_,zNX s s' A A' D D' n n' c c' i i' j j',some ⟨W.heap.size,0,none⟩,2,rfl,tT _,by decide,rfl,fun x hx=> ?_⟩
 have hb:=zBv W (.cells #[.bool s, .slice A n c, .slice D i j, .bool s', .slice A' n' c', .slice D' i' j'] 28)
 rcases (by simp at hx;omega:x=0∨x=1) with rfl|rfl
 ·exact ⟨_,0,_,_,_,p,rfl,zAW W _ _ 0 _ rfl,zAW W _ _ 1 _ rfl,zAW W _ _ 2 _ rfl,rfl,hu.below hb⟩
 ·exact ⟨_,0,_,_,_,q,rfl,zAW W _ _ 3 _ rfl,zAW W _ _ 4 _ rfl,zAW W _ _ 5 _ rfl,rfl,hv.below hb⟩
theorem zQS {W:Wi} {m:Nat} {v:Wj} {qs:List Rat} (M:Nat) (h:(fQS m qs).p v W) (hm0:0<m) (hM:M+m+1<=2000) (hp: ∀k,k<=qs.length->QB (zCP qs k) M) (hT:Tab W):Calls prog 52 #[v] W (Ret W (fQN (zCP qs qs.length)).tS):=by
 obtain ⟨A,c,rfl,h1,h2,h3⟩:=h
 exact zMJ m M A qs.length c qs W h3 h1 h2 oO hm0 hM hp hT
theorem zO2 {W:Wi} {m:Nat} {v:Wj} {qs:List Rat} (M:Nat) (h:(fQS m qs).p v W) (hm0:0<m) (hM:M+m+1<=2000) (hp: ∀k,k<=qs.length->QB (qU qs k) M) (hT:Tab W):Calls prog 80 #[v] W (Ret W (fQN (qU qs qs.length)).tS):=by
 obtain ⟨A,c,rfl,h1,h2,h3⟩:=h
 exact zMI m M A qs.length c qs W h3 h1 h2 oO hm0 hM hp hT
theorem QB.zero {m:Nat} (hm:0<m):QB 0 m:=⟨Nat.pow_pos yS,zC3 hm⟩
theorem QB.one {m:Nat} (hm:0<m):QB 1 m:=⟨zC3 hm,zC3 hm⟩
theorem zPp (p q:Rat):zCP [p,q] 2=p+q:=by
 show (0+p)+q=_
 rw [Rat.zero_add]
theorem zKz (p q:Rat):qU [p,q] 2=p*q:=by
 show (1*p)*q=_
 rw [zUB]
theorem zHt {W:Wi} {m:Nat} {v:Wj} {p q:Rat} (h:(fQS m [p,q]).p v W) (hp:QB p m) (hq:QB q m) (hm:3*m+2<=2000) (hT:Tab W):Calls prog 52 #[v] W (Ret W (fQN (p+q)).tS):=by
 have:=zQS (m+m+1) h hp.pos oO (fun k hk=>by
  rcases (by simp at hk;omega:k=0∨k=1∨k=2) with rfl|rfl|rfl
  ·exact QB.zero oO
  ·show QB (0+p) _
   rw [Rat.zero_add]
   exact hp.mono oO
  ·rw [zPp]
   exact hp.add hq) hT
 rw [show ([p,q]:List Rat).length=2 from rfl,zPp] at this
 exact this
theorem zKg {W:Wi} {m:Nat} {v:Wj} {p q:Rat} (h:(fQS m [p,q]).p v W) (hp:QB p m) (hq:QB q m) (hm:3*m+2<=2000) (hT:Tab W):Calls prog 80 #[v] W (Ret W (fQN (p*q)).tS):=by
 have:=zO2 (m+m) h hp.pos oO (fun k hk=>by
  have:=hp.pos
  rcases (by simp at hk;omega:k=0∨k=1∨k=2) with rfl|rfl|rfl
  ·exact QB.one oO
  ·show QB (1*p) _
   rw [zUB]
   exact hp.mono oO
  ·rw [zKz]
   exact hp.mul hq) hT
 rw [show ([p,q]:List Rat).length=2 from rfl,zKz] at this
 exact this
end Go.Proofs.Wd

namespace Go.Proofs.Wd
open Tryz
set_option maxRecDepth 100000
open Go.RowKit Lb
theorem zO8 (p q:Rat):mkRat ((p).num*(if decide ((q).num<0) then -((q).den:Int) else ((q).den:Int))) ((p).den*(q).num.natAbs)=p / q:=by
 have hp:p=(p.num:Rat) / (p.den:Rat):=by
  have:=Rat.mkRat_self p
  rw [Rat.mkRat_eq_div] at this
  exact this.symm
 have hq:q⁻¹=mkRat (if decide (q.num<0) then -(q.den:Int) else (q.den:Int)) q.num.natAbs:=by
  rw [Rat.inv_def]
  by_cases h:q.num<0
  ·rw [zUg h,if_pos rfl, <-Rat.divInt_ofNat, <-Rat.divInt_neg']
   congr 1
   omega
  ·rw [zUh h,if_neg dA, <-Rat.divInt_ofNat]
   congr 1
   omega
 rw [Rat.div_def,hq]
 conv=>rhs;rw [<-Rat.mkRat_self p]
 rw [Rat.mkRat_mul_mkRat]
theorem zN0 {W:Wi} {m:Nat} {v v':Wj} {q q':Rat} (h:RVp m q v W) (h':RVp m q' v' W) (hm:m<=650) (hm0:0<m) (hT:Tab W):Calls prog 79 #[v,v'] W (Ret W (fQN (q - q')).tS):=by
 have hq:QB q m:=h.qb hm0
 have hq':QB q' m:=h'.qb hm0
 refine yF [(fRV m q).tS,(fRV m q').tS] func79 rfl kH ⟨h,h',trivial⟩ fun a s=> ?_
 refine tN ?_
 refine zB 0 [] hmix s kH
  zE fun a w1 s=> ?_
 refine qD (CU.agg (fRV m q)) rfl s kH (fun v W h=>zAZ h) fun b2 a w s=> ?_
 refine qD (CU.agg (fRV m q')) rfl s kH (fun v W h=>zAZ h) fun b3 a w s=> ?_
 refine yE (CU.len 3) (cs:=zR3) kH rfl s kH (fun W=>rfl) rfl fun b4 a w s=> ?_
 refine zA rfl ?_
 refine tN ?_
 refine yK [] 5 ((5, .Z (fRV m q))::(6, .Z (fRV m q'))::(7, .Z (fQN (-q')))::(8, .s (fQS m [q,(-q')]))::(9, .u (fQN (q+ -q'))):: []) hmix s kH
  (oc (zR (f:=fRV m q) 3 kH (hz:=jN _ _))<|oc (zR (f:=fRV m q') 3 kH (hz:=jN _ _))<|oc (zH zD zRW (fun u0 W hb (h0:RVp m q' u0 W)=>zQT h0 oO hm0 (hT.below (s.up hb))))<|oc (yC (fun u v W (hu:RVp m q u W) (hv:QNp (-q') v W)=>zEh hu (wH hv hq'.neg)))<|oc (zH zD zPY (fun u0 W hb (h0:(fQS m [q,(-q')]).p u0 W)=>zHt h0 hq hq'.neg oO (hT.below (s.up hb))))<|zE) fun Q' hQ a w2 s=> ?_
 refine zU (CU.agg (fQN (q+ -q'))) ((fQN (q+ -q')).tS) rfl s kH rfl rfl rfl iiz iiz yB fun a w s=> ?_
 refine zA rfl (hQ _ _ ?_)
 refine tO ?_
 exact wJ s (CU.agg (fQN (q+ -q'))) rfl kH rfl rfl (y9 _) (fun cs W h=>by rw [Rat.sub_eq_add_neg];exact h)
end Go.Proofs.Wd

namespace Go.Proofs.Wd
open Tryz
set_option maxRecDepth 100000
open Go.RowKit Lb
theorem zMP {W:Wi} {v v':Wj} {k:Int} (h:NV W v k) (h':NV W v' k):Calls prog 98 #[v,v'] W (Ret W (fB true).tS):=by
 obtain ⟨A,n,c,l,rfl,h1,h2⟩:=h
 obtain ⟨A',n',c',l',rfl,h1',h2'⟩:=h'
 refine (zJa _ A n c l _ A' n' c' l' W h2 h2').mono fun e w' ⟨e1,hb⟩=>⟨_,e1, ?_,hb⟩
 rw [h1.inj h1']
 simp [fB,UF.eq,UF.mk']
theorem zMS {W:Wi} {v v':Wj} {x:Nat} (h:qC W v x) (h':qC W v' x):Calls prog 99 #[v,v'] W (Ret W (fB true).tS):=by
 obtain ⟨A,n,c,l,rfl,h1,h2⟩:=h
 obtain ⟨A',n',c',l',rfl,h1',h2'⟩:=h'
 refine (zGs A n c l A' n' c' l' W h2 h2').mono fun e w' ⟨e1,nq,hw⟩=>⟨_,e1, ?_, ?_⟩
 ·rw [h1.inj h1']
  simp [fB,UF.eq,UF.mk']
 ·subst hw
  exact zNy nq
def UVx (n:Nat) (k:Int) (v:Wj) (w:Wi):Prop:= ∃s A c l,v= .agg #[.bool s, .slice A n c]/\Rd w A n c l/\Lt l/\iv s l=k
def LVx (n x:Nat) (v:Wj) (w:Wi):Prop:= ∃A c l,v= .slice A n c/\Rd w A n c l/\Lt l/\val l=x
def QXp (n n':Nat) (k:Int) (d:Nat) (v:Wj) (w:Wi):Prop:= ∃b s t,v= .agg #[b,s,t]/\UVx n k (.agg #[b,s]) w/\LVx n' d t w
def fQX (n n':Nat) (k:Int) (d:Nat):UF:= .mk' (QXp n n' k d) fun _ _ _ ⟨b,s,t,e,⟨sg,A,c,l,e1,h1,h2⟩,A',c',l',e2,h1',h2'⟩ u=>⟨b,s,t,e,⟨sg,A,c,l,e1,h1.keepU u,h2⟩,A',c',l',e2,h1'.keepU u,h2'⟩
theorem zSA {n n' m:Nat} {k:Int} {d:Nat} {v:Wj} {W:Wi} (h:QXp n n' k d v W) (h1:n<=m) (h2:n'<=m):QVp m k d v W:=by
 obtain ⟨b,s,t,e,⟨sg,A,c,l,e1,g1,g2,g3⟩,A',c',l',e2,g1',g2',g3'⟩:=h
 exact ⟨b,s,t,e,⟨sg,A,n,c,l,e1,g1,g2,h1,g3⟩,A',n',c',l',e2,g1',g2',h2,g3'⟩
theorem zN5 {n n':Nat} {k:Int} {d:Nat} (cs:List Wj) (W:Wi) (h:(CU.agg (fQX n n' k d)).p cs W): ∃u,cs[1]?=some u/\ ∃A c,u= .slice A n c:=by
 obtain ⟨b,s,t,e,⟨sg,A,c,l,e1,_⟩,_⟩:=h
 rw [zAE e]
 have:=zT9 Array.toList (jT e1)
 simp at this
 exact ⟨s,rfl,A,c,this.2⟩
theorem zN4 {n n':Nat} {k:Int} {d:Nat} (cs:List Wj) (W:Wi) (h:(CU.agg (fQX n n' k d)).p cs W): ∃u,cs[2]?=some u/\ ∃A c,u= .slice A n' c:=by
 obtain ⟨b,s,t,e,_,A,c,l,e1,_⟩:=h
 rw [zAE e]
 exact ⟨t,rfl,A,c,e1⟩
def fSl (n:Nat):UF:= .mk' (fun v _=> ∃A c,v= .slice A n c) fun _ _ _ h _=>h
theorem zIh {W:Wi} {v v':Wj} {q:Rat} (h:QNp q v W) (h':QNp q v' W):Calls prog 75 #[v,v'] W (Ret W (fB true).tS):=by
 refine yF [(fQN q).tS,(fQN q).tS] func75 rfl kH ⟨h,h',trivial⟩ fun a s=> ?_
 refine tN ?_
 refine zB 0 [] hmix s kH
  zE fun a w1 s=> ?_
 refine qD (CU.agg (fQN q)) rfl s kH (fun v W h=>zIo h) fun b2 a w s=> ?_
 refine qD (CU.agg (fQN q)) rfl s kH (fun v W h=>zIo h) fun b3 a w s=> ?_
 refine qN (uB false) rfl s kH iiz fun a w s=> ?_
 refine zA rfl ?_
 refine tN ?_
 replace s:=s.drop [4]
 refine zB 13 ((5, .X (fQN q) 0)::(6, .Z (fNV ((q).num)))::(7, .X (fQN q) 0)::(8, .Z (fNV ((q).num)))::(9, .Z (uB true))::(10, .Z (uB true))::(11, .X (fQN q) 2)::(12, .Z (qR ((q).den)))::(13, .X (fQN q) 2)::(14, .Z (qR ((q).den)))::(15, .Z (uB true))::(16, .Z (uB true))::(4, .u (uB true)):: []) hmix s kH
  (oc (zP (C:=cg (fQN q)) 0 kH)<|oc (zS (C:=cg (fQN q)) (k:=0) 2 kH (h:=zAQ))<|oc (zP (C:=cg (fQN q)) 0 kH)<|oc (zS (C:=cg (fQN q)) (k:=0) 2 kH (h:=zAQ))<|oc (zM zD zSN (fun u0 u1 W hb (h0:NV W u0 ((q).num)) (h1:NV W u1 ((q).num))=>zMP h0 h1))<|oc zC<|oc (zF 10 true kH iiz (fun _=>zP (C:=cg (fQN q)) 2 kH) arf)<|oc (zF 10 true kH iiz (fun _=>jI (C:=cg (fQN q)) (k:=2) kH (h:=zAC)) arf)<|oc (zF 10 true kH iiz (fun _=>zP (C:=cg (fQN q)) 2 kH) arf)<|oc (zF 10 true kH iiz (fun _=>jI (C:=cg (fQN q)) (k:=2) kH (h:=zAC)) arf)<|oc (zF 10 true kH iiz (fun _=>zM zD zSM (fun u0 u1 W hb (h0:qC W u0 ((q).den)) (h1:qC W u1 ((q).den))=>zMS h0 h1)) arf)<|oc (qX true iiz (fun _ _ _ h=>h) (fun e=>by cases e))<|oc zG<|zE) fun a w2 s=> ?_
 refine zA rfl ?_
 refine tO ?_
 exact wF s (t:=4) rfl iiz
structure QX where
 n:Nat
 n':Nat
 k:Int
 d:Nat
abbrev QX.cu (x:QX):CU:=CU.agg (fQX x.n x.n' x.k x.d)
def zSB (L:List QX) (k:Nat):Nat:=((L.take k).map fun x=>min (x.n+x.n') 1000).sum
def gq (L:List QX):Bool:=decide (((L.map QX.cu).length:Int)>60)||decide (((zSB L (min (L.map QX.cu).length 61):Nat):Int)>40)
theorem wrap64 (u:Int) (r:Nat) (h:u=r) (hr:r<9223372036854775808):IntKind.i64.wrap u=r:=by
 subst h
 rw [IntKind.wrap_i64]
 omega
end Go.Proofs.Wd

namespace Go.Proofs.Wd
open Tryz
set_option maxRecDepth 100000
set_option maxHeartbeats 1000000
open Go.RowKit Lb
def T2 (m:Nat) (op:Rat->Rat->Rat) (xs:Array Wj) (W:Wi) (R:SF):Prop:= ∃u v p q,xs=#[u,v]/\RVp m p u W/\RVp m q v W/\Tab W/\R=(fQN (op p q)).tS
def T3 (m:Nat) (op:Rat->Rat->Rat) (xs:Array Wj) (W:Wi) (R:SF):Prop:= ∃u v, ∃p q:V2,xs=#[u,v]/\(fPV m p).p u W/\(fPV m q).p v W/\Tab W/\R=(fPN (op p.1 q.1,op p.2 q.2)).tS
def G1 (g:FuncId) (m:Nat) (op:Rat->Rat->Rat):Prop:= ∀(W:Wi) (s:Wj) (p q:Rat),(fQS m [p,q]).p s W->QB p m->QB q m->Tab W->Calls prog g #[s] W (Ret W (fQN (op p q)).tS)
theorem zAq {u:Wj}: ∀cs W,(wB [u]).p cs W-> ∃x,cs[0]?=some x/\(UF.eq u).p x W:=fun cs W h=>by
 obtain rfl:cs= [u]:=h
 exact ⟨u,rfl,rfl⟩
theorem zE6 {u v:Wj} {W:Wi} (h:v=u) (hu:u.cells=#[u]) (hn:zV u=true:=by rfl):(wB [u]).p v.cells.toList W/\v.cells.toList.all zV=true:=by
 subst h
 rw [hu]
 exact ⟨rfl,by simp [hn]⟩
section
variable {F:Fence} {m:Nat} {P:Wn} {w0:Wi} {ops:Array Oper} {G:Nat->SF} {d:Tmp} {ty:Wk} {pos:String} {aft:Array Edge}
end
theorem zRl {m:Nat} (hm:m<=650) (hm0:0<m) (W:Wi):(SF.fn prog (T2 m (· - ·))).p (.func (.func 79) #[] #[]) W:=
 zOj (enters_of func79 kH rfl) fun W' _ args R ⟨u,v,p,q,e,h1,h2,hT,hR⟩=>by
  subst e hR
  simpa using zN0 h1 h2 hm hm0 hT
theorem zOc {F:Fence} {m:Nat} {P:Wn} {w0:Wi} {ops:Array Oper} {G:Nat->SF} {d:Tmp} {ty:Wk} {pos:String} {aft:Array Edge} {y x x':Wm} {ats:Array Wk} (T:Array Wj->Wi->SF->Prop) (hF:zHN F m P) (hy: ∀v W,Below w0.heap.size w0 W->(fct G y).p v W->(SF.fn P T).p v W) (h: ∀u v W,Below w0.heap.size w0 W->(fct G x).p u W->(fct G x').p v W->T #[u,v] W (G d)):qK F m P w0 ops G ⟨some d, .call ⟨.value y,#[x,x'],ats⟩,ty,pos,aft,none⟩:=
 zKT T hF hy fun b W hb hh=>by simpa using h _ _ W hb (hh x fM) (hh x' fM)
theorem zMV {m:Nat} {op:Rat->Rat->Rat} {W:Wi} {u v b f:Wj} {p q:V2} (h1:(fPV m p).p u W) (h2:(fPV m q).p v W) (hb:(wC (wB [f]).cf).p b W) (hf:(SF.fn prog (T2 m op)).p f W) (hT:Tab W):Calls prog 110 #[u,v,b] W (Ret W (fPN (op p.1 q.1,op p.2 q.2)).tS):=by
 refine yF [(fPV m p).tS,(fPV m q).tS,wC (wB [f]).cf] func110 rfl kH ⟨h1,h2,hb,trivial⟩ fun a s=> ?_
 refine tN ?_
 refine zB 0 [] hmix s kH
  zE fun a w1 s=> ?_
 refine qD (CU.agg (fPV m p)) rfl s kH (fun v W h=>zAI h) fun b3 a w s=> ?_
 refine qD (CU.agg (fPV m q)) rfl s kH (fun v W h=>zAI h) fun b4 a w s=> ?_
 refine yE (CU.len 6) (cs:=zP6) kH rfl s kH (fun W=>rfl) rfl fun b5 a w s=> ?_
 refine zA rfl ?_
 refine tN ?_
 refine yK [] 13 ((6, .Z (UF.eq f))::(7, .X (fPV m p) 0)::(8, .Z (fRV m ((p).1)))::(9, .X (fPV m q) 0)::(10, .Z (fRV m ((q).1)))::(11, .Z (fQN (op (p).1 (q).1)))::(12, .Z (UF.eq f))::(13, .X (fPV m p) 3)::(14, .Z (fRV m ((p).2)))::(15, .X (fPV m q) 3)::(16, .Z (fRV m ((q).2)))::(17, .Z (fQN (op (p).2 (q).2)))::(18, .u (fPN (op p.1 q.1,op p.2 q.2))):: []) hmix s kH
  (oc (yW (C:=(wB [f]).cf) kH iiz zAq)<|oc (zP (C:=cg (fPV m p)) 0 kH)<|oc (zS (C:=cg (fPV m p)) (k:=0) 3 kH (h:=zIs))<|oc (zP (C:=cg (fPV m q)) 0 kH)<|oc (zS (C:=cg (fPV m q)) (k:=0) 3 kH (h:=zIs))<|oc (zOc (T2 m op) zD (fun v W hb h=>by rw [show v=f from h];exact (SF.fn prog (T2 m op)).st _ _ _ hf (s.up hb)) (fun u v W hb (h1:RVp m ((p).1) u W) (h2:RVp m ((q).1) v W)=>⟨u,v,_,_,rfl,h1,h2,hT.below (s.up hb),rfl⟩))<|oc (yW (C:=(wB [f]).cf) kH iiz zAq)<|oc (zP (C:=cg (fPV m p)) 3 kH)<|oc (zS (C:=cg (fPV m p)) (k:=3) 3 kH (h:=zIr))<|oc (zP (C:=cg (fPV m q)) 3 kH)<|oc (zS (C:=cg (fPV m q)) (k:=3) 3 kH (h:=zIr))<|oc (zOc (T2 m op) zD (fun v W hb h=>by rw [show v=f from h];exact (SF.fn prog (T2 m op)).st _ _ _ hf (s.up hb)) (fun u v W hb (h1:RVp m ((p).2) u W) (h2:RVp m ((q).2) v W)=>⟨u,v,_,_,rfl,h1,h2,hT.below (s.up hb),rfl⟩))<|oc (jA (fun u v W (hu:QNp (op (p).1 (q).1) u W) (hv:QNp (op (p).2 (q).2) v W)=>zQn (zA4 _) (zA4 _) hu hv))<|zE) fun Q' hQ a w2 s=> ?_
 refine zU (CU.agg (fPN (op p.1 q.1,op p.2 q.2))) ((fPN (op p.1 q.1,op p.2 q.2)).tS) rfl s kH rfl rfl rfl iiz iiz jX fun a w s=> ?_
 refine zA rfl (hQ _ _ ?_)
 refine tO ?_
 exact wJ s (CU.agg (fPN (op p.1 q.1,op p.2 q.2))) rfl kH rfl rfl (yP _ _) (fun cs W h=>h)
theorem zPr {m:Nat} {op:Rat->Rat->Rat} {W:Wi} {f:Wj} (hf:(SF.fn prog (T2 m op)).p f W):Calls prog 81 #[f] W (Ret W (SF.fn prog (T3 m op))):=by
 have hfc:f.cells=#[f]/\zV f=true:=by obtain ⟨g,caps,rfl,_⟩:=hf;exact ⟨rfl,rfl⟩
 refine yF [(UF.eq f).tS] func81 rfl kH ⟨rfl,trivial⟩ fun a s=> ?_
 refine tN ?_
 refine zB 0 [] hmix s kH
  zE fun a w1 s=> ?_
 refine qD (wB [f]) rfl s kH (fun v W h=>zE6 h hfc.1 hfc.2) fun b1 a w s=> ?_
 refine qN (UF.eq (.nilFunc)) rfl s kH iiz fun a w s=> ?_
 refine zA rfl ?_
 refine tN ?_
 replace s:=s.drop [2]
 refine yD 2 ((3, .s (SF.fn prog (T3 m op)))::(2, .s (SF.fn prog (T3 m op))):: []) hmix s kH
  (oc (zIw (fun u W hb (h:(wG b1 (wB [f]).cf).p u W)=>zOj (enters_of func110 kH rfl) (fun W' hb' args R ⟨u1,v1,p,q,e,h1,h2,hT,hR⟩=>by subst e hR;simpa using zMV h1 h2 ((wC (wB [f]).cf).st _ _ _ h.2 hb') ((SF.fn prog (T2 m op)).st _ _ _ ((SF.fn prog (T2 m op)).st _ _ _ hf (s.up hb)) hb') hT)))<|oc zG<|zE) fun a w2 s hr=> ?_
 refine zA rfl ?_
 refine tO ?_
 exact StS.resN s (tR _ _) rfl (hr (_,_) mz1)
theorem zHR {m:Nat} {W:Wi} {u v:Wj} {p q:V2} (h1:(fPV m p).p u W) (h2:(fPV m q).p v W) (hm:m<=650) (hm0:0<m) (hT:Tab W):Calls prog 54 #[u,v] W (Ret W (fPN (p.1 - q.1,p.2 - q.2)).tS):=by
 refine yF [(fPV m p).tS,(fPV m q).tS] func54 rfl kH ⟨h1,h2,trivial⟩ fun a s=> ?_
 refine tN ?_
 refine zB 0 [] hmix s kH
  zE fun a w1 s=> ?_
 refine qD (CU.agg (fPV m p)) rfl s kH (fun v W h=>zAI h) fun b2 a w s=> ?_
 refine qD (CU.agg (fPV m q)) rfl s kH (fun v W h=>zAI h) fun b3 a w s=> ?_
 refine yE (CU.len 6) (cs:=zP6) kH rfl s kH (fun W=>rfl) rfl fun b4 a w s=> ?_
 refine zA rfl ?_
 refine tN ?_
 refine yK [] 4 ((5, .s (SF.fn prog (T3 m (· - ·))))::(6, .Z (fPV m p))::(7, .Z (fPV m q))::(8, .u (fPN (p.1 - q.1,p.2 - q.2))):: []) hmix s kH
  (oc (zH zD zST (fun u0 W hb h0=>by rw [show u0=_ from h0];exact zPr (zRl hm hm0 W)))<|oc (zR (f:=fPV m p) 6 kH (hz:=yP _ _))<|oc (zR (f:=fPV m q) 6 kH (hz:=yP _ _))<|oc (zQ8 (T3 m (· - ·)) zD iiz (fun u v W hb (h1:(fPV m p).p u W) (h2:(fPV m q).p v W)=>⟨u,v,p,q,rfl,h1,h2,hT.below (s.up hb),rfl⟩))<|zE) fun Q' hQ a w2 s=> ?_
 refine zU (CU.agg (fPN (p.1 - q.1,p.2 - q.2))) ((fPN (p.1 - q.1,p.2 - q.2)).tS) rfl s kH rfl rfl rfl iiz iiz jX fun a w s=> ?_
 refine zA rfl (hQ _ _ ?_)
 refine tO ?_
 exact wJ s (CU.agg (fPN (p.1 - q.1,p.2 - q.2))) rfl kH rfl rfl (yP _ _) (fun cs W h=>h)
theorem zFl {m:Nat} {W:Wi} {u v:Wj} {p q:V2} (h1:(fPV m p).p u W) (h2:(fPV m q).p v W) (hp:QB p.1 m/\QB p.2 m) (hq:QB q.1 m/\QB q.2 m) (hm:m<=320) (hm0:0<m) (hT:Tab W):Calls prog 53 #[u,v] W (Ret W (fQN (p.1*q.2 - p.2*q.1)).tS):=by
 refine yF [(fPV m p).tS,(fPV m q).tS] func53 rfl kH ⟨h1,h2,trivial⟩ fun a s=> ?_
 refine tN ?_
 refine zB 0 [] hmix s kH
  zE fun a w1 s=> ?_
 refine qD (CU.agg (fPV m p)) rfl s kH (fun v W h=>zAI h) fun b2 a w s=> ?_
 refine qD (CU.agg (fPV m q)) rfl s kH (fun v W h=>zAI h) fun b3 a w s=> ?_
 refine yE (CU.len 3) (cs:=zR3) kH rfl s kH (fun W=>rfl) rfl fun b4 a w s=> ?_
 refine zA rfl ?_
 refine tN ?_
 refine yK [] 13 ((5, .X (fPV m p) 0)::(6, .Z (fRV m ((p).1)))::(7, .X (fPV m q) 3)::(8, .Z (fRV m ((q).2)))::(9, .s (fQS m [(p).1,(q).2]))::(10, .Z (fQN ((p).1*(q).2)))::(11, .X (fPV m p) 3)::(12, .Z (fRV m ((p).2)))::(13, .X (fPV m q) 0)::(14, .Z (fRV m ((q).1)))::(15, .s (fQS m [(p).2,(q).1]))::(16, .Z (fQN ((p).2*(q).1)))::(17, .u (fQN ((p).1*(q).2 - (p).2*(q).1))):: []) hmix s kH
  (oc (zP (C:=cg (fPV m p)) 0 kH)<|oc (zS (C:=cg (fPV m p)) (k:=0) 3 kH (h:=zIs))<|oc (zP (C:=cg (fPV m q)) 3 kH)<|oc (zS (C:=cg (fPV m q)) (k:=3) 3 kH (h:=zIr))<|oc (yC (fun u v W (hu:RVp m ((p).1) u W) (hv:RVp m ((q).2) v W)=>zEh hu hv))<|oc (zH zD zRx (fun u0 W hb (h0:(fQS m [(p).1,(q).2]).p u0 W)=>zKg h0 hp.1 hq.2 oO (hT.below (s.up hb))))<|oc (zP (C:=cg (fPV m p)) 3 kH)<|oc (zS (C:=cg (fPV m p)) (k:=3) 3 kH (h:=zIr))<|oc (zP (C:=cg (fPV m q)) 0 kH)<|oc (zS (C:=cg (fPV m q)) (k:=0) 3 kH (h:=zIs))<|oc (yC (fun u v W (hu:RVp m ((p).2) u W) (hv:RVp m ((q).1) v W)=>zEh hu hv))<|oc (zH zD zRx (fun u0 W hb (h0:(fQS m [(p).2,(q).1]).p u0 W)=>zKg h0 hp.2 hq.1 oO (hT.below (s.up hb))))<|oc (zM zD zSU (fun u0 u1 W hb (h0:QNp ((p).1*(q).2) u0 W) (h1:QNp ((p).2*(q).1) u1 W)=>zN0 (wH h0 (hp.1.mul hq.2)) (wH h1 (hp.2.mul hq.1)) oO oO (hT.below (s.up hb))))<|zE) fun Q' hQ a w2 s=> ?_
 refine zU (CU.agg (fQN ((p).1*(q).2 - (p).2*(q).1))) ((fQN ((p).1*(q).2 - (p).2*(q).1)).tS) rfl s kH rfl rfl rfl iiz iiz yB fun a w s=> ?_
 refine zA rfl (hQ _ _ ?_)
 refine tO ?_
 exact wJ s (CU.agg (fQN (p.1*q.2 - p.2*q.1))) rfl kH rfl rfl (y9 _) (fun cs W h=>h)
end Go.Proofs.Wd

namespace Lb
set_option maxHeartbeats 1000000
theorem zQs {l:List Nat} (ht:Lt l) {j s x:Nat} (hj:j<l.length) (hz: ∀i,i<j->lm l i=0) (hx:lm l j=2^s*x) (ho:x % 2=1):TZ (val l) (32*j+s)/\s<32:=by
 have hb:=qF ht j
 have hs:s<32:=by
  have h1:2^s*1<=2^s*x:=Nat.mul_le_mul_left _ oO
  rw [Nat.mul_one, <-hx] at h1
  exact (Nat.pow_lt_pow_iff_right dA).1 (tP h1 (by rw [zTs] at hb;simpa using hb))
 refine ⟨?_,hs⟩
 have e0:val (l.take j)=0:=by
  rw [zFk oO]
  have:sm (lm l) j=sm (lm l) 0:=zCC (tY _) fun i _ hi=>hz i hi
  rw [this];rfl
 have e1:=jG l j oO
 rw [e0,Nat.zero_add,zBa hj,hx,zFh] at e1
 obtain ⟨y,hy⟩: ∃y,val (l.drop (j+1))=y:=⟨_,rfl⟩
 rw [hy,show BB=2^s*(2*2^(31 - s)) from by rw [<-Nat.pow_succ', <-Nat.pow_add,show s+(31 - s+1)=32 from by omega];rfl,zUC, <-Nat.mul_add, <-zUC, <-Nat.pow_add] at e1
 refine ⟨x / 2+2^(31 - s)*y, ?_⟩
 rw [e1]
 congr 1
 rw [Nat.mul_add, <-zUC]
 omega
end Lb
namespace Go.Proofs.Wd
open Tryz
open Go.RowKit Lb
theorem zL8 (A:Wl Addr) (n c:Nat) (l:List Nat) (w:Wi) (h:Rd w A n c l) (ht:Lt l) (h0:0<val l) (hn:n<=2000):
  ∃q t:Nat,TZ (val l) (32*q+t)/\t<=31/\q<n/\Calls prog 112 #[.slice A n c] w fun e w'=>e= .returned (.int .i64 ((32*q+t:Nat):Int))/\w'=w:=by
 obtain ⟨j,hjn,hjz,hj0⟩: ∃j,j<n/\(∀i,i<j->lm l i=0)/\lm l j≠0:=by
  have hex: ∃j,lm l j≠0:=by
   refine zUS fun hc=> ?_
   have hz: ∀i,lm l i=0:=fun i=>zUS fun e=>hc ⟨i,e⟩
   have:sm (lm l) l.length=sm (lm l) 0:=zCC (tY _) fun i _ _=>hz i
   have e:val l=sm (lm l) l.length:=rfl
   rw [e,this] at h0
   simp [sm] at h0
  have hmin: ∀k,(∃j,j<=k/\lm l j≠0)-> ∃j,(∀i,i<j->lm l i=0)/\lm l j≠0:=by
   intro k
   induction k with
   |zero=>rintro ⟨j,hj,e⟩;exact ⟨j,fun i hi=>by omega,e⟩
   |succ k ih=>
    rintro ⟨j,hj,e⟩
    by_cases hk: ∃j,j<=k/\lm l j≠0
    ·exact ih hk
    ·exact ⟨j,fun i hi=>zUS fun e'=>hk ⟨i,by omega,e'⟩,e⟩
  obtain ⟨j0,hj0⟩:=hex
  obtain ⟨j,h1,h2⟩:=hmin j0 ⟨j0,tT _,hj0⟩
  refine ⟨j, ?_,h1,h2⟩
  rw [<-h.len]
  exact Nat.lt_of_not_le fun e=>h2 (zDa e)
 obtain ⟨s,hs⟩:=vH (lm l j) oO
 obtain ⟨m,hm⟩:=hs
 obtain ⟨htz,hs32⟩:=zQs ht (s:=s) (x:=2*m+1) (by rw [h.len];exact hjn) hjz hm oO
 refine ⟨j,s,htz,by omega,hjn, ?_⟩
 have hb:=qF ht j
 have hle:=h.le;have hcap:=h.cap
 have HJZ:=hid hjz;have HM:=hid hm;have HB:=hid hb
 obtain ⟨d,hd⟩: ∃d:Nat->Nat,d=fun i=>2^(s - i)*(2*m+1):=⟨_,rfl⟩
 have hd0:d 0=lm l j:=by rw [hd,hm];rfl
 have hds:d s % 2=1:=by rw [hd];simp
 have hdi: ∀i,i<s->d i % 2=0/\d i / 2=d (i+1):=fun i hi=>by
  rw [hd]
  show 2^(s - i)*(2*m+1) % 2=0/\2^(s - i)*(2*m+1) / 2=2^(s - (i+1))*(2*m+1)
  rw [show s - i=(s - (i+1))+1 from by omega,Nat.pow_succ',zUC]
  omega
 have hdl: ∀i,d i<=d 0:=fun i=>by
  rw [hd]
  exact zUt _ (zF0 oO oO)
 have HD0:=hid hd0;have HDS:=hid hds;have HDI:=hid hdi;have HDL:=hid hdl
 clear hd hd0 hds hdi hdl
 have HL:Hid (∀i,lm l i<4294967296):=hid fun i=>qF ht i
 clear hjz hm htz hb h0
 go_enter func112,ntmps112
 go_wp2
 go_loopw [3,4] (fun t i wr=> ∃k:Nat,k<=j/\i= .int .i64 k/\t= .int .i64 ((32*k:Nat):Int)/\wr=w) (fun _ i _=>j - (intOf i).toNat)
 case atStart=>exact ⟨0,tY _,rfl,rfl,rfl⟩
 case round=>
  obtain ⟨k,hk,rfl,rfl,rfl⟩:=hrel
  obtain ⟨b,o,rfl,hc⟩:=h.cells k oO
  by_cases hkj:k<j
  ·have hz:=HJZ.out k hkj
   rw [hz] at hc
   clear hz
   go_wp2
   go_roundw
   case rel=>exact ⟨k+1,by omega,by go_num,by go_num,trivial⟩
   case measure=>simp [intOf];omega
  ·obtain rfl:k=j:=by omega
   have hlk:=HL.out k
   obtain ⟨x,hx⟩: ∃x,lm l k=x:=⟨_,rfl⟩
   rw [hx] at hc hj0 hlk
   have HX:=hid hx
   clear hx
   have e1:((32*k:Nat):Int).tdiv 32=(k:Int):=by rw [zUT oO];omega
   have e2:(((32*k:Nat):Int) / 32)=(k:Int):=by omega
   have hx2:((x:Int)==0)=false:=by simpa using hj0
   go_wp2
   go_loopw [3,5] (fun t y wr2=> ∃i:Nat,i<=s/\t= .int .i64 ((32*k+i:Nat):Int)/\y= .int .u32 (d i:Nat)/\wr2=wr) (fun t _ _=>32*k+s - (intOf t).toNat)
   case atStart=>exact ⟨0,tY _,rfl,by rw [HD0.out,HX.out],rfl⟩
   case round=>
    obtain ⟨i,hi,rfl,rfl,rfl⟩:=hrel
    have hdx:=HDL.out i
    rw [HD0.out,HX.out] at hdx
    by_cases his:i<s
    ·obtain ⟨q1,q2⟩:=HDI.out i his
     obtain ⟨y,hy⟩: ∃y,d i=y:=⟨_,rfl⟩
     rw [hy] at q1 q2 hdx ⊢
     have HY:=hid q2
     clear q2 hy
     go_wp2
     go_roundw
     case rel=>exact ⟨i+1,by omega,by go_num,by rw [<-HY.out];go_num,trivial⟩
     case measure=>simp [intOf];omega
    ·obtain rfl:i=s:=by omega
     have q1:=HDS.out
     obtain ⟨y,hy⟩: ∃y,d i=y:=⟨_,rfl⟩
     rw [hy] at q1 hdx ⊢
     clear hy
     go_wp2
     go_ret
     exact ⟨rfl,rfl⟩
theorem zKf {W:Wi} {m:Nat} {v v':Wj} {a b:Nat} (h:LV W m v a) (h':LV W m v' b) (hm:m<=100000):Calls prog 57 #[v,v'] W (zLU W (a*b)):=by
 obtain ⟨A,n,c,l,rfl,h1,h2,h3,rfl⟩:=h
 obtain ⟨A',n',c',l',rfl,h1',h2',h3',rfl⟩:=h'
 exact (zIg A n c l A' n' c' l' W h1 h1' h2 h2' oO oO).mono fun _ _=>qZ.v
theorem zDs {W:Wi} {m:Nat} {v:Wj} {a:Nat} (h:LV W m v a) (hm:m<=100000):Calls prog 40 #[v] W (zLU W a):=by
 obtain ⟨A,n,c,l,rfl,h1,h2,h3,rfl⟩:=h
 exact (q9 A n c l W h1 h2 oO).mono fun _ _=>qZ.v
theorem qC.open {W:Wi} {v:Wj} {x:Nat} (h:qC W v x): ∃A n c,v= .slice A n c/\(x=0->n=0)/\(0<x->0<n)/\n<=c/\c<=9223372036854775807/\qC W (.slice A n c) x:=by
 obtain ⟨A,n,c,l,rfl,h1,h2⟩:=h
 have h3:=h1.zero_iff;have h4:=h1.pos_iff
 rw [h2.len] at h3 h4
 exact ⟨A,n,c,rfl,h3.1,h4.1,h2.le,h2.cap,⟨A,n,c,l,rfl,h1,h2⟩⟩
end Go.Proofs.Wd

namespace Lb
set_option maxHeartbeats 2000000
theorem zOd {x k:Nat} (h:TZ x k):x / 2^k % 2=1/\x / 2^k<=x/\0<x / 2^k:=by
 have:=h.part.2
 exact ⟨this,tX _ _,Nat.pos_of_ne_zero fun e=>by rw [e] at this;simp at this⟩
def Bin (G x y:Nat):Prop:=0<y/\(x=0->y=G)/\ ∀i j,TZ x i->TZ y j->Nat.gcd (x / 2^i) (y / 2^j)=G
theorem Bin.start {a b i j:Nat} (hi:TZ a i) (hj:TZ b j):Bin (Nat.gcd (a / 2^i) (b / 2^j)) a b:=
 ⟨hj.pos,fun e=>by have:=hi.pos;omega,fun i' j' h1 h2=>by rw [h1.unique hi,h2.unique hj]⟩
theorem Bin.turn {G x y:Nat} (hx:x % 2=1) (hy:y % 2=1) (hg:Nat.gcd x y=G) (hle:y<=x):Bin G (x - y) y:=by
 refine ⟨by omega,fun e=> ?_,fun i j h1 h2=> ?_⟩
 ·have:x=y:=by omega
  rw [<-hg,this,Nat.gcd_self]
 ·have hj:j=0:=h2.unique (wU hy)
  rw [hj,Nat.pow_zero,Nat.div_one,Nat.gcd_comm,wZ hy h1,Nat.gcd_comm,zF1 hle,hg]
end Lb
namespace Go.Proofs.Wd
open Tryz
open Go.RowKit Lb
theorem zKk {W:Wi} {m:Nat} {A:Wl Addr} {n c:Nat} {x q t:Nat} (h:qC W (.slice A n c) x) (hx:x<BB^m) (hm:m<=2000) (htt:t<=31) (hq:q<n):Calls prog 113 #[.slice A n c, .int .i64 ((32*q+t:Nat):Int)] W (zLU W (x / 2^(32*q+t))):=by
 obtain ⟨A1,n1,c1,l1,e1,h1,h2⟩:=h
 cases e1
 have hn:n<=m:=zGR h1 h2 hx
 have:=zKl A n c l1 q t W h2 h1.lt htt oO oO oO
 rw [h1.val] at this
 exact this.mono fun _ _=>qZ.v
theorem zSw {W:Wi} {m:Nat} {A:Wl Addr} {n c:Nat} {x q t:Nat} (h:LV W m (.slice A n c) x) (hm:m<=2000) (htt:t<=31) (hq:q<=2000):Calls prog 116 #[.slice A n c, .int .i64 ((32*q+t:Nat):Int)] W (zLU W (x*2^(32*q+t))):=by
 obtain ⟨A1,n1,c1,l1,e1,h1,h2,h3,rfl⟩:=h
 cases e1
 exact (zJ9 A n c l1 q t W h1 h2 htt oO oO).mono fun _ _=>qZ.v
def zTl (w:Wi) (x:Nat):Ending->Wi->Prop:=fun e w'=> ∃v,e= .returned (.tuple #[v, .int .i64 0])/\qC w' v x/\Below w.heap.size w w'
theorem zNY {W:Wi} {m:Nat} {v v':Wj} {a b:Nat} (h:LV W m v a) (h':LV W m v' b) (hm:m<=2000) (hab:b<=a):Calls prog 115 #[v,v'] W (zTl W (a - b)):=by
 obtain ⟨A,n,c,l,rfl,h1,h2,h3,rfl⟩:=h
 obtain ⟨A',n',c',l',rfl,h1',h2',h3',rfl⟩:=h'
 refine (zFB A n c l A' n' c' l' W h1 h1' h2 h2' hab oO).mono ?_
 rintro e w' ⟨A1,n1,c1,l1,rfl,i1,r1,hb⟩
 exact ⟨_,rfl,⟨A1,n1,c1,l1,rfl,i1,r1⟩,hb⟩
theorem zHU {W:Wi} {m:Nat} {A:Wl Addr} {n c:Nat} {x:Nat} (h:qC W (.slice A n c) x) (hx:x<BB^m) (hm:m<=2000) (h0:0<x):
  ∃q t:Nat,TZ x (32*q+t)/\t<=31/\q<n/\n<=m/\Calls prog 112 #[.slice A n c] W fun e w'=>e= .returned (.int .i64 ((32*q+t:Nat):Int))/\w'=W:=by
 obtain ⟨A1,n1,c1,l1,e1,h1,h2⟩:=h
 cases e1
 have hn:n<=m:=zGR h1 h2 hx
 obtain ⟨q,t,k1,k2,k3,k4⟩:=zL8 A n c l1 W h2 h1.lt (by rw [h1.val];exact h0) oO
 rw [h1.val] at k1
 exact ⟨q,t,k1,k2,k3,hn,k4⟩
theorem qC.rdv {W:Wi} {v:Wj} {x:Nat} (h:qC W v x):rdv W v=x:=by
 obtain ⟨A1,n1,c1,l1,rfl,h1,h2⟩:=h
 exact h2.rdv h1
def RgI (w:Wi) (m G:Nat) (u v:Wj) (W:Wi):Prop:= ∃A n c A' n' c' x y,u= .slice A n c/\v= .slice A' n' c'/\qC W (.slice A n c) x/\qC W (.slice A' n' c') y/\x<BB^m/\y<BB^m/\Bin G x y/\Below w.heap.size w W
theorem zPn {W:Wi} {m:Nat} {v v':Wj} {a b:Nat} (h:LV W m v a) (h':LV W m v' b) (hm:m<=2000):Calls prog 84 #[v,v'] W (zLU W (Nat.gcd a b)):=by
 have hla:=h.bound;have hlb:=h'.bound
 obtain ⟨A0,n0,c0,rfl,-,k1,k2,h⟩:=h.open
 obtain ⟨B0,m0,d0,rfl,-,k3,k4,h'⟩:=h'.open
 go_enter func84,ntmps84
 go_wp2_with fail
 refine (zDs h oO).mono ?_
 rintro e w1 ⟨va,rfl,ha,b1⟩
 obtain ⟨A,n,c,rfl,za,pa,ia,ja,ha⟩:=ha.open
 go_wp2_with fail
 refine (zDs (h'.below b1) oO).mono ?_
 rintro e w2 ⟨vb,rfl,hb,b2⟩
 obtain ⟨A',n',c',rfl,zb,pb,ib,jb,hb⟩:=hb.open
 have b02:=b1.trans (b2.mono b1.size)
 have ha2:=ha.below b2
 clear h h' ha b1 b2 k1 k2 k3 k4
 by_cases h0:a=0∨b=0
 ·have hg:Nat.gcd a b=a+b:=by
   rcases h0 with e|e
   ·rw [e];simp
   ·rw [e];simp
  have h00:n=0∨(0<n/\n'=0):=by
   rcases zUa n with e|e
   ·exact .inl e
   ·refine .inr ⟨e,zb (h0.resolve_left fun e'=> ?_)⟩
    have:=za e';omega
  have HG:=hid hg
  clear za pa zb pb h0 hg
  have ad:=zO9 (ha2.lv hla) (hb.lv hlb) oO 24
  have bS:Below w2.heap.size w2 (w2.alloc (.cells #[.slice A n c, .slice A' n' c'] 24)):=(tR _ w2).alloc (tT _) _
  have HLA:=hid hla;have HLB:=hid hlb
  clear hla hlb
  rcases h00 with rfl|⟨e1,rfl⟩
  all_goals
   go_wp2_with fail
   refine ad.mono ?_
   rintro e w4 ⟨vs,rfl,hs,b4⟩
   go_wp2_with fail
   go_ret
   exact ⟨vs,rfl,by rw [HG.out];exact hs,b02.trans ((bS.trans (b4.mono bS.size)).mono b02.size)⟩
 ·have hn0:0<n:=pa oO
  have hn0':0<n':=pb oO
  have hnb:((n:Int)==0)=false:=by simp;omega
  have hnb':((n':Int)==0)=false:=by simp;omega
  obtain ⟨q,t,hz,ht,hq,hnm,htw⟩:=zHU ha2 hla hm oO
  obtain ⟨q',t',hz',ht',hq',hnm',htw'⟩:=zHU hb hlb hm oO
  have hgcd:=hz.gcd hz'
  have hbin:=Bin.start hz hz'
  have hG0:Nat.gcd (a / 2^(32*q+t)) (b / 2^(32*q'+t'))<BB^m:=zOi (tP (tX _ _) hla) (tP (tX _ _) hlb)
  obtain ⟨G,hG⟩: ∃G,Nat.gcd (a / 2^(32*q+t)) (b / 2^(32*q'+t'))=G:=⟨_,rfl⟩
  rw [hG] at hgcd hbin hG0
  obtain ⟨p,s,hs,hps,hpq⟩: ∃p s:Nat,s<=31/\p<=2000/\min (32*q+t) (32*q'+t')=32*p+s:=by
   rcases Nat.le_total (32*q+t) (32*q'+t') with e|e
   ·exact ⟨q,t,ht,by omega,by omega⟩
   ·exact ⟨q',t',ht',by omega,by omega⟩
  rw [hpq] at hgcd
  have hmin:min ((32*q+t:Nat):Int) ((32*q'+t':Nat):Int)=((32*p+s:Nat):Int):=by omega
  have HGC:=hid hgcd;have HBI:=hid hbin;have HG0:=hid hG0
  obtain ⟨k,hk⟩: ∃k,32*q+t=k:=⟨_,rfl⟩
  obtain ⟨k',hk'⟩: ∃k,32*q'+t'=k:=⟨_,rfl⟩
  rw [hk] at htw hmin
  rw [hk'] at htw' hmin
  obtain ⟨K,hK⟩: ∃K,32*p+s=K:=⟨_,rfl⟩
  rw [hK] at hmin
  have HK:=hid hK
  have hK2:K<=64500:=by omega
  have hk2:k<=64500:=by omega
  have hk2':k'<=64500:=by omega
  have HLA:=hid hla;have HLB:=hid hlb
  clear hgcd hbin hG0 hz hz' hG hpq hk hk' hK za pa zb pb hq hq' ht ht' hnm hnm' h0 hla hlb
  go_wp2_with fail
  refine htw.mono ?_
  rintro e w3 ⟨rfl,rfl⟩
  go_wp2_with fail
  refine htw'.mono ?_
  rintro e w3 ⟨rfl,rfl⟩
  go_wp2
  go_loopw [0,1] (RgI W m G) (fun u v wr=>rdv wr u+rdv wr v)
  case atStart=>exact ⟨A,n,c,A',n',c',a,b,rfl,rfl,ha2,hb,HLA.out,HLB.out,HBI.out,b02⟩
  case round=>
   clear ha2 hb b02 hn0 hn0' hnb hnb' htw htw' ia ja ib jb hmin
   obtain ⟨A1,n1,c1,A2,n2,c2,x,y,rfl,rfl,hx,hy,hxl,hyl,hbn,hB⟩:=hrel
   obtain ⟨_,_,_,e1,zx,px,ix,jx,_⟩:=hx.open
   cases e1
   obtain ⟨_,_,_,e1,zy,py,iy,jy,_⟩:=hy.open
   cases e1
   have hy0:=hbn.1
   have HBN:=hid hbn
   have HXL:=hid hxl;have HYL:=hid hyl
   rcases zUa n1 with h0|h0
   ·have hx0:x=0:=by
     rcases zUa x with e|e
     ·exact e
     ·have:=px e;omega
    have hyG:=hbn.2.1 hx0
    have HYG:=hid hyG
    have hup:=zSw (q:=p) (t:=s) (hy.lv hyl) hm hs hps
    rw [HK.out] at hup
    subst h0
    clear hbn hxl hyl hx0 hyG zx px zy py
    go_wp2_with fail
    refine hup.mono ?_
    rintro e w5 ⟨v5,rfl,hv5,hb5⟩
    go_wp2_with fail
    go_ret
    exact ⟨v5,rfl,by rw [HGC.out,HK.out, <-HYG.out,Nat.mul_comm];exact hv5,hB.trans (hb5.mono hB.size)⟩
   ·have hx0:0<x:=Nat.pos_of_ne_zero fun e=>by have:=zx e;omega
    obtain ⟨q1,t1,z1,ht1,hq1,hnm1,htw1⟩:=zHU hx hxl hm hx0
    have hd1:=zKk hx hxl hm ht1 hq1
    obtain ⟨o1,o2,o3⟩:=zOd z1
    obtain ⟨k1,hk1⟩: ∃k,32*q1+t1=k:=⟨_,rfl⟩
    have hk1l:k1<=64500:=by omega
    rw [hk1] at htw1 hd1 z1 o1 o2 o3
    have Z1:=hid z1
    obtain ⟨X,hX⟩: ∃X,x / 2^k1=X:=⟨_,rfl⟩
    have HX:=hid hX
    rw [hX] at hd1 o1 o2 o3
    clear z1 hX hk1 ht1 hq1 hnm1 hbn zx px zy py
    have HO1:=hid o1
    have hrx:=hx.rdv;have hry:=hy.rdv
    have HRX:=hid hrx;have HRY:=hid hry
    clear hrx hry o1
    go_wp2_with fail
    refine htw1.mono ?_
    rintro e w5 ⟨rfl,rfl⟩
    go_wp2_with fail
    refine hd1.mono ?_
    rintro e w6 ⟨v6,rfl,h6,b6⟩
    obtain ⟨A6,n6,c6,rfl,z6,p6,i6,j6,h6⟩:=h6.open
    have hy6:=hy.below b6
    obtain ⟨q2,t2,z2,ht2,hq2,hnm2,htw2⟩:=zHU hy6 hyl hm hy0
    have hd2:=zKk hy6 hyl hm ht2 hq2
    obtain ⟨o4,o5,o6⟩:=zOd z2
    obtain ⟨k2,hk2⟩: ∃k,32*q2+t2=k:=⟨_,rfl⟩
    have hk2l:k2<=64500:=by omega
    rw [hk2] at htw2 hd2 z2 o4 o5 o6
    have Z2:=hid z2
    obtain ⟨Y,hY⟩: ∃Y,y / 2^k2=Y:=⟨_,rfl⟩
    have HY:=hid hY
    rw [hY] at hd2 o4 o5 o6
    clear z2 hY hk2 ht2 hq2 hnm2 htw1 hd1 z6 p6
    have HO4:=hid o4
    clear o4
    go_wp2_with fail
    refine htw2.mono ?_
    rintro e w7 ⟨rfl,rfl⟩
    go_wp2_with fail
    refine hd2.mono ?_
    rintro e w8 ⟨v8,rfl,h8,b8⟩
    obtain ⟨A8,n8,c8,rfl,z8,p8,i8,j8,h8⟩:=h8.open
    have h68:=h6.below b8
    have b68:=b6.trans (b8.mono b6.size)
    have hB8:=hB.trans (b68.mono hB.size)
    have hXl:X<BB^m:=tP o2 HXL.out
    have hYl:Y<BB^m:=tP o5 HYL.out
    have hXY:Nat.gcd X Y=G:=by rw [<-HX.out, <-HY.out];exact HBN.out.2.2 _ _ Z1.out Z2.out
    have HXY:=hid hXY
    obtain ⟨cz,hcz⟩: ∃cz,zAp X Y=cz:=⟨_,rfl⟩
    have hc1:=zQR (h68.lv hXl) (h8.lv hYl)
    have hcl:cz<0↔X<Y:=by
     rw [<-hcz]
     unfold zAp
     split
     ·exact ⟨fun _=>by assumption,fun _=>by omega⟩
     ·split
      ·exact ⟨fun h=>by omega,fun h=>by omega⟩
      ·exact ⟨fun h=>by omega,fun h=>by omega⟩
    rw [hcz] at hc1
    clear htw2 hd2 z8 p8 h6 hy6 hx hy hXY hcz hxl hyl
    have HXl:=hid hXl;have HYl:=hid hYl
    clear hXl hYl
    rcases Nat.lt_or_ge X Y with hlt|hge
    ·have hcz:cz<0:=hcl.2 hlt
     have hsb:=zNY (h8.lv HYl.out) (h68.lv HXl.out) hm (zUA hlt)
     have hbt:=Bin.turn (G:=G) HO4.out HO1.out (by rw [Nat.gcd_comm];exact HXY.out) (zUA hlt)
     have HBT:=hid hbt
     clear hbt hcl
     go_wp2_with fail
     refine hc1.mono ?_
     rintro e w9 ⟨rfl,rfl⟩
     go_wp2_with fail
     refine hsb.mono ?_
     rintro e w10 ⟨v10,rfl,h10,b10⟩
     obtain ⟨A10,n10,c10,rfl,z10,p10,i10,j10,h10⟩:=h10.open
     clear z10 p10
     go_wp2_with fail
     refine ⟨⟨A10,n10,c10,A6,n6,c6,Y - X,X,rfl,rfl,h10,h68.below b10,tP (Nat.sub_le _ _) HYl.out,HXl.out,HBT.out,hB8.trans (b10.mono hB8.size)⟩, ?_⟩
     show rdv _ _+rdv _ _<rdv _ _+rdv _ _
     rw [h10.rdv,(h68.below b10).rdv,HRX.out,HRY.out]
     omega
    ·have hcz: ¬cz<0:=fun e=>by have:=hcl.1 e;omega
     have hsb:=zNY (h68.lv HXl.out) (h8.lv HYl.out) hm hge
     have hbt:=Bin.turn (G:=G) HO1.out HO4.out HXY.out hge
     have HBT:=hid hbt
     clear hbt hcl
     go_wp2_with fail
     refine hc1.mono ?_
     rintro e w9 ⟨rfl,rfl⟩
     go_wp2_with fail
     refine hsb.mono ?_
     rintro e w10 ⟨v10,rfl,h10,b10⟩
     obtain ⟨A10,n10,c10,rfl,z10,p10,i10,j10,h10⟩:=h10.open
     clear z10 p10
     go_wp2_with fail
     refine ⟨⟨A10,n10,c10,A8,n8,c8,X - Y,Y,rfl,rfl,h10,h8.below b10,tP (Nat.sub_le _ _) HXl.out,HYl.out,HBT.out,hB8.trans (b10.mono hB8.size)⟩, ?_⟩
     show rdv _ _+rdv _ _<rdv _ _+rdv _ _
     rw [h10.rdv,(h8.below b10).rdv,HRX.out,HRY.out]
     omega
theorem zQU {W:Wi} {u:Wj} (k:Int) (hu:u= .int .i64 k) (h: -9223372036854775808<=k/\k<=9223372036854775807):Calls prog 38 #[u] W (zGa W k):=by
 subst hu
 exact zQV k h
end Go.Proofs.Wd

namespace Go.Proofs.Wd
open Tryz
set_option maxRecDepth 100000
open Go.RowKit Lb
def zLq:Nat:=10000
theorem zRg {x:Nat} (h:x<18446744073709551616) (m:Nat) (hm:2<=m):x<BB^m:=tU h (tS (show 18446744073709551616<=BB^2 by decide) (zF0 yS hm))
theorem zGx {W:Wi} {m:Nat} {v:Wj} {x:Nat} (h:LV W m v x) (hm:m<=100000):Calls prog 82 #[v] W (Ret W (zBm (UF.eq (.int .u64 ((zI x:Nat):Int))) (fB (yI x))).tS):=by
 obtain ⟨A,n,c,l,rfl,h1,h2,h3,rfl⟩:=h
 refine (zI4 A n c l W h1 h2 oO).mono ?_
 rintro e w' ⟨rfl,hb⟩
 exact ⟨_,rfl,⟨_,_,rfl,rfl,rfl⟩,hb⟩
theorem zN3 {W:Wi} {v:Wj} (x:Nat) (hx:x<18446744073709551616) (hv:v= .int .u64 (x:Int)):Calls prog 68 #[v] W (Ret W (qR x).tS):=by
 subst hv
 exact (zHq x hx W).mono fun _ _ h=>qZ.v h
theorem zAA (x:Nat):zI x<18446744073709551616:=by unfold zI;split<;>omega
theorem zKQ {F:Fence} {m:Nat} {P:Wn} {w0:Wi} {ops:Array Oper} {G:Nat->SF} {d:Tmp} {ty:Wk} {pos:String} {aft:Array Edge} {t:Wk} {x y:Wm} {t':Wk} (k:IntKind) (u v r:Int) (hx: ∀q W,(fct G x).p q W->q= .int k u) (hy: ∀q W,(fct G y).p q W->q= .int k v) (hv:v≠0) (hr:k.wrap (u.tdiv v)=r) (hd: ∀W,(G d).p (.int k r) W:=by exact fun _=>rfl):qK F m P w0 ops G ⟨some d, .binOp .quo t x y t',ty,pos,aft,none⟩:=
 zC6 (.int k u) (.int k v) (.int k r) hx hy (fun W=>by simp [eqGuard]) (fun W=>by simp [binOp,Op.intDiv,hv,hr]) hd
theorem zQq (u:Int) (r:Nat) (h:u=r) (hr:r<18446744073709551616):IntKind.u64.wrap u=r:=by
 subst h
 rw [IntKind.wrap_u64]
 omega
theorem zIv {W:Wi} {v:Wj} {x:Nat} (h:qC W v x):Calls prog 71 #[v] W (Ret W (fNV (x:Int)).tS):=by
 refine yF [(qR x).tS] func71 rfl kH ⟨h,trivial⟩ fun a s=> ?_
 refine tN ?_
 refine zB 0 [] hmix s kH
  zE fun a w1 s=> ?_
 refine yE (CU.len 2) (cs:= [.bool false, .slice none 0 0]) kH rfl s kH (fun W=>rfl) rfl fun b2 a w s=> ?_
 refine zA rfl ?_
 refine tN ?_
 refine zB 2 ((3, .Z (qR x))::(4, .u (fNV (x:Int))):: []) hmix s kH
  (oc zC<|oc (zEz (fun u W (hu:qC W u x)=>zLJ hu))<|zE) fun a w2 s=> ?_
 refine zU (CU.agg (fNV (x:Int))) ((fNV (x:Int)).tS) rfl s kH rfl rfl rfl iiz iiz zFO fun a w s=> ?_
 refine zA rfl ?_
 refine tO ?_
 exact wJ s (CU.agg (fNV (x:Int))) rfl kH rfl rfl (zOe _) (fun cs W h=>h)
theorem zDI {W:Wi} {v:Wj} (z:Int) (hv:v= .int .i64 z) (hz: -9223372036854775808<=z/\z<=9223372036854775807):Calls prog 10 #[v] W (Ret W (fQN (z:Rat)).tS):=by
 refine yF [(fI z).tS] func10 rfl kH ⟨hv,trivial⟩ fun a s=> ?_
 refine tN ?_
 refine zB 0 [] hmix s kH
  zE fun a w1 s=> ?_
 refine yE (CU.len 3) (cs:=zR3) kH rfl s kH (fun W=>rfl) rfl fun b2 a w s=> ?_
 refine zA rfl ?_
 refine tN ?_
 refine zB 4 ((3, .Z (uI z))::(4, .Z (fNV z))::(5, .Z (qR 1))::(6, .u (fQN (z:Rat))):: []) hmix s kH
  (oc zC<|oc (zH zD zS5 (fun u0 W hb (h0:u0= .int .i64 z)=>zQU z h0 hz))<|oc (jP (fun u W (hu:u= .int .u32 1)=>zNV hu))<|oc (jA (fun u v W (hu:NV W u z) (hv:qC W v 1)=>zG1 (q:=(z:Rat)) hu hv))<|zE) fun a w2 s=> ?_
 refine zU (CU.agg (fQN (z:Rat))) ((fQN (z:Rat)).tS) rfl s kH rfl rfl rfl iiz iiz yB fun a w s=> ?_
 refine zA rfl ?_
 refine tO ?_
 exact wJ s (CU.agg (fQN (z:Rat))) rfl kH rfl rfl (y9 _) (fun cs W h=>h)
theorem zDJ (k:Int) (d:Nat) (h:0<d):(if decide (k<0) then -((k.natAbs / Nat.gcd k.natAbs d:Nat):Int) else ((k.natAbs / Nat.gcd k.natAbs d:Nat):Int))=(mkRat k d).num:=by
 have h1:=zC9 k d h
 have h2:=zBP k d h
 rw [<-h1, <-h2]
 by_cases hs:(mkRat k d).num<0
 ·rw [zUg hs,if_pos rfl]
  omega
 ·rw [zUh hs,if_neg dA]
  omega
theorem zPd {W:Wi} {m:Nat} {v v':Wj} {k:Int} {d:Nat} (h:UV W m v k) (h':LV W m v' d) (hm:m<=2000) (hd:d=0):Calls prog 55 #[v,v'] W (Ret W (zBm (fQN (mkRat k d)) (fI 30)).tS):=by
 have bk:k.natAbs<BB^m:=h.bound
 have hz:true=decide (d=0):=(zUg hd).symm
 have hq0:mkRat k d=((0:Int):Rat):=by rw [hd,zUK];rfl
 refine yF [(fUV m k).tS,(fLV m d).tS] func55 rfl kH ⟨h,h',trivial⟩ fun a s=> ?_
 refine tN ?_
 refine zB 0 [] hmix s kH
  zE fun a w1 s=> ?_
 refine qD (CU.agg (fUV m k)) rfl s kH (fun v W h=>zNI h) fun b2 a w s=> ?_
 refine yE (CU.len 3) (cs:=zR3) kH rfl s kH (fun W=>rfl) rfl fun b4 a w s=> ?_
 refine qN (uI 0) rfl s kH iiz fun a w s=> ?_
 refine zA rfl ?_
 refine tN ?_
 refine tN ?_
 refine zB 4 ((18, .Z (fLV m d))::(19, .Z (qR d))::(20, .s (zOk d))::(21, .u (uB true)):: []) hmix s kH
  (oc zC<|oc (zH zD zNs (fun u0 W hb (h0:LV W m u0 d)=>(zDs h0 oO)))<|oc (zDx kH iiz)<|oc (zDy hz)<|zE) fun a w2 s=> ?_
 refine zA rfl ?_
 refine StS.cond s true iiz (fun e=> ?_) (fun e=>by cases e)
 refine tN ?_
 replace s:=s.drop [5]
 refine zB 1 ((22, .u (fQN ((0:Int):Rat))):: []) hmix s kH
  (oc (zH zD zGX (fun u0 W hb (h0:u0= .int .i64 0)=>zDI 0 h0 dA))<|zE) fun a w3 s=> ?_
 refine zU (CU.agg (fQN ((0:Int):Rat))) ((fQN ((0:Int):Rat)).tS) rfl s kH rfl rfl rfl iiz iiz yB fun a w s=> ?_
 refine qN (uI 30) rfl s kH iiz fun a w s=> ?_
 refine zA rfl ?_
 refine tO ?_
 exact wV s (CU.agg (fQN ((0:Int):Rat))) rfl kH rfl rfl (y9 _) (fun cs v W h1 h2=>⟨_,_,rfl,by rw [hq0];exact h1,h2⟩)
theorem zKu {W:Wi} {m:Nat} {v v':Wj} {k:Int} {d:Nat} (h:UV W m v k) (h':LV W m v' d) (hm:m<=2000) (hd0:0<d):Calls prog 55 #[v,v'] W (Ret W (zBm (fQN (mkRat k d)) (fI 0)).tS):=by
 have bk:k.natAbs<BB^m:=h.bound
 have hz:false=decide (d=0):=(zUh oO).symm
 have hdiv: ∀W u0 u1 x,LV W m u0 x->qC W u1 (Nat.gcd k.natAbs d)->Calls prog 85 #[u0,u1] W (Ret W (zLr (qR (x / (Nat.gcd k.natAbs d))) (qR (x % (Nat.gcd k.natAbs d))) (fI 0)).tS):=fun W u0 u1 x h1 h2=>by
  refine (zQQ h1 (qC.lv (m:=m) h2 (tP (Nat.gcd_le_right _ hd0) h'.bound)) oO (zU8 _ hd0)).mono ?_
  rintro e w' ⟨v1,v2,rfl,h3,h4,hb⟩
  exact ⟨_,rfl,⟨v1,v2,_,rfl,h3,h4,rfl⟩,hb⟩
 refine yF [(fUV m k).tS,(fLV m d).tS] func55 rfl kH ⟨h,h',trivial⟩ fun a s=> ?_
 refine tN ?_
 refine zB 0 [] hmix s kH
  zE fun a w1 s=> ?_
 refine qD (CU.agg (fUV m k)) rfl s kH (fun v W h=>zNI h) fun b2 a w s=> ?_
 refine yE (CU.len 3) (cs:=zR3) kH rfl s kH (fun W=>rfl) rfl fun b4 a w s=> ?_
 refine qN (uI 0) rfl s kH iiz fun a w s=> ?_
 refine zA rfl ?_
 refine tN ?_
 refine tN ?_
 refine zB 4 ((18, .Z (fLV m d))::(19, .Z (qR d))::(20, .s (zOk d))::(21, .u (uB false)):: []) hmix s kH
  (oc zC<|oc (zH zD zNs (fun u0 W hb (h0:LV W m u0 d)=>(zDs h0 oO)))<|oc (zDx kH iiz)<|oc (zDy hz)<|zE) fun a w2 s=> ?_
 refine zA rfl ?_
 refine StS.cond s false iiz (fun e=>by cases e) (fun e=> ?_)
 refine zBw ?_
 refine tN ?_
 refine zB 2 ((23, .Z (fUV m k))::(24, .u (fNV k)):: []) hmix s kH
  (oc (zR (f:=fUV m k) 2 kH (hz:=zNH _ _))<|oc (zH zD zPV (fun u0 W hb (h0:UV W m u0 k)=>zFG h0 oO))<|zE) fun a w3 s=> ?_
 refine zU (CU.agg (fNV k)) ((fNV k).tS) rfl s kH rfl rfl rfl (zNH _ _) iiz zFO fun a w s=> ?_
 refine zA rfl ?_
 refine tN ?_
 refine zB 8 ((26, .X (fNV k) 1)::(27, .Z (qR ((k).natAbs)))::(28, .Z (zBm (UF.eq (.int .u64 ((zI ((k).natAbs):Nat):Int))) (uB (yI ((k).natAbs)))))::(25, .Z (zBm (UF.eq (.int .u64 ((zI ((k).natAbs):Nat):Int))) (uB (yI ((k).natAbs)))))::(29, .Z (UF.eq (.int .u64 ((zI ((k).natAbs):Nat):Int))))::(30, .Z (uB (yI ((k).natAbs))))::(6, .u (UF.eq (.int .u64 ((zI ((k).natAbs):Nat):Int))))::(7, .u (uB (yI ((k).natAbs)))):: []) hmix s kH
  (oc (zP (C:=cg (fNV k)) 1 kH)<|oc (jI (C:=cg (fNV k)) (k:=1) kH (h:=zGJ))<|oc (zH zD zRw (fun u0 W hb (h0:qC W u0 ((k).natAbs))=>zGx (qC.lv (m:=m) h0 bk) oO))<|oc zC<|oc (zBr (A:=(UF.eq (.int .u64 ((zI ((k).natAbs):Nat):Int))).tS) (B:=(uB (yI ((k).natAbs))).tS) iiz)<|oc (zBq (A:=(UF.eq (.int .u64 ((zI ((k).natAbs):Nat):Int))).tS) (B:=(uB (yI ((k).natAbs))).tS) iiz)<|oc zG<|oc zG<|zE) fun a w4 s=> ?_
 refine zA rfl ?_
 refine tN ?_
 refine zB 7 ((32, .Z (fLV m d))::(33, .Z (zBm (UF.eq (.int .u64 ((zI d:Nat):Int))) (uB (yI d))))::(31, .Z (zBm (UF.eq (.int .u64 ((zI d:Nat):Int))) (uB (yI d))))::(34, .Z (UF.eq (.int .u64 ((zI d:Nat):Int))))::(35, .Z (uB (yI d)))::(8, .u (UF.eq (.int .u64 ((zI d:Nat):Int))))::(9, .u (uB (yI d))):: []) hmix s kH
  (oc zC<|oc (zH zD zRw (fun u0 W hb (h0:LV W m u0 d)=>zGx h0 oO))<|oc zC<|oc (zBr (A:=(UF.eq (.int .u64 ((zI d:Nat):Int))).tS) (B:=(uB (yI d)).tS) iiz)<|oc (zBq (A:=(UF.eq (.int .u64 ((zI d:Nat):Int))).tS) (B:=(uB (yI d)).tS) iiz)<|oc zG<|oc zG<|zE) fun a w5 s=> ?_
 refine zA rfl ?_
 refine tN ?_
 refine tN ?_
 refine zB 4 ((36, .Z (uB (yI ((k).natAbs))))::(37, .Z (uB (yI ((k).natAbs))))::(38, .s (SF.imp ((yI ((k).natAbs))=true) ((uB (yI d)).tS)))::(39, .u (uB ((yI ((k).natAbs))&&(yI d)))):: []) hmix s kH
  (oc zC<|oc zC<|oc (zF 37 (yI ((k).natAbs)) kH iiz (fun e=>zDf [] ((uB (yI d)).tS) fnz (fun _ _ h _=>h) kH zC) (fun e W h=>absurd h e))<|oc (qX (yI ((k).natAbs)) iiz (fun e v W h=>zIu (zBR e h) e) (fun e v W h=>zGE h e))<|zE) fun a w6 s=> ?_
 refine zA rfl ?_
 refine StS.cond s ((yI ((k).natAbs))&&(yI d)) iiz (fun e=> ?_) (fun e=> ?_)
 ·rw [Bool.and_eq_true] at e
  have hs1:zI k.natAbs=k.natAbs:=by have:=e.1;unfold yI at this;unfold zI;rw [if_pos (zUk this)]
  have hs2:zI d=d:=by have:=e.2;unfold yI at this;unfold zI;rw [if_pos (zUk this)]
  have hg0:((Nat.gcd (zI k.natAbs) (zI d):Nat):Int)≠0:=by rw [hs1,hs2];have:=zU8 k.natAbs hd0;omega
  have hden:(mkRat k d).den=zI d / (Nat.gcd (zI k.natAbs) (zI d)):=by rw [hs1,hs2];exact zCc k d hd0
  have hlt: ∀x,x<18446744073709551616->x<BB^zLq:=fun x hx=>zRg hx _ dA
  have hnum: ∀W u,UV W zLq u (if decide (k<0) then -(((zI k.natAbs / (Nat.gcd (zI k.natAbs) (zI d))):Nat):Int) else (((zI k.natAbs / (Nat.gcd (zI k.natAbs) (zI d))):Nat):Int))->Calls prog 69 #[u] W (zGa W (mkRat k d).num):=fun W u hu=>by
   have:=zFG hu dA
   rw [hs1,hs2,zDJ k d hd0] at this
   exact this
  refine tN ?_
  refine zB 4 ((40, .Z (UF.eq (.int .u64 ((zI ((k).natAbs):Nat):Int))))::(41, .Z (UF.eq (.int .u64 ((zI d:Nat):Int))))::(42, .Z (UF.eq (.int .u64 ((Nat.gcd (zI k.natAbs) (zI d):Nat):Int))))::(10, .u (UF.eq (.int .u64 ((Nat.gcd (zI k.natAbs) (zI d):Nat):Int)))):: []) hmix s kH
   (oc zC<|oc zC<|oc (zM zD zSS (fun u0 u1 W hb (h0:u0= .int .u64 ((zI ((k).natAbs):Nat):Int)) (h1:u1= .int .u64 ((zI d:Nat):Int))=>zKt _ _ h0 h1 (zAA _) (zAA _)))<|oc zG<|zE) fun a w7 s=> ?_
  refine zA rfl ?_
  refine tN ?_
  replace s:=s.drop [5]
  refine yK [2,3,8,9] 13 ((43, .X (fNV k) 0)::(44, .Z (uB (decide (k<0))))::(45, .Z (UF.eq (.int .u64 ((zI ((k).natAbs):Nat):Int))))::(46, .Z (UF.eq (.int .u64 ((Nat.gcd (zI k.natAbs) (zI d):Nat):Int))))::(47, .Z (UF.eq (.int .u64 ((zI k.natAbs / (Nat.gcd (zI k.natAbs) (zI d)):Nat):Int))))::(48, .Z (qR (zI k.natAbs / (Nat.gcd (zI k.natAbs) (zI d)))))::(49, .Z (fUV zLq (if decide (k<0) then -((zI k.natAbs / (Nat.gcd (zI k.natAbs) (zI d)):Nat):Int) else ((zI k.natAbs / (Nat.gcd (zI k.natAbs) (zI d)):Nat):Int))))::(50, .Z (fNV ((mkRat k d).num)))::(51, .Z (UF.eq (.int .u64 ((zI d:Nat):Int))))::(52, .Z (UF.eq (.int .u64 ((Nat.gcd (zI k.natAbs) (zI d):Nat):Int))))::(53, .Z (UF.eq (.int .u64 ((zI d / (Nat.gcd (zI k.natAbs) (zI d)):Nat):Int))))::(54, .Z (qR (zI d / (Nat.gcd (zI k.natAbs) (zI d)))))::(55, .u (fQN (mkRat k d))):: []) hmix s kH
   (oc (zP (C:=cg (fNV k)) 0 kH)<|oc (jI (C:=cg (fNV k)) (k:=0) kH (h:=zKU))<|oc zC<|oc zC<|oc (zKQ .u64 ((zI ((k).natAbs):Nat):Int) ((Nat.gcd (zI k.natAbs) (zI d):Nat):Int) ((zI k.natAbs / (Nat.gcd (zI k.natAbs) (zI d)):Nat):Int) iiz iiz hg0 (zQq _ _ (by rw [zUT oO,Int.natCast_ediv]) (tP (tX _ _) (zAA _))))<|oc (zH zD zRA (fun u0 W hb (h0:u0= .int .u64 ((zI k.natAbs / (Nat.gcd (zI k.natAbs) (zI d)):Nat):Int))=>zN3 _ (tP (tX _ _) (zAA _)) h0))<|oc (jA (fun u v W (hu:u= .bool (decide (k<0))) (hv:qC W v (zI k.natAbs / (Nat.gcd (zI k.natAbs) (zI d))))=>zP8 hu hv (hlt _ (by first|exact tP (tX _ _) (zAA _)|exact hk64|exact tP (tX _ _) (tU bk (zF0 yS (tS hm dA)))))))<|oc (zH zD zPV (fun u0 W hb (h0:UV W zLq u0 (if decide (k<0) then -((zI k.natAbs / (Nat.gcd (zI k.natAbs) (zI d)):Nat):Int) else ((zI k.natAbs / (Nat.gcd (zI k.natAbs) (zI d)):Nat):Int)))=>hnum W u0 (h0:UV W zLq u0 _)))<|oc zC<|oc zC<|oc (zKQ .u64 ((zI d:Nat):Int) ((Nat.gcd (zI k.natAbs) (zI d):Nat):Int) ((zI d / (Nat.gcd (zI k.natAbs) (zI d)):Nat):Int) iiz iiz hg0 (zQq _ _ (by rw [zUT oO,Int.natCast_ediv]) (tP (tX _ _) (zAA _))))<|oc (zH zD zRA (fun u0 W hb (h0:u0= .int .u64 ((zI d / (Nat.gcd (zI k.natAbs) (zI d)):Nat):Int))=>zN3 _ (tP (tX _ _) (zAA _)) h0))<|oc (jA (fun u v W (hu:NV W u ((mkRat k d).num)) (hv:qC W v (zI d / (Nat.gcd (zI k.natAbs) (zI d))))=>zG1 (q:=mkRat k d) hu (by first|exact hv|(rw [hden];exact hv))))<|zE) fun Q' hQ a w8 s=> ?_
  refine zU (CU.agg (fQN (mkRat k d))) ((fQN (mkRat k d)).tS) rfl s kH rfl rfl rfl iiz iiz yB fun a w s=> ?_
  refine qN (uI 0) rfl s kH iiz fun a w s=> ?_
  refine zA rfl (hQ _ _ ?_)
  refine tO ?_
  exact wV s (CU.agg (fQN (mkRat k d))) rfl kH rfl rfl (y9 _) (fun cs v W h1 h2=>⟨_,_,rfl,h1,h2⟩)
 ·have hlt: ∀x,x<BB^zLq->x<BB^zLq:=fun x hx=>hx
  have hden:(mkRat k d).den=d / (Nat.gcd k.natAbs d):=zCc k d hd0
  have hnum: ∀W u,UV W zLq u (if decide (k<0) then -((((k).natAbs / (Nat.gcd k.natAbs d)):Nat):Int) else ((((k).natAbs / (Nat.gcd k.natAbs d)):Nat):Int))->Calls prog 69 #[u] W (zGa W (mkRat k d).num):=fun W u hu=>by
   have:=zFG hu dA
   rw [zDJ k d hd0] at this
   exact this
  refine zBw ?_
  refine tN ?_
  refine zB 5 ((56, .X (fNV k) 1)::(57, .Z (qR ((k).natAbs)))::(58, .Z (fLV m d))::(59, .Z (qR (Nat.gcd k.natAbs d)))::(11, .u (qR (Nat.gcd k.natAbs d))):: []) hmix s kH
   (oc (zP (C:=cg (fNV k)) 1 kH)<|oc (jI (C:=cg (fNV k)) (k:=1) kH (h:=zGJ))<|oc zC<|oc (zM zD zSR (fun u0 u1 W hb (h0:qC W u0 ((k).natAbs)) (h1:LV W m u1 d)=>zPn (qC.lv (m:=m) h0 bk) h1 oO))<|oc zG<|zE) fun a w9 s=> ?_
  refine zA rfl ?_
  refine tN ?_
  refine zB 11 ((61, .X (fNV k) 1)::(62, .Z (qR ((k).natAbs)))::(63, .Z (qR (Nat.gcd k.natAbs d)))::(64, .Z (zLr (qR (((k).natAbs) / (Nat.gcd k.natAbs d))) (qR (((k).natAbs) % (Nat.gcd k.natAbs d))) (uI 0)))::(60, .Z (zLr (qR (((k).natAbs) / (Nat.gcd k.natAbs d))) (qR (((k).natAbs) % (Nat.gcd k.natAbs d))) (uI 0)))::(65, .Z (qR (((k).natAbs) / (Nat.gcd k.natAbs d))))::(66, .Z (qR (((k).natAbs) % (Nat.gcd k.natAbs d))))::(67, .Z (uI 0))::(12, .u (qR (((k).natAbs) / (Nat.gcd k.natAbs d))))::(13, .Z (qR (((k).natAbs) % (Nat.gcd k.natAbs d))))::(14, .Z (uI 0)):: []) hmix s kH
   (oc (zP (C:=cg (fNV k)) 1 kH)<|oc (jI (C:=cg (fNV k)) (k:=1) kH (h:=zGJ))<|oc zC<|oc (zM zD zRv (fun u0 u1 W hb (h0:qC W u0 ((k).natAbs)) (h1:qC W u1 (Nat.gcd k.natAbs d))=>hdiv W u0 u1 _ (qC.lv (m:=m) h0 bk) h1))<|oc zC<|oc (zIA (A:=(qR (((k).natAbs) / (Nat.gcd k.natAbs d))).tS) (B:=(qR (((k).natAbs) % (Nat.gcd k.natAbs d))).tS) (C:=(uI 0).tS) iiz)<|oc (zIz (A:=(qR (((k).natAbs) / (Nat.gcd k.natAbs d))).tS) (B:=(qR (((k).natAbs) % (Nat.gcd k.natAbs d))).tS) (C:=(uI 0).tS) iiz)<|oc (zIy (A:=(qR (((k).natAbs) / (Nat.gcd k.natAbs d))).tS) (B:=(qR (((k).natAbs) % (Nat.gcd k.natAbs d))).tS) (C:=(uI 0).tS) iiz)<|oc zG<|oc zG<|oc zG<|zE) fun a w10 s=> ?_
  refine zA rfl ?_
  refine tN ?_
  refine zB 10 ((69, .Z (fLV m d))::(70, .Z (qR (Nat.gcd k.natAbs d)))::(71, .Z (zLr (qR (d / (Nat.gcd k.natAbs d))) (qR (d % (Nat.gcd k.natAbs d))) (uI 0)))::(68, .Z (zLr (qR (d / (Nat.gcd k.natAbs d))) (qR (d % (Nat.gcd k.natAbs d))) (uI 0)))::(72, .Z (qR (d / (Nat.gcd k.natAbs d))))::(73, .Z (qR (d % (Nat.gcd k.natAbs d))))::(74, .Z (uI 0))::(15, .u (qR (d / (Nat.gcd k.natAbs d))))::(16, .Z (qR (d % (Nat.gcd k.natAbs d))))::(17, .Z (uI 0)):: []) hmix s kH
   (oc zC<|oc zC<|oc (zM zD zRv (fun u0 u1 W hb (h0:LV W m u0 d) (h1:qC W u1 (Nat.gcd k.natAbs d))=>hdiv W u0 u1 _ h0 h1))<|oc zC<|oc (zIA (A:=(qR (d / (Nat.gcd k.natAbs d))).tS) (B:=(qR (d % (Nat.gcd k.natAbs d))).tS) (C:=(uI 0).tS) iiz)<|oc (zIz (A:=(qR (d / (Nat.gcd k.natAbs d))).tS) (B:=(qR (d % (Nat.gcd k.natAbs d))).tS) (C:=(uI 0).tS) iiz)<|oc (zIy (A:=(qR (d / (Nat.gcd k.natAbs d))).tS) (B:=(qR (d % (Nat.gcd k.natAbs d))).tS) (C:=(uI 0).tS) iiz)<|oc zG<|oc zG<|oc zG<|zE) fun a w11 s=> ?_
  refine zA rfl ?_
  refine tN ?_
  replace s:=s.drop [5]
  refine zB 7 ((75, .X (fNV k) 0)::(76, .Z (uB (decide (k<0))))::(77, .Z (qR (((k).natAbs) / (Nat.gcd k.natAbs d))))::(78, .Z (fUV zLq (if decide (k<0) then -((((k).natAbs) / (Nat.gcd k.natAbs d):Nat):Int) else ((((k).natAbs) / (Nat.gcd k.natAbs d):Nat):Int))))::(79, .Z (fNV ((mkRat k d).num)))::(80, .Z (qR (d / (Nat.gcd k.natAbs d))))::(81, .u (fQN (mkRat k d))):: []) hmix s kH
   (oc (zP (C:=cg (fNV k)) 0 kH)<|oc (jI (C:=cg (fNV k)) (k:=0) kH (h:=zKU))<|oc zC<|oc (jA (fun u v W (hu:u= .bool (decide (k<0))) (hv:qC W v (((k).natAbs) / (Nat.gcd k.natAbs d)))=>zP8 hu hv (hlt _ (by first|exact tP (tX _ _) (zAA _)|exact hk64|exact tP (tX _ _) (tU bk (zF0 yS (tS hm dA)))))))<|oc (zH zD zPV (fun u0 W hb (h0:UV W zLq u0 (if decide (k<0) then -((((k).natAbs) / (Nat.gcd k.natAbs d):Nat):Int) else ((((k).natAbs) / (Nat.gcd k.natAbs d):Nat):Int)))=>hnum W u0 (h0:UV W zLq u0 _)))<|oc zC<|oc (jA (fun u v W (hu:NV W u ((mkRat k d).num)) (hv:qC W v (d / (Nat.gcd k.natAbs d)))=>zG1 (q:=mkRat k d) hu (by first|exact hv|(rw [hden];exact hv))))<|zE) fun a w12 s=> ?_
  refine zU (CU.agg (fQN (mkRat k d))) ((fQN (mkRat k d)).tS) rfl s kH rfl rfl rfl iiz iiz yB fun a w s=> ?_
  refine qN (uI 0) rfl s kH iiz fun a w s=> ?_
  refine zA rfl ?_
  refine tO ?_
  exact wV s (CU.agg (fQN (mkRat k d))) rfl kH rfl rfl (y9 _) (fun cs v W h1 h2=>⟨_,_,rfl,h1,h2⟩)
theorem zHv {W:Wi} {m:Nat} {v v':Wj} {k:Int} {d:Nat} (h:UV W m v k) (h':LV W m v' d) (hm:m<=2000):Calls prog 55 #[v,v'] W (Ret W (zBm (fQN (mkRat k d)) (fI (if d=0 then 30 else 0))).tS):=by
 by_cases hd:d=0
 ·rw [if_pos hd]
  exact zPd h h' hm hd
 ·rw [if_neg hd]
  exact zKu h h' hm oO
end Go.Proofs.Wd

namespace Go.Proofs.Wd
open Tryz
set_option maxRecDepth 100000
open Go.RowKit Lb
theorem zMM {W:Wi} {m:Nat} {v:Wj} {k:Int} {d:Nat} (h:QVp m k d v W) (hm:m<=2000):Calls prog 43 #[v] W (Ret W (fQN (mkRat k d)).tS):=by
 refine yF [(fQV m k d).tS] func43 rfl kH ⟨h,trivial⟩ fun a s=> ?_
 refine tN ?_
 refine zB 0 [] hmix s kH
  zE fun a w1 s=> ?_
 refine qD (CU.agg (fQV m k d)) rfl s kH (fun v W h=>zEp h) fun b1 a w s=> ?_
 refine yE (CU.len 3) (cs:=zR3) kH rfl s kH (fun W=>rfl) rfl fun b2 a w s=> ?_
 refine zA rfl ?_
 refine tN ?_
 refine zB 8 ((6, .X (fQV m k d) 0)::(7, .Z (fUV m k))::(8, .X (fQV m k d) 2)::(9, .Z (fLV m d))::(10, .Z (zBm (fQN (mkRat k d)) (uI (if d=0 then 30 else 0))))::(5, .Z (zBm (fQN (mkRat k d)) (uI (if d=0 then 30 else 0))))::(11, .u (fQN (mkRat k d)))::(12, .u (uI (if d=0 then 30 else 0))):: []) hmix s kH
  (oc (zP (C:=cg (fQV m k d)) 0 kH)<|oc (zS (C:=cg (fQV m k d)) (k:=0) 2 kH (h:=zKy))<|oc (zP (C:=cg (fQV m k d)) 2 kH)<|oc (jI (C:=cg (fQV m k d)) (k:=2) kH (h:=zGy))<|oc (zM zD zNq (fun u0 u1 W hb (h0:UV W m u0 k) (h1:LV W m u1 d)=>zHv h0 h1 hm))<|oc zC<|oc (zBr (A:=(fQN (mkRat k d)).tS) (B:=(uI (if d=0 then 30 else 0)).tS) iiz)<|oc (zBq (A:=(fQN (mkRat k d)).tS) (B:=(uI (if d=0 then 30 else 0)).tS) iiz)<|zE) fun a w2 s=> ?_
 refine yE (CU.len 3) (cs:=zR3) kH rfl s kH (fun W=>rfl) rfl fun b3 a w s=> ?_
 refine zU (CU.agg (fQN (mkRat k d))) ((fQN (mkRat k d)).tS) rfl s kH rfl rfl rfl iiz iiz yB fun a w s=> ?_
 refine qN (uI (if d=0 then 30 else 0)) rfl s kH iiz fun a w s=> ?_
 refine zA rfl ?_
 refine tN ?_
 refine zB 1 ((13, .u (fQN (mkRat k d))):: []) hmix s kH
  (oc (zR (f:=fQN (mkRat k d)) 3 kH (hz:=y9 _))<|zE) fun a w3 s=> ?_
 refine zU (CU.agg (fQN (mkRat k d))) ((fQN (mkRat k d)).tS) rfl s kH rfl rfl rfl iiz iiz yB fun a w s=> ?_
 refine zA rfl ?_
 refine tO ?_
 exact wJ s (CU.agg (fQN (mkRat k d))) rfl kH rfl rfl (y9 _) (fun cs W h=>h)
theorem zBI {W:Wi} {m:Nat} {v:Wj} {q:Rat} (h:RVp m q v W) (hm:m<=2000):Calls prog 43 #[v] W (Ret W (fQN q).tS):=by
 obtain ⟨k,d,h1,rfl⟩:=h
 exact zMM h1 hm
theorem zKs (n:Int) (d:Nat) (hd:0<d):(mkRat n d).num.sign=n.sign:=by
 have h1:=decide_eq_decide.1 (zBP n d hd)
 have h2:(mkRat n d).num=0↔n=0:=by rw [zUD,Rat.mkRat_eq_zero oO]
 rcases Int.lt_trichotomy n 0 with h|h|h
 ·rw [zUU h,zUU (h1.2 h)]
 ·rw [h2.2 h,h]
 ·rw [zUV h,zUV (by have:=mt h1.1 oO;have:=mt h2.1 oO;omega)]
theorem zMK {W:Wi} {m:Nat} {v:Wj} {k:Int} {d:Nat} (h:QVp m k d v W) (hm:m<=2000) (hd:d=0):Calls prog 12 #[v] W (Ret W (fI 0).tS):=by
 have hz:true=decide (d=0):=(zUg hd).symm
 refine yF [(fQV m k d).tS] func12 rfl kH ⟨h,trivial⟩ fun a s=> ?_
 refine tN ?_
 refine zB 0 [] hmix s kH
  zE fun a w1 s=> ?_
 refine qD (CU.agg (fQV m k d)) rfl s kH (fun v W h=>zEp h) fun b1 a w s=> ?_
 refine qN (uI 0) rfl s kH iiz fun a w s=> ?_
 refine zA rfl ?_
 refine tN ?_
 refine tN ?_
 refine zB 5 ((3, .X (fQV m k d) 2)::(4, .Z (fLV m d))::(5, .Z (qR d))::(6, .s (zOk d))::(7, .u (uB true)):: []) hmix s kH
  (oc (zP (C:=cg (fQV m k d)) 2 kH)<|oc (jI (C:=cg (fQV m k d)) (k:=2) kH (h:=zGy))<|oc (zH zD zNs (fun u0 W hb (h0:LV W m u0 d)=>(zDs h0 oO)))<|oc (zDx kH iiz)<|oc (zDy hz)<|zE) fun a w2 s=> ?_
 refine zA rfl ?_
 refine StS.cond s true iiz (fun e=> ?_) (fun e=>by cases e)
 refine tN ?_
 replace s:=s.drop [2]
 refine zB 1 ((2, .u (uI 0)):: []) hmix s kH
  (oc zG<|zE) fun a w3 s=> ?_
 refine zA rfl ?_
 refine tO ?_
 exact wF s (t:=2) rfl iiz
theorem zML {W:Wi} {m:Nat} {v:Wj} {k:Int} {d:Nat} (h:QVp m k d v W) (hm:m<=2000) (hd:0<d):Calls prog 12 #[v] W (Ret W (fI k.sign).tS):=by
 have hz:false=decide (d=0):=(zUh oO).symm
 refine yF [(fQV m k d).tS] func12 rfl kH ⟨h,trivial⟩ fun a s=> ?_
 refine tN ?_
 refine zB 0 [] hmix s kH
  zE fun a w1 s=> ?_
 refine qD (CU.agg (fQV m k d)) rfl s kH (fun v W h=>zEp h) fun b1 a w s=> ?_
 refine qN (uI 0) rfl s kH iiz fun a w s=> ?_
 refine zA rfl ?_
 refine tN ?_
 refine tN ?_
 refine zB 5 ((3, .X (fQV m k d) 2)::(4, .Z (fLV m d))::(5, .Z (qR d))::(6, .s (zOk d))::(7, .u (uB false)):: []) hmix s kH
  (oc (zP (C:=cg (fQV m k d)) 2 kH)<|oc (jI (C:=cg (fQV m k d)) (k:=2) kH (h:=zGy))<|oc (zH zD zNs (fun u0 W hb (h0:LV W m u0 d)=>(zDs h0 oO)))<|oc (zDx kH iiz)<|oc (zDy hz)<|zE) fun a w2 s=> ?_
 refine zA rfl ?_
 refine StS.cond s false iiz (fun e=>by cases e) (fun e=> ?_)
 refine zBw ?_
 refine tN ?_
 replace s:=s.drop [2]
 refine zB 4 ((8, .X (fQV m k d) 0)::(9, .Z (fUV m k))::(10, .Z (uI (k.sign)))::(2, .u (uI (k.sign))):: []) hmix s kH
  (oc (zP (C:=cg (fQV m k d)) 0 kH)<|oc (zS (C:=cg (fQV m k d)) (k:=0) 2 kH (h:=zKy))<|oc (zH zD zRG (fun u0 W hb (h0:UV W m u0 k)=>zD5 (zIk h0 oO)))<|oc zG<|zE) fun a w3 s=> ?_
 refine zA rfl ?_
 refine tO ?_
 exact wF s (t:=2) rfl iiz
theorem zIi {W:Wi} {m:Nat} {v:Wj} {q:Rat} (h:RVp m q v W) (hm:m<=2000):Calls prog 12 #[v] W (Ret W (fI q.num.sign).tS):=by
 obtain ⟨k,d,h1,rfl⟩:=h
 by_cases hd:d=0
 ·have:=zMK h1 hm hd
  rw [hd,zUK]
  exact this
 ·rw [zKs k d oO]
  exact zML h1 hm oO
theorem zPb {W:Wi} {m:Nat} {u v:Wj} {p q:Rat} (h:QNp p u W) (h':QNp q v W) (hp:QB p m) (hq:QB q m) (hm:m<=990):Calls prog 42 #[u,v] W (Ret W (fQN (p+q)).tS):=by
 have hnew: ∀W u0 u1,NV W u0 (((p).num*((q).den:Int))+((q).num*((p).den:Int)))->qC W u1 ((p).den*(q).den)->Calls prog 55 #[u0,u1] W (Ret W (zBm (fQN (p+q)) UF.any).tS):=fun W u0 u1 h0 h1=>by
  have:=zHv (m:=m+m+1) (h0.uv' (hp.num_add hq)) (h1.lv (tU (hp.den_mul hq) (zF0 yS oO))) oO
  rw [<-Rat.add_def' p q] at this
  exact this.mono fun e w' ⟨v,e1,⟨x,y,e2,h2,_⟩,hb⟩=>⟨v,e1,⟨x,y,e2,h2,trivial⟩,hb⟩
 refine yF [(fQN p).tS,(fQN q).tS] func42 rfl kH ⟨h,h',trivial⟩ fun a s=> ?_
 refine tN ?_
 refine zB 0 [] hmix s kH
  zE fun a w1 s=> ?_
 refine qD (CU.agg (fQN p)) rfl s kH (fun v W h=>zIo h) fun b2 a w s=> ?_
 refine qD (CU.agg (fQN q)) rfl s kH (fun v W h=>zIo h) fun b3 a w s=> ?_
 refine yE (CU.len 3) (cs:=zR3) kH rfl s kH (fun W=>rfl) rfl fun b4 a w s=> ?_
 refine zA rfl ?_
 refine tN ?_
 have so:=s.old;have sg:=s.gr
 refine zBi (fun i=> [24].contains i) [⟨25,5,28, [.bool false, .slice none 0 0, .slice none 0 0],wI w 28 (CU.len 3)⟩] 26 ((8, .X (fQN p) 0)::(9, .Z (fNV ((p).num)))::(10, .X (fQN q) 2)::(11, .Z (qR ((q).den)))::(12, .Z (fNV ((q).den:Int)))::(13, .s (zJm (m+m) [(p).num,((q).den:Int)]))::(14, .Z (fNV ((p).num*((q).den:Int))))::(15, .X (fQN q) 0)::(16, .Z (fNV ((q).num)))::(17, .X (fQN p) 2)::(18, .Z (qR ((p).den)))::(19, .Z (fNV ((p).den:Int)))::(20, .s (zJm (m+m) [(q).num,((p).den:Int)]))::(21, .Z (fNV ((q).num*((p).den:Int))))::(22, .s (zJm (m+m) [((p).num*((q).den:Int)),((q).num*((p).den:Int))]))::(23, .Z (fNV (((p).num*((q).den:Int))+((q).num*((p).den:Int)))))::(24, .X (fQN p) 2)::(25, .Z (qR ((p).den)))::(26, .X (fQN q) 2)::(27, .Z (qR ((q).den)))::(28, .Z (qR ((p).den*(q).den)))::(29, .Z (zBm (fQN (p+q)) (UF.any)))::(7, .Z (zBm (fQN (p+q)) (UF.any)))::(30, .u (fQN (p+q)))::(5, .s (wI w 28 (CU.len 3))):: []) hmix s (fmz ⟨⟨by show 25<26;decide, .tail _ (.tail _ (.tail _ (.tail _ (.tail _ (.tail _ (.tail _ (.tail _ (.tail _ zTC)))))))),⟨_,_,_,rfl⟩,by kernel_rfl,zB8 (fun _=>rfl) rfl⟩,fnz⟩) kH
  (oc (zP (C:=cg (fQN p)) 0 kH)<|oc (zS (C:=cg (fQN p)) (k:=0) 2 kH (h:=zAQ))<|oc (zP (C:=cg (fQN q)) 2 kH)<|oc (jI (C:=cg (fQN q)) (k:=2) kH (h:=zAC))<|oc (zH zD zNp (fun u0 W hb (h0:qC W u0 ((q).den))=>zIv h0))<|oc (yC (fun u v W (hu:NV W u ((p).num)) (hv:NV W v ((q).den:Int))=>zAS (NV.uv' hu (Bd.mono (hp).1 (m':=(m+m)) (by first|omega|decide))) (NV.uv' hv (Bd.mono (zAe hq.2) (m':=(m+m)) (by first|omega|decide)))))<|oc (zH zD zJn (fun u0 W hb (h0:ISV W (m+m) u0 [(p).num,((q).den:Int)])=>zDu h0 (by show (m+m)*2+(m+m)+1<=40000;omega) fM fM))<|oc (zP (C:=cg (fQN q)) 0 kH)<|oc (zS (C:=cg (fQN q)) (k:=0) 2 kH (h:=zAQ))<|oc (zP (C:=cg (fQN p)) 2 kH)<|oc (jI (C:=cg (fQN p)) (k:=2) kH (h:=zAC))<|oc (zH zD zNp (fun u0 W hb (h0:qC W u0 ((p).den))=>zIv h0))<|oc (yC (fun u v W (hu:NV W u ((q).num)) (hv:NV W v ((p).den:Int))=>zAS (NV.uv' hu (Bd.mono (hq).1 (m':=(m+m)) (by first|omega|decide))) (NV.uv' hv (Bd.mono (zAe hp.2) (m':=(m+m)) (by first|omega|decide)))))<|oc (zH zD zJn (fun u0 W hb (h0:ISV W (m+m) u0 [(q).num,((p).den:Int)])=>zDu h0 (by show (m+m)*2+(m+m)+1<=40000;omega) fM fM))<|oc (yC (fun u v W (hu:NV W u ((p).num*((q).den:Int))) (hv:NV W v ((q).num*((p).den:Int)))=>zAS (NV.uv' hu (Bd.mul (hp).1 (zAe hq.2))) (NV.uv' hv (Bd.mul (hq).1 (zAe hp.2)))))<|oc (zH zD zSY (fun u0 W hb (h0:ISV W (m+m) u0 [((p).num*((q).den:Int)),((q).num*((p).den:Int))])=>zPl h0 oO fM fM))<|oc (zP (C:=cg (fQN p)) 2 kH)<|oc (jI (C:=cg (fQN p)) (k:=2) kH (h:=zAC))<|oc (zP (C:=cg (fQN q)) 2 kH)<|oc (jI (C:=cg (fQN q)) (k:=2) kH (h:=zAC))<|oc (zM zD zPW (fun u0 u1 W hb (h0:qC W u0 ((p).den)) (h1:qC W u1 ((q).den))=>zKf (qC.lv (m:=m) h0 hp.2) (qC.lv (m:=m) h1 hq.2) oO))<|oc (zM zD zNq (fun u0 u1 W hb (h0:NV W u0 (((p).num*((q).den:Int))+((q).num*((p).den:Int)))) (h1:qC W u1 ((p).den*(q).den))=>hnew W u0 u1 h0 h1))<|oc zC<|oc (zBr (A:=(fQN (p+q)).tS) (B:=(UF.any).tS) iiz)<|oc (zBq (A:=(fQN (p+q)).tS) (B:=(UF.any).tS) iiz)<|oc (zC7 (cs:=zR3) kH (zB8 (fun _=>rfl) rfl))<|zE) fun Q' hQ a w2 s hr hd=> ?_
 obtain ⟨b5,_,e5,s⟩:=s.adoptA false 5 (hr (_,_) (.tail _ (.tail _ (.tail _ (.tail _ (.tail _ (.tail _ (.tail _ (.tail _ (.tail _ zTC)))))))))) sg (fun y hy=> .inl (so y hy))
 refine zU (CU.agg (fQN (p+q))) ((fQN (p+q)).tS) rfl s kH rfl rfl rfl iiz iiz yB fun a w s=> ?_
 refine qN UF.any rfl s kH (fun _ _ _=>trivial) fun a w s=> ?_
 refine zA rfl (hQ _ _ ?_)
 refine tN ?_
 refine zB 1 ((32, .u (fQN (p+q))):: []) hmix s kH
  (oc (zR (f:=fQN (p+q)) 3 kH (hz:=y9 _))<|zE) fun a w3 s=> ?_
 refine zU (CU.agg (fQN (p+q))) ((fQN (p+q)).tS) rfl s kH rfl rfl rfl iiz iiz yB fun a w s=> ?_
 refine zA rfl ?_
 refine tO ?_
 exact wJ s (CU.agg (fQN (p+q))) rfl kH rfl rfl (y9 _) (fun cs W h=>h)
theorem zPe {W:Wi} {m:Nat} {v:Wj} {q:Rat} (h:RVp m q v W) (hm:m<=990) (hm0:0<m):Calls prog 45 #[v] W (Ret W (fQN (-q)).tS):=by
 have hq:QB q m:=h.qb hm0
 refine yF [(fRV m q).tS] func45 rfl kH ⟨h,trivial⟩ fun a s=> ?_
 refine tN ?_
 refine zB 0 [] hmix s kH
  zE fun a w1 s=> ?_
 refine qD (CU.agg (fRV m q)) rfl s kH (fun v W h=>zAZ h) fun b1 a w s=> ?_
 refine yE (CU.len 3) (cs:=zR3) kH rfl s kH (fun W=>rfl) rfl fun b2 a w s=> ?_
 refine zA rfl ?_
 refine tN ?_
 refine zB 2 ((3, .Z (fRV m q))::(4, .u (fQN q)):: []) hmix s kH
  (oc (zR (f:=fRV m q) 3 kH (hz:=jN _ _))<|oc (zH zD zHJ (fun u0 W hb (h0:RVp m q u0 W)=>zBI h0 oO))<|zE) fun a w2 s=> ?_
 refine zU (CU.agg (fQN q)) ((fQN q).tS) rfl s kH rfl rfl rfl (jN _ _) iiz yB fun a w s=> ?_
 refine zA rfl ?_
 refine tN ?_
 refine yK [] 6 ((5, .X (fQN q) 0)::(6, .Z (fNV ((q).num)))::(7, .Z (fNV (-(q).num)))::(8, .X (fQN q) 2)::(9, .Z (qR ((q).den)))::(10, .u (fQN (-q))):: []) hmix s kH
  (oc (zP (C:=cg (fQN q)) 0 kH)<|oc (zS (C:=cg (fQN q)) (k:=0) 2 kH (h:=zAQ))<|oc (zH zD zSX (fun u0 W hb (h0:NV W u0 ((q).num))=>zPj (NV.uv' h0 (hq).1) oO))<|oc (zP (C:=cg (fQN q)) 2 kH)<|oc (jI (C:=cg (fQN q)) (k:=2) kH (h:=zAC))<|oc (jA (fun u v W (hu:NV W u (-(q).num)) (hv:qC W v ((q).den))=>zG1 (q:= -q) hu hv))<|zE) fun Q' hQ a w3 s=> ?_
 refine zU (CU.agg (fQN (-q))) ((fQN (-q)).tS) rfl s kH rfl rfl rfl iiz iiz yB fun a w s=> ?_
 refine zA rfl (hQ _ _ ?_)
 refine tO ?_
 exact wJ s (CU.agg (fQN (-q))) rfl kH rfl rfl (y9 _) (fun cs W h=>h)
theorem zPg {W:Wi} {m:Nat} {u v:Wj} {p q:Rat} (h:RVp m p u W) (h':RVp m q v W) (hm:m<=990) (hm0:0<m):Calls prog 46 #[u,v] W (Ret W (fI (qsg p q)).tS):=by
 have hp:QB p m:=h.qb hm0
 have hq:QB q m:=h'.qb hm0
 refine yF [(fRV m p).tS,(fRV m q).tS] func46 rfl kH ⟨h,h',trivial⟩ fun a s=> ?_
 refine tN ?_
 refine zB 0 [] hmix s kH
  zE fun a w1 s=> ?_
 refine qD (CU.agg (fRV m p)) rfl s kH (fun v W h=>zAZ h) fun b2 a w s=> ?_
 refine qD (CU.agg (fRV m q)) rfl s kH (fun v W h=>zAZ h) fun b3 a w s=> ?_
 refine qN (uI 0) rfl s kH iiz fun a w s=> ?_
 refine zA rfl ?_
 refine tN ?_
 refine yK [] 4 ((5, .Z (fRV m p))::(6, .u (fQN p))::(7, .Z (fRV m q))::(8, .u (fQN q)):: []) hmix s kH
  (oc (zR (f:=fRV m p) 3 kH (hz:=jN _ _))<|oc (zH zD zHJ (fun u0 W hb (h0:RVp m p u0 W)=>zBI h0 oO))<|oc (zR (f:=fRV m q) 3 kH (hz:=jN _ _))<|oc (zH zD zHJ (fun u0 W hb (h0:RVp m q u0 W)=>zBI h0 oO))<|zE) fun Q' hQ a w2 s=> ?_
 refine zU (CU.agg (fQN p)) ((fQN p).tS) rfl s kH rfl rfl rfl (jN _ _) iiz yB fun a w s=> ?_
 refine zU (CU.agg (fQN q)) ((fQN q).tS) rfl s kH rfl rfl rfl (jN _ _) iiz yB fun a w s=> ?_
 refine zA rfl (hQ _ _ ?_)
 refine tN ?_
 replace s:=s.drop [4]
 refine zB 17 ((9, .X (fQN p) 0)::(10, .Z (fNV ((p).num)))::(11, .X (fQN q) 2)::(12, .Z (qR ((q).den)))::(13, .Z (fNV ((q).den:Int)))::(14, .s (zJm (m+m) [(p).num,((q).den:Int)]))::(15, .Z (fNV ((p).num*((q).den:Int))))::(16, .X (fQN q) 0)::(17, .Z (fNV ((q).num)))::(18, .X (fQN p) 2)::(19, .Z (qR ((p).den)))::(20, .Z (fNV ((p).den:Int)))::(21, .s (zJm (m+m) [(q).num,((p).den:Int)]))::(22, .Z (fNV ((q).num*((p).den:Int))))::(23, .Z (fNV (((p).num*((q).den:Int)) - ((q).num*((p).den:Int)))))::(24, .Z (uI (qsg p q)))::(4, .u (uI (qsg p q))):: []) hmix s kH
  (oc (zP (C:=cg (fQN p)) 0 kH)<|oc (zS (C:=cg (fQN p)) (k:=0) 2 kH (h:=zAQ))<|oc (zP (C:=cg (fQN q)) 2 kH)<|oc (jI (C:=cg (fQN q)) (k:=2) kH (h:=zAC))<|oc (zH zD zNp (fun u0 W hb (h0:qC W u0 ((q).den))=>zIv h0))<|oc (yC (fun u v W (hu:NV W u ((p).num)) (hv:NV W v ((q).den:Int))=>zAS (NV.uv' hu (Bd.mono (hp).1 (m':=(m+m)) (by first|omega|decide))) (NV.uv' hv (Bd.mono (zAe hq.2) (m':=(m+m)) (by first|omega|decide)))))<|oc (zH zD zJn (fun u0 W hb (h0:ISV W (m+m) u0 [(p).num,((q).den:Int)])=>zDu h0 (by show (m+m)*2+(m+m)+1<=40000;omega) fM fM))<|oc (zP (C:=cg (fQN q)) 0 kH)<|oc (zS (C:=cg (fQN q)) (k:=0) 2 kH (h:=zAQ))<|oc (zP (C:=cg (fQN p)) 2 kH)<|oc (jI (C:=cg (fQN p)) (k:=2) kH (h:=zAC))<|oc (zH zD zNp (fun u0 W hb (h0:qC W u0 ((p).den))=>zIv h0))<|oc (yC (fun u v W (hu:NV W u ((q).num)) (hv:NV W v ((p).den:Int))=>zAS (NV.uv' hu (Bd.mono (hq).1 (m':=(m+m)) (by first|omega|decide))) (NV.uv' hv (Bd.mono (zAe hp.2) (m':=(m+m)) (by first|omega|decide)))))<|oc (zH zD zJn (fun u0 W hb (h0:ISV W (m+m) u0 [(q).num,((p).den:Int)])=>zDu h0 (by show (m+m)*2+(m+m)+1<=40000;omega) fM fM))<|oc (zM zD zSW (fun u0 u1 W hb (h0:NV W u0 ((p).num*((q).den:Int))) (h1:NV W u1 ((q).num*((p).den:Int)))=>zPi (NV.uv' h0 (Bd.mul (hp).1 (zAe hq.2))) (NV.uv' h1 (Bd.mul (hq).1 (zAe hp.2))) oO))<|oc (zH zD zRG (fun u0 W hb (h0:NV W u0 (((p).num*((q).den:Int)) - ((q).num*((p).den:Int))))=>zD5 (zIk (NV.uv' h0 (Bd.sub (Bd.mul (hp).1 (zAe hq.2)) (Bd.mul (hq).1 (zAe hp.2)))) oO)))<|oc zG<|zE) fun a w3 s=> ?_
 refine zA rfl ?_
 refine tO ?_
 exact wF s (t:=4) rfl iiz
theorem zFF {W:Wi} {m:Nat} {u v:Wj} {p q:Rat} (h:RVp m p u W) (h':RVp m q v W) (hm:m<=990) (hm0:0<m):Calls prog 17 #[u,v] W (Ret W (fB (qsg p q==0)).tS):=by
 refine yF [(fRV m p).tS,(fRV m q).tS] func17 rfl kH ⟨h,h',trivial⟩ fun a s=> ?_
 refine tN ?_
 refine zB 0 [] hmix s kH
  zE fun a w1 s=> ?_
 refine qD (CU.agg (fRV m p)) rfl s kH (fun v W h=>zAZ h) fun b2 a w s=> ?_
 refine qD (CU.agg (fRV m q)) rfl s kH (fun v W h=>zAZ h) fun b3 a w s=> ?_
 refine qN (uB false) rfl s kH iiz fun a w s=> ?_
 refine zA rfl ?_
 refine tN ?_
 replace s:=s.drop [4]
 refine zB 5 ((5, .Z (fRV m p))::(6, .Z (fRV m q))::(7, .Z (uI (qsg p q)))::(8, .Z (uB ((qsg p q)==0)))::(4, .u (uB ((qsg p q)==0))):: []) hmix s kH
  (oc (zR (f:=fRV m p) 3 kH (hz:=jN _ _))<|oc (zR (f:=fRV m q) 3 kH (hz:=jN _ _))<|oc (zM zD zS2 (fun u0 u1 W hb (h0:RVp m p u0 W) (h1:RVp m q u1 W)=>zPg h0 h1 hm hm0))<|oc (z5 .i64 (qsg p q) 0 ((qsg p q)==0) iiz iiz rfl rfl)<|oc zG<|zE) fun a w2 s=> ?_
 refine zA rfl ?_
 refine tO ?_
 exact wF s (t:=4) rfl iiz
theorem zPc {W:Wi} {m:Nat} {u v:Wj} {p q:Rat} (h:RVp m p u W) (h':RVp m q v W) (hm:m<=990) (hm0:0<m):Calls prog 25 #[u,v] W (Ret W (zBm (fQN (p / q)) (fI (if q=0 then 30 else 0))).tS):=by
 have hp:QB p m:=h.qb hm0
 have hq:QB q m:=h'.qb hm0
 have bk2:Bd (if decide ((q).num<0) then -((q).den:Int) else ((q).den:Int)) m:=by split;exact (zAe hq.2).neg;exact zAe hq.2
 have hval:mkRat ((p).num*(if decide ((q).num<0) then -((q).den:Int) else ((q).den:Int))) ((p).den*(q).num.natAbs)=p / q:=zO8 p q
 have herr:((p).den*(q).num.natAbs=0)=(q=0):=by rw [Nat.mul_eq_zero,Int.natAbs_eq_zero,zUD];have:=p.den_pos;simp;omega
 have hnew: ∀W u0 u1,NV W u0 ((p).num*(if decide ((q).num<0) then -((q).den:Int) else ((q).den:Int)))->qC W u1 ((p).den*(q).num.natAbs)->Calls prog 55 #[u0,u1] W (Ret W (zBm (fQN (p / q)) (fI (if q=0 then 30 else 0))).tS):=fun W u0 u1 h0 h1=>by
  have:=zHv (m:=m+m) (h0.uv' (Bd.mul hp.1 bk2)) (h1.lv (zDw hp.2 hq.1)) oO
  simp only [hval,herr] at this
  exact this
 refine yF [(fRV m p).tS,(fRV m q).tS] func25 rfl kH ⟨h,h',trivial⟩ fun a s=> ?_
 refine tN ?_
 refine zB 0 [] hmix s kH
  zE fun a w1 s=> ?_
 refine qD (CU.agg (fRV m p)) rfl s kH (fun v W h=>zAZ h) fun b2 a w s=> ?_
 refine qD (CU.agg (fRV m q)) rfl s kH (fun v W h=>zAZ h) fun b3 a w s=> ?_
 refine yE (CU.len 3) (cs:=zR3) kH rfl s kH (fun W=>rfl) rfl fun b4 a w s=> ?_
 refine qN (uI 0) rfl s kH iiz fun a w s=> ?_
 refine zA rfl ?_
 refine tN ?_
 refine yK [] 4 ((6, .Z (fRV m p))::(7, .u (fQN p))::(8, .Z (fRV m q))::(9, .u (fQN q)):: []) hmix s kH
  (oc (zR (f:=fRV m p) 3 kH (hz:=jN _ _))<|oc (zH zD zHJ (fun u0 W hb (h0:RVp m p u0 W)=>zBI h0 oO))<|oc (zR (f:=fRV m q) 3 kH (hz:=jN _ _))<|oc (zH zD zHJ (fun u0 W hb (h0:RVp m q u0 W)=>zBI h0 oO))<|zE) fun Q' hQ a w2 s=> ?_
 refine zU (CU.agg (fQN p)) ((fQN p).tS) rfl s kH rfl rfl rfl (jN _ _) iiz yB fun a w s=> ?_
 refine zU (CU.agg (fQN q)) ((fQN q).tS) rfl s kH rfl rfl rfl (jN _ _) iiz yB fun a w s=> ?_
 refine zA rfl (hQ _ _ ?_)
 refine tN ?_
 replace s:=s.drop [5]
 refine yK [] 19 ((10, .X (fQN p) 0)::(11, .Z (fNV ((p).num)))::(12, .X (fQN q) 0)::(13, .X (fQN q) 0)::(14, .Z (uB (decide ((q).num<0))))::(15, .X (fQN q) 2)::(16, .Z (qR ((q).den)))::(17, .Z (fUV m (if decide ((q).num<0) then -((q).den:Int) else ((q).den:Int))))::(18, .s (zJm (m+m) [(p).num,(if decide ((q).num<0) then -((q).den:Int) else ((q).den:Int))]))::(19, .Z (fNV ((p).num*(if decide ((q).num<0) then -((q).den:Int) else ((q).den:Int)))))::(20, .X (fQN p) 2)::(21, .Z (qR ((p).den)))::(22, .X (fQN q) 0)::(23, .X (fQN q) 1)::(24, .Z (qR ((q).num.natAbs)))::(25, .Z (qR ((p).den*(q).num.natAbs)))::(26, .Z (zBm (fQN (p / q)) (uI (if q=0 then 30 else 0))))::(27, .u (fQN (p / q)))::(28, .u (uI (if q=0 then 30 else 0))):: []) hmix s kH
  (oc (zP (C:=cg (fQN p)) 0 kH)<|oc (zS (C:=cg (fQN p)) (k:=0) 2 kH (h:=zAQ))<|oc (zP (C:=cg (fQN q)) 0 kH)<|oc (yZ (C:=cg (fQN q)) 0 0 kH)<|oc (jI (C:=cg (fQN q)) (k:=0) kH (h:=zQY))<|oc (zP (C:=cg (fQN q)) 2 kH)<|oc (jI (C:=cg (fQN q)) (k:=2) kH (h:=zAC))<|oc (jA (fun u v W (hu:u= .bool (decide ((q).num<0))) (hv:qC W v ((q).den))=>zP8 hu hv hq.2))<|oc (yC (fun u v W (hu:NV W u ((p).num)) (hv:UV W m v (if decide ((q).num<0) then -((q).den:Int) else ((q).den:Int)))=>zAS (NV.uv' hu (Bd.mono (hp).1 (m':=(m+m)) (by first|omega|decide))) (UV.mono hv (m':=(m+m)) (by first|omega|decide))))<|oc (zH zD zJn (fun u0 W hb (h0:ISV W (m+m) u0 [(p).num,(if decide ((q).num<0) then -((q).den:Int) else ((q).den:Int))])=>zDu h0 (by show (m+m)*2+(m+m)+1<=40000;omega) fM fM))<|oc (zP (C:=cg (fQN p)) 2 kH)<|oc (jI (C:=cg (fQN p)) (k:=2) kH (h:=zAC))<|oc (zP (C:=cg (fQN q)) 0 kH)<|oc (yZ (C:=cg (fQN q)) 0 1 kH)<|oc (jI (C:=cg (fQN q)) (k:=1) kH (h:=zQZ))<|oc (zM zD zPW (fun u0 u1 W hb (h0:qC W u0 ((p).den)) (h1:qC W u1 ((q).num.natAbs))=>zKf (qC.lv (m:=m) h0 hp.2) (qC.lv (m:=m) h1 hq.1) oO))<|oc (zM zD zNq (fun u0 u1 W hb (h0:NV W u0 ((p).num*(if decide ((q).num<0) then -((q).den:Int) else ((q).den:Int)))) (h1:qC W u1 ((p).den*(q).num.natAbs))=>hnew W u0 u1 h0 h1))<|oc (zBr (A:=(fQN (p / q)).tS) (B:=(uI (if q=0 then 30 else 0)).tS) iiz)<|oc (zBq (A:=(fQN (p / q)).tS) (B:=(uI (if q=0 then 30 else 0)).tS) iiz)<|zE) fun Q' hQ a w3 s=> ?_
 refine zU (CU.agg (fQN (p / q))) ((fQN (p / q)).tS) rfl s kH rfl rfl rfl iiz iiz yB fun a w s=> ?_
 refine qN (uI (if q=0 then 30 else 0)) rfl s kH iiz fun a w s=> ?_
 refine zA rfl (hQ _ _ ?_)
 refine tO ?_
 exact wV s (CU.agg (fQN (p / q))) rfl kH rfl rfl (y9 _) (fun cs v W h1 h2=>⟨_,_,rfl,h1,h2⟩)
end Go.Proofs.Wd

namespace Go.Proofs.Wd
open Tryz
set_option maxRecDepth 100000
open Go.RowKit Lb
theorem zK1 {W:Wi} {b o:Nat} {cs ds:List Wj} (k:Nat) (h:Mem W b o cs) (hd: ∀j u,ds[j]?=some u->cs[k+j]?=some u):Mem W b (o+k) ds:=fun j u hj=>by
 have:=h (k+j) u (hd j u hj)
 rwa [<-Nat.add_assoc] at this
abbrev rvs (m:Nat) (qs:List Rat):List CU:=qs.map fun q=>CU.agg (fRV m q)
theorem zJ8 {m:Nat} {qs:List Rat} {k:Nat} (h:k<qs.length):(rvs m qs)[k]?=some (CU.agg (fRV m (qAt qs k))):=by
 rw [zUl,tW h]
 simp [qAt,h]
theorem zKB {qs:List Rat} {k:Nat} (h:k<qs.length):qAt qs k∈qs:=by
 simp [qAt,h]
theorem zIc {m:Nat} {q:Rat} {v:Wj} {W:Wi} (h:RVp m q v W): ∃s A n c D i j,v= .agg #[.bool s, .slice A n c, .slice D i j]:=by
 obtain ⟨k,d,h1,_⟩:=h
 exact zDv h1
theorem zEg {u v:Wj} {W:Wi} {m:Nat} {p q:Rat} (hu:RVp m p u W) (hv:RVp m q v W): ∃e cs,z9 prog 73 2 [(0,u),(1,v)]=some (e,cs)/\(SF.row 3 (rvs m [p,q])).p (.slice (some ⟨W.heap.size,0,none⟩) 2 2) (W.alloc (.cells cs e)):=by
 obtain ⟨s,A,n,c,D,i,j,rfl⟩:=zIc hu
 obtain ⟨s',A',n',c',D',i',j',rfl⟩:=zIc hv
 refine ⟨_,_,zNX s s' A A' D D' n n' c c' i i' j j',some ⟨W.heap.size,0,none⟩,2,rfl,tT _,by decide,fun e=>(by cases e),fun x C hx=> ?_⟩
 have hb:=zBv W (.cells #[.bool s, .slice A n c, .slice D i j, .bool s', .slice A' n' c', .slice D' i' j'] 28)
 have hm:=zAW W #[.bool s, .slice A n c, .slice D i j, .bool s', .slice A' n' c', .slice D' i' j'] 28
 rcases (by have:=(tQ.1 hx).1;simp at this;omega:x=0∨x=1) with rfl|rfl
 ·obtain rfl:CU.agg (fRV m p)=C:=by simpa using hx
  exact ⟨W.heap.size,0, [.bool s, .slice A n c, .slice D i j],rfl,zK1 0 hm (fun j u hj=>by match j with|0=>exact hj|1=>exact hj|2=>exact hj|j+3=>simp at hj),(fRV m p).tS.st _ _ _ hu hb⟩
 ·obtain rfl:CU.agg (fRV m q)=C:=by simpa using hx
  exact ⟨W.heap.size,0, [.bool s', .slice A' n' c', .slice D' i' j'],rfl,zK1 3 hm (fun j u hj=>by match j with|0=>exact hj|1=>exact hj|2=>exact hj|j+3=>simp at hj),(fRV m q).tS.st _ _ _ hv hb⟩
theorem zPh {W:Wi} {m:Nat} {v:Wj} {qs:List Rat} (M:Nat) (h:(SF.row 3 (rvs m qs)).p v W) (_hm0:0<m) (hmM:m<=M) (hM:M<=990) (hl:qs.length<=1000000) (hq: ∀q,q∈qs->QB q m) (hp: ∀k,k<qs.length->QB (zCP qs k) M):Calls prog 13 #[v] W (Ret W (fQN (zCP qs qs.length)).tS):=by
 refine yF [SF.row 3 (rvs m qs)] func13 rfl kH ⟨h,trivial⟩ fun a s=> ?_
 refine tN ?_
 refine zB 0 [] hmix s kH
  zE fun a w1 s=> ?_
 refine yE (CU.len 3) (cs:=zR3) kH rfl s kH (fun W=>rfl) rfl fun b2 a w s=> ?_
 refine zA rfl ?_
 refine tN ?_
 refine zB 1 ((5, .u (fQN ((0:Int):Rat))):: []) hmix s kH
  (oc (zH zD zGX (fun u0 W hb (h0:u0= .int .i64 0)=>zDI 0 h0 dA))<|zE) fun a w2 s=> ?_
 refine yE (CU.len 3) (cs:=zR3) kH rfl s kH (fun W=>rfl) rfl fun b3 a w s=> ?_
 refine zU (CU.agg (fQN ((0:Int):Rat))) ((fQN ((0:Int):Rat)).tS) rfl s kH rfl rfl rfl iiz iiz yB fun a w s=> ?_
 refine zA rfl ?_
 refine tN ?_
 refine tN ?_
 refine zB 1 ((4, .u (uI 0)):: []) hmix s kH
  (oc zG<|zE) fun a w3 s=> ?_
 refine zA rfl ?_
 refine zUm ?_
 refine zCV 3 (fun p=>CU.agg (fQN (zCP qs p))) (fun p=>p<=qs.length) (fun p=> [(0, .o (SF.row 3 (rvs m qs))),(4, .u (fI ((p:Nat):Int)))]) (fun p=>qs.length - p) (0:Nat) (tY _) (s.keepK _ (fmz ⟨mz2,fmz ⟨.head _,fnz⟩⟩)) rfl fun p a w hx s=> ?_
 refine tN ?_
 refine tN ?_
 refine zB 4 ((6, .Z (fI (p:Int)))::(7, .s (SF.row 3 (rvs m qs)))::(8, .Z (uI ((rvs m qs).length:Int)))::(9, .u (uB (decide ((p:Int)<((rvs m qs).length:Int))))):: []) hmix s kH
  (oc zC<|oc zC<|oc (zFK (z:=3) (Cs:=rvs m qs) kH iiz (fun _=>rfl))<|oc (z5 .i64 (p:Int) ((rvs m qs).length:Int) (decide ((p:Int)<((rvs m qs).length:Int))) iiz iiz rfl rfl)<|zE) fun a w4 s=> ?_
 refine zA rfl ?_
 refine StS.cond s (decide ((p:Int)<((rvs m qs).length:Int))) iiz (fun e=> ?_) (fun e=> ?_)
 ·have hk1:p+1<=qs.length:=by have:=zUk e;rw [zUc] at this;omega
  have hx2:=zJ8 (m:=m) (k:=p) hk1
  have hqp:=hq _ (zKB (k:=p) hk1)
  refine zBw ?_
  refine tN ?_
  refine zUm ?_
  refine yK [1,2] 7 ((12, .Z (fQN (zCP qs p)))::(13, .s (SF.row 3 (rvs m qs)))::(14, .Z (fI (p:Int)))::(15, .Y (fRV m (qAt qs p)))::(16, .Z (fRV m (qAt qs p)))::(17, .Z (fQN (qAt qs p)))::(18, .u (fQN (zCP qs p+qAt qs p))):: []) hmix s kH
   (oc (zR (f:=fQN (zCP qs p)) 3 kH (hz:=y9 _))<|oc zC<|oc zC<|oc (zCv (z:=3) (Cs:=rvs m qs) (i:=p) (C:=CU.agg (fRV m (qAt qs p))) kH hx2 iiz iiz)<|oc (zR (f:=fRV m (qAt qs p)) 3 kH (hz:=jN _ _))<|oc (zH zD zHJ (fun u0 W hb (h0:RVp m (qAt qs p) u0 W)=>zBI h0 oO))<|oc (zM zD zS4 (fun u0 u1 W hb (h0:QNp (zCP qs p) u0 W) (h1:QNp (qAt qs p) u1 W)=>zPb h0 h1 (hp p hk1) (hqp.mono oO) oO))<|zE) fun Q' hQ a w5 s=> ?_
  refine zU (CU.agg (fQN (zCP qs p+qAt qs p))) ((fQN (zCP qs p+qAt qs p)).tS) rfl s kH rfl rfl rfl (y9 _) iiz yB fun a w s=> ?_
  refine zA rfl (hQ _ _ ?_)
  refine yJ 2 ((10, .Z (fI (p:Int)))::(11, .u (fI ((p+1:Nat):Int))):: []) s kH
   (oc zC<|oc (yX .i64 (p:Int) 1 ((p+1:Nat):Int) iiz iiz (wrap64 _ _ oO oO))<|zE) fun a w6 s=> ?_
  replace s:=s.drop [4]
  refine qN (fI ((p+1:Nat):Int)) rfl s kH iiz fun a w s=> ?_
  refine zA rfl ?_
  exact ⟨p+1,hk1,(by show qs.length - (p+1)<qs.length - p;omega),s.keepK _ (fmz ⟨mz4,fmz ⟨.head _,fnz⟩⟩)⟩
 ·have hk1:p=qs.length:=by have:=zUW e;rw [zUc] at this;omega
  refine wpIn_exit ?_
  refine tN ?_
  refine zB 1 ((19, .u (fQN (zCP qs p))):: []) hmix s kH
   (oc (zR (f:=fQN (zCP qs p)) 3 kH (hz:=y9 _))<|zE) fun a w7 s=> ?_
  refine zU (CU.agg (fQN (zCP qs p))) ((fQN (zCP qs p)).tS) rfl s kH rfl rfl rfl iiz iiz yB fun a w s=> ?_
  refine zA rfl ?_
  refine tO ?_
  exact wJ s (CU.agg (fQN (zCP qs p))) rfl kH rfl rfl (y9 _) (fun cs W h=>by rw [hk1] at h;exact h)
theorem zPf {W:Wi} {m:Nat} {v:Wj} {qs:List Rat} (M:Nat) (h:(SF.row 3 (rvs m qs)).p v W) (_hm0:0<m) (hmM:m<=M) (hM:M<=990) (hl:qs.length<=1000000) (hq: ∀q,q∈qs->QB q m) (hp: ∀k,k<qs.length->QB (qU qs k) M):Calls prog 58 #[v] W (Ret W (fQN (qU qs qs.length)).tS):=by
 refine yF [SF.row 3 (rvs m qs)] func58 rfl kH ⟨h,trivial⟩ fun a s=> ?_
 refine tN ?_
 refine zB 0 [] hmix s kH
  zE fun a w1 s=> ?_
 refine yE (CU.len 3) (cs:=zR3) kH rfl s kH (fun W=>rfl) rfl fun b2 a w s=> ?_
 refine zA rfl ?_
 refine tN ?_
 refine zB 1 ((6, .u (fQN ((1:Int):Rat))):: []) hmix s kH
  (oc (zH zD zGX (fun u0 W hb (h0:u0= .int .i64 1)=>zDI 1 h0 dA))<|zE) fun a w2 s=> ?_
 refine yE (CU.len 3) (cs:=zR3) kH rfl s kH (fun W=>rfl) rfl fun b3 a w s=> ?_
 refine zU (CU.agg (fQN ((1:Int):Rat))) ((fQN ((1:Int):Rat)).tS) rfl s kH rfl rfl rfl iiz iiz yB fun a w s=> ?_
 refine zA rfl ?_
 refine tN ?_
 refine tN ?_
 refine zB 1 ((4, .u (uI 0)):: []) hmix s kH
  (oc zG<|zE) fun a w3 s=> ?_
 refine zA rfl ?_
 refine zUm ?_
 refine zCV 3 (fun p=>CU.agg (fQN (qU qs p))) (fun p=>p<=qs.length) (fun p=> [(0, .o (SF.row 3 (rvs m qs))),(4, .u (fI ((p:Nat):Int)))]) (fun p=>qs.length - p) (0:Nat) (tY _) (s.keepK _ (fmz ⟨mz2,fmz ⟨.head _,fnz⟩⟩)) rfl fun p a w hx s=> ?_
 refine tN ?_
 refine tN ?_
 refine zB 4 ((7, .Z (fI (p:Int)))::(8, .s (SF.row 3 (rvs m qs)))::(9, .Z (uI ((rvs m qs).length:Int)))::(10, .u (uB (decide ((p:Int)<((rvs m qs).length:Int))))):: []) hmix s kH
  (oc zC<|oc zC<|oc (zFK (z:=3) (Cs:=rvs m qs) kH iiz (fun _=>rfl))<|oc (z5 .i64 (p:Int) ((rvs m qs).length:Int) (decide ((p:Int)<((rvs m qs).length:Int))) iiz iiz rfl rfl)<|zE) fun a w4 s=> ?_
 refine zA rfl ?_
 refine StS.cond s (decide ((p:Int)<((rvs m qs).length:Int))) iiz (fun e=> ?_) (fun e=> ?_)
 ·have hk1:p+1<=qs.length:=by have:=zUk e;rw [zUc] at this;omega
  have hx2:=zJ8 (m:=m) (k:=p) hk1
  have hqp:=hq _ (zKB (k:=p) hk1)
  have hnew: ∀W u0 u1,NV W u0 ((qU qs p).num*(qAt qs p).num)->qC W u1 ((qU qs p).den*(qAt qs p).den)->Calls prog 55 #[u0,u1] W (Ret W (zBm (fQN (qU qs p*qAt qs p)) (fI 0)).tS):=fun W u0 u1 h0 h1=>by
   have:=zKu (m:=M+m) (h0.uv' (Bd.mul (hp p hk1).1 hqp.1)) (h1.lv (zDw (hp p hk1).2 hqp.2)) oO (Nat.mul_pos (Rat.den_pos _) (Rat.den_pos _))
   rw [<-Rat.mul_def'] at this
   exact this
  refine zBw ?_
  refine tN ?_
  refine zUm ?_
  refine tN ?_
  refine zB 5 ((13, .s (SF.row 3 (rvs m qs)))::(14, .Z (fI (p:Int)))::(15, .Y (fRV m (qAt qs p)))::(16, .Z (fRV m (qAt qs p)))::(17, .u (fQN (qAt qs p))):: []) hmix s kH
   (oc zC<|oc zC<|oc (zCv (z:=3) (Cs:=rvs m qs) (i:=p) (C:=CU.agg (fRV m (qAt qs p))) kH hx2 iiz iiz)<|oc (zR (f:=fRV m (qAt qs p)) 3 kH (hz:=jN _ _))<|oc (zH zD zHJ (fun u0 W hb (h0:RVp m (qAt qs p) u0 W)=>zBI h0 oO))<|zE) fun a w5 s=> ?_
  refine yE (CU.len 3) (cs:=zR3) kH rfl s kH (fun W=>rfl) rfl fun b5 a w s=> ?_
  refine zU (CU.agg (fQN (qAt qs p))) ((fQN (qAt qs p)).tS) rfl s kH rfl rfl rfl iiz iiz yB fun a w s=> ?_
  refine zA rfl ?_
  refine zBi (fun i=> [14].contains i) [] 15 ((19, .X (fQN (qU qs p)) 0)::(20, .Z (fNV ((qU qs p).num)))::(21, .X (fQN (qAt qs p)) 0)::(22, .Z (fNV ((qAt qs p).num)))::(23, .s (zJm (M+m) [(qU qs p).num,(qAt qs p).num]))::(24, .Z (fNV ((qU qs p).num*(qAt qs p).num)))::(25, .X (fQN (qU qs p)) 2)::(26, .Z (qR ((qU qs p).den)))::(27, .X (fQN (qAt qs p)) 2)::(28, .Z (qR ((qAt qs p).den)))::(29, .Z (qR ((qU qs p).den*(qAt qs p).den)))::(30, .Z (zBm (fQN (qU qs p*qAt qs p)) (uI 0)))::(18, .Z (zBm (fQN (qU qs p*qAt qs p)) (uI 0)))::(31, .u (fQN (qU qs p*qAt qs p)))::(32, .Z (uI 0)):: []) hmix s fnz kH
   (oc (zP (C:=cg (fQN (qU qs p))) 0 kH)<|oc (zS (C:=cg (fQN (qU qs p))) (k:=0) 2 kH (h:=zAQ))<|oc (zP (C:=cg (fQN (qAt qs p))) 0 kH)<|oc (zS (C:=cg (fQN (qAt qs p))) (k:=0) 2 kH (h:=zAQ))<|oc (yC (fun u v W (hu:NV W u ((qU qs p).num)) (hv:NV W v ((qAt qs p).num))=>zAS (NV.uv' hu (Bd.mono (hp p hk1).1 (m':=(M+m)) (by first|omega|decide))) (NV.uv' hv (Bd.mono (hqp).1 (m':=(M+m)) (by first|omega|decide)))))<|oc (zH zD zJn (fun u0 W hb (h0:ISV W (M+m) u0 [(qU qs p).num,(qAt qs p).num])=>zDu h0 (by show (M+m)*2+(M+m)+1<=40000;omega) fM fM))<|oc (zP (C:=cg (fQN (qU qs p))) 2 kH)<|oc (jI (C:=cg (fQN (qU qs p))) (k:=2) kH (h:=zAC))<|oc (zP (C:=cg (fQN (qAt qs p))) 2 kH)<|oc (jI (C:=cg (fQN (qAt qs p))) (k:=2) kH (h:=zAC))<|oc (zM zD zPW (fun u0 u1 W hb (h0:qC W u0 ((qU qs p).den)) (h1:qC W u1 ((qAt qs p).den))=>zKf (qC.lv (m:=M+m) h0 (tU (hp p hk1).2 (zF0 yS oO))) (qC.lv (m:=M+m) h1 (tU hqp.2 (zF0 yS oO))) oO))<|oc (zM zD zNq (fun u0 u1 W hb (h0:NV W u0 ((qU qs p).num*(qAt qs p).num)) (h1:qC W u1 ((qU qs p).den*(qAt qs p).den))=>hnew W u0 u1 h0 h1))<|oc zC<|oc (zBr (A:=(fQN (qU qs p*qAt qs p)).tS) (B:=(uI 0).tS) iiz)<|oc (zBq (A:=(fQN (qU qs p*qAt qs p)).tS) (B:=(uI 0).tS) iiz)<|zE) fun Q' hQ a w6 s hr hd=> ?_
  refine zU (CU.agg (fQN (qU qs p*qAt qs p))) ((fQN (qU qs p*qAt qs p)).tS) rfl s kH rfl rfl rfl (y9 _) iiz yB fun a w s=> ?_
  refine zA rfl (hQ _ _ ?_)
  refine yJ 2 ((11, .Z (fI (p:Int)))::(12, .u (fI ((p+1:Nat):Int))):: []) s kH
   (oc zC<|oc (yX .i64 (p:Int) 1 ((p+1:Nat):Int) iiz iiz (wrap64 _ _ oO oO))<|zE) fun a w7 s=> ?_
  replace s:=s.drop [4]
  refine qN (fI ((p+1:Nat):Int)) rfl s kH iiz fun a w s=> ?_
  refine zA rfl ?_
  replace s:=s.popB
  exact ⟨p+1,hk1,(by show qs.length - (p+1)<qs.length - p;omega),s.keepK _ (fmz ⟨mz5,fmz ⟨.head _,fnz⟩⟩)⟩
 ·have hk1:p=qs.length:=by have:=zUW e;rw [zUc] at this;omega
  refine wpIn_exit ?_
  refine tN ?_
  refine zB 1 ((33, .u (fQN (qU qs p))):: []) hmix s kH
   (oc (zR (f:=fQN (qU qs p)) 3 kH (hz:=y9 _))<|zE) fun a w8 s=> ?_
  refine zU (CU.agg (fQN (qU qs p))) ((fQN (qU qs p)).tS) rfl s kH rfl rfl rfl iiz iiz yB fun a w s=> ?_
  refine zA rfl ?_
  refine tO ?_
  exact wJ s (CU.agg (fQN (qU qs p))) rfl kH rfl rfl (y9 _) (fun cs W h=>by rw [hk1] at h;exact h)
theorem zC1 {W:Wi} {m:Nat} {v:Wj} {p q:Rat} (h:(SF.row 3 (rvs m [p,q])).p v W) (hp:QB p m) (hq:QB q m) (hm:m<=990):Calls prog 13 #[v] W (Ret W (fQN (p+q)).tS):=by
 have:=zPh m h hp.pos lr hm fM (fun x hx=>by simp at hx;rcases hx with rfl|rfl;exact hp;exact hq) (fun k hk=>by
  rcases (by simp at hk;omega:k=0∨k=1) with rfl|rfl
  ·exact QB.zero hp.pos
  ·show QB (0+p) _
   rw [Rat.zero_add]
   exact hp)
 rw [show ([p,q]:List Rat).length=2 from rfl,zPp] at this
 exact this
theorem zIj {W:Wi} {m:Nat} {v:Wj} {p q:Rat} (h:(SF.row 3 (rvs m [p,q])).p v W) (hp:QB p m) (hq:QB q m) (hm:m<=990):Calls prog 58 #[v] W (Ret W (fQN (p*q)).tS):=by
 have hm0:=hp.pos
 have:=zPf m h hm0 lr hm fM (fun x hx=>by simp at hx;rcases hx with rfl|rfl;exact hp;exact hq) (fun k hk=>by
  rcases (by simp at hk;omega:k=0∨k=1) with rfl|rfl
  ·exact QB.one hp.pos
  ·show QB (1*p) _
   rw [zUB]
   exact hp)
 rw [show ([p,q]:List Rat).length=2 from rfl,zKz] at this
 exact this
theorem zKN {F:Fence} {m:Nat} {P:Wn} {w0:Wi} {ops:Array Oper} {G:Nat->SF} {d:Tmp} {ty:Wk} {pos:String} {aft:Array Edge} {t:Wk} {x y:Wm} {t':Wk} (k:IntKind) (u v r:Int) (hx: ∀q W,(fct G x).p q W->q= .int k u) (hy: ∀q W,(fct G y).p q W->q= .int k v) (hr:k.wrap (u - v)=r) (hd: ∀W,(G d).p (.int k r) W:=by exact fun _=>rfl):qK F m P w0 ops G ⟨some d, .binOp .sub t x y t',ty,pos,aft,none⟩:=
 zC6 (.int k u) (.int k v) (.int k r) hx hy (fun W=>by simp [eqGuard]) (fun W=>by simp [binOp,Op.intArith,hr]) hd
theorem zKr {W:Wi} {m:Nat} {u v:Wj} {p q:Rat} (h:RVp m p u W) (h':RVp m q v W) (hm:m<=990) (hm0:0<m):Calls prog 16 #[u,v] W (Ret W (fQN (p - q)).tS):=by
 have hp:QB p m:=h.qb hm0
 have hq:QB q m:=h'.qb hm0
 refine yF [(fRV m p).tS,(fRV m q).tS] func16 rfl kH ⟨h,h',trivial⟩ fun a s=> ?_
 refine tN ?_
 refine zB 0 [] hmix s kH
  zE fun a w1 s=> ?_
 refine qD (CU.agg (fRV m p)) rfl s kH (fun v W h=>zAZ h) fun b2 a w s=> ?_
 refine qD (CU.agg (fRV m q)) rfl s kH (fun v W h=>zAZ h) fun b3 a w s=> ?_
 refine yE (CU.len 3) (cs:=zR3) kH rfl s kH (fun W=>rfl) rfl fun b4 a w s=> ?_
 refine zA rfl ?_
 refine tN ?_
 refine yK [] 5 ((5, .Z (fRV m p))::(6, .Z (fRV m q))::(7, .Z (fQN (-q)))::(8, .s (SF.row 3 (rvs m [p,(-q)])))::(9, .u (fQN (p+ -q))):: []) hmix s kH
  (oc (zR (f:=fRV m p) 3 kH (hz:=jN _ _))<|oc (zR (f:=fRV m q) 3 kH (hz:=jN _ _))<|oc (zH zD zS3 (fun u0 W hb (h0:RVp m q u0 W)=>zPe h0 oO hm0))<|oc (yC (fun u v W (hu:RVp m p u W) (hv:QNp (-q) v W)=>zEg hu (wH hv hq.neg)))<|oc (zH zD zLx (fun u0 W hb (h0:(SF.row 3 (rvs m [p,(-q)])).p u0 W)=>zC1 h0 hp hq.neg oO))<|zE) fun Q' hQ a w2 s=> ?_
 refine zU (CU.agg (fQN (p+ -q))) ((fQN (p+ -q)).tS) rfl s kH rfl rfl rfl iiz iiz yB fun a w s=> ?_
 refine zA rfl (hQ _ _ ?_)
 refine tO ?_
 exact wJ s (CU.agg (fQN (p+ -q))) rfl kH rfl rfl (y9 _) (fun cs W h=>by rw [Rat.sub_eq_add_neg];exact h)
abbrev QX.q (x:QX):Rat:=mkRat x.k x.d
theorem zTy {n n' m:Nat} {k:Int} {d:Nat} {v:Wj} {W:Wi} (h:QXp n n' k d v W) (h1:n<=m) (h2:n'<=m):RVp m (mkRat k d) v W:=⟨k,d,zSA h h1 h2,rfl⟩
theorem zQN {W:Wi} {v:Wj} (z:Int) (hv:v= .int .i64 z) (hz: -9223372036854775808<=z/\z<=9223372036854775807):Calls prog 51 #[v] W (Ret W (fQN (z:Rat)).tS):=by
 subst hv
 exact zMB z hz
end Go.Proofs.Wd

namespace Go.Proofs.Wd
open Tryz
set_option maxRecDepth 100000
set_option maxHeartbeats 1000000
open Go.RowKit Lb
theorem zN2 {W:Wi} {u v:Wj} {x y:Int} (hu:u= .int .i64 x) (hv:v= .int .i64 y) (hx: -9223372036854775808<=x/\x<=9223372036854775807) (hy: -9223372036854775808<=y/\y<=9223372036854775807):Calls prog 32 #[u,v] W (Ret W (fPN (((x:Int):Rat),((y:Int):Rat))).tS):=by
 refine yF [(uI x).tS,(uI y).tS] func32 rfl kH ⟨hu,hv,trivial⟩ fun a s=> ?_
 refine tN ?_
 refine zB 0 [] hmix s kH
  zE fun a w1 s=> ?_
 refine yE (CU.len 6) (cs:=zP6) kH rfl s kH (fun W=>rfl) rfl fun b4 a w s=> ?_
 refine zA rfl ?_
 refine tN ?_
 refine zB 5 ((5, .Z (uI x))::(6, .Z (fQN ((x:Int):Rat)))::(7, .Z (uI y))::(8, .Z (fQN ((y:Int):Rat)))::(9, .u (fPN (((x:Int):Rat),((y:Int):Rat)))):: []) hmix s kH
  (oc zC<|oc (zH zD zGX (fun u0 W hb (h0:u0= .int .i64 x)=>zDI x h0 hx))<|oc zC<|oc (zH zD zGX (fun u0 W hb (h0:u0= .int .i64 y)=>zDI y h0 hy))<|oc (jA (fun u v W (hu:QNp ((x:Int):Rat) u W) (hv:QNp ((y:Int):Rat) v W)=>zQn (zA4 _) (zA4 _) hu hv))<|zE) fun a w2 s=> ?_
 refine zU (CU.agg (fPN (((x:Int):Rat),((y:Int):Rat)))) ((fPN (((x:Int):Rat),((y:Int):Rat))).tS) rfl s kH rfl rfl rfl iiz iiz jX fun a w s=> ?_
 refine zA rfl ?_
 refine tO ?_
 exact wJ s (CU.agg (fPN (((x:Int):Rat),((y:Int):Rat)))) rfl kH rfl rfl (yP _ _) (fun cs W h=>h)
theorem zHu {m:Nat} {W:Wi} {u v:Wj} {p q:V2} (h1:(fPV m p).p u W) (h2:(fPV m q).p v W) (hp:QB p.1 m/\QB p.2 m) (hq:QB q.1 m/\QB q.2 m) (hm:m<=990):Calls prog 27 #[u,v] W (Ret W (fPN (p.1+q.1,p.2+q.2)).tS):=by
 refine yF [(fPV m p).tS,(fPV m q).tS] func27 rfl kH ⟨h1,h2,trivial⟩ fun a s=> ?_
 refine tN ?_
 refine zB 0 [] hmix s kH
  zE fun a w1 s=> ?_
 refine qD (CU.agg (fPV m p)) rfl s kH (fun v W h=>zAI h) fun b2 a w s=> ?_
 refine qD (CU.agg (fPV m q)) rfl s kH (fun v W h=>zAI h) fun b3 a w s=> ?_
 refine yE (CU.len 6) (cs:=zP6) kH rfl s kH (fun W=>rfl) rfl fun b4 a w s=> ?_
 refine zA rfl ?_
 refine tN ?_
 refine yK [] 13 ((5, .X (fPV m p) 0)::(6, .Z (fRV m ((p).1)))::(7, .X (fPV m q) 0)::(8, .Z (fRV m ((q).1)))::(9, .s (SF.row 3 (rvs m [(p).1,(q).1])))::(10, .Z (fQN ((p).1+(q).1)))::(11, .X (fPV m p) 3)::(12, .Z (fRV m ((p).2)))::(13, .X (fPV m q) 3)::(14, .Z (fRV m ((q).2)))::(15, .s (SF.row 3 (rvs m [(p).2,(q).2])))::(16, .Z (fQN ((p).2+(q).2)))::(17, .u (fPN (p.1+q.1,p.2+q.2))):: []) hmix s kH
  (oc (zP (C:=cg (fPV m p)) 0 kH)<|oc (zS (C:=cg (fPV m p)) (k:=0) 3 kH (h:=zIs))<|oc (zP (C:=cg (fPV m q)) 0 kH)<|oc (zS (C:=cg (fPV m q)) (k:=0) 3 kH (h:=zIs))<|oc (yC (fun u v W (hu:RVp m ((p).1) u W) (hv:RVp m ((q).1) v W)=>zEg hu hv))<|oc (zH zD zLx (fun u0 W hb (h0:(SF.row 3 (rvs m [(p).1,(q).1])).p u0 W)=>zC1 h0 hp.1 hq.1 hm))<|oc (zP (C:=cg (fPV m p)) 3 kH)<|oc (zS (C:=cg (fPV m p)) (k:=3) 3 kH (h:=zIr))<|oc (zP (C:=cg (fPV m q)) 3 kH)<|oc (zS (C:=cg (fPV m q)) (k:=3) 3 kH (h:=zIr))<|oc (yC (fun u v W (hu:RVp m ((p).2) u W) (hv:RVp m ((q).2) v W)=>zEg hu hv))<|oc (zH zD zLx (fun u0 W hb (h0:(SF.row 3 (rvs m [(p).2,(q).2])).p u0 W)=>zC1 h0 hp.2 hq.2 hm))<|oc (jA (fun u v W (hu:QNp ((p).1+(q).1) u W) (hv:QNp ((p).2+(q).2) v W)=>zQn (zA4 _) (zA4 _) hu hv))<|zE) fun Q' hQ a w2 s=> ?_
 refine zU (CU.agg (fPN (p.1+q.1,p.2+q.2))) ((fPN (p.1+q.1,p.2+q.2)).tS) rfl s kH rfl rfl rfl iiz iiz jX fun a w s=> ?_
 refine zA rfl (hQ _ _ ?_)
 refine tO ?_
 exact wJ s (CU.agg (fPN (p.1+q.1,p.2+q.2))) rfl kH rfl rfl (yP _ _) (fun cs W h=>h)
theorem zPa {m:Nat} {W:Wi} {u v:Wj} {p q:V2} (h1:(fPV m p).p u W) (h2:(fPV m q).p v W) (hm:m<=990) (hm0:0<m):Calls prog 29 #[u,v] W (Ret W (fPN (p.1 - q.1,p.2 - q.2)).tS):=by
 refine yF [(fPV m p).tS,(fPV m q).tS] func29 rfl kH ⟨h1,h2,trivial⟩ fun a s=> ?_
 refine tN ?_
 refine zB 0 [] hmix s kH
  zE fun a w1 s=> ?_
 refine qD (CU.agg (fPV m p)) rfl s kH (fun v W h=>zAI h) fun b2 a w s=> ?_
 refine qD (CU.agg (fPV m q)) rfl s kH (fun v W h=>zAI h) fun b3 a w s=> ?_
 refine yE (CU.len 6) (cs:=zP6) kH rfl s kH (fun W=>rfl) rfl fun b4 a w s=> ?_
 refine zA rfl ?_
 refine tN ?_
 refine yK [] 11 ((5, .X (fPV m p) 0)::(6, .Z (fRV m ((p).1)))::(7, .X (fPV m q) 0)::(8, .Z (fRV m ((q).1)))::(9, .Z (fQN ((p).1 - (q).1)))::(10, .X (fPV m p) 3)::(11, .Z (fRV m ((p).2)))::(12, .X (fPV m q) 3)::(13, .Z (fRV m ((q).2)))::(14, .Z (fQN ((p).2 - (q).2)))::(15, .u (fPN (p.1 - q.1,p.2 - q.2))):: []) hmix s kH
  (oc (zP (C:=cg (fPV m p)) 0 kH)<|oc (zS (C:=cg (fPV m p)) (k:=0) 3 kH (h:=zIs))<|oc (zP (C:=cg (fPV m q)) 0 kH)<|oc (zS (C:=cg (fPV m q)) (k:=0) 3 kH (h:=zIs))<|oc (zM zD zRM (fun u0 u1 W hb (h0:RVp m ((p).1) u0 W) (h1:RVp m ((q).1) u1 W)=>zKr h0 h1 hm hm0))<|oc (zP (C:=cg (fPV m p)) 3 kH)<|oc (zS (C:=cg (fPV m p)) (k:=3) 3 kH (h:=zIr))<|oc (zP (C:=cg (fPV m q)) 3 kH)<|oc (zS (C:=cg (fPV m q)) (k:=3) 3 kH (h:=zIr))<|oc (zM zD zRM (fun u0 u1 W hb (h0:RVp m ((p).2) u0 W) (h1:RVp m ((q).2) u1 W)=>zKr h0 h1 hm hm0))<|oc (jA (fun u v W (hu:QNp ((p).1 - (q).1) u W) (hv:QNp ((p).2 - (q).2) v W)=>zQn (zA4 _) (zA4 _) hu hv))<|zE) fun Q' hQ a w2 s=> ?_
 refine zU (CU.agg (fPN (p.1 - q.1,p.2 - q.2))) ((fPN (p.1 - q.1,p.2 - q.2)).tS) rfl s kH rfl rfl rfl iiz iiz jX fun a w s=> ?_
 refine zA rfl (hQ _ _ ?_)
 refine tO ?_
 exact wJ s (CU.agg (fPN (p.1 - q.1,p.2 - q.2))) rfl kH rfl rfl (yP _ _) (fun cs W h=>h)
theorem zKp {m:Nat} {W:Wi} {u v:Wj} {p:V2} {t:Rat} (h1:(fPV m p).p u W) (h2:RVp m t v W) (hp:QB p.1 m/\QB p.2 m) (ht:QB t m) (hm:m<=990):Calls prog 26 #[u,v] W (Ret W (fPN (p.1*t,p.2*t)).tS):=by
 refine yF [(fPV m p).tS,(fRV m t).tS] func26 rfl kH ⟨h1,h2,trivial⟩ fun a s=> ?_
 refine tN ?_
 refine zB 0 [] hmix s kH
  zE fun a w1 s=> ?_
 refine qD (CU.agg (fPV m p)) rfl s kH (fun v W h=>zAI h) fun b2 a w s=> ?_
 refine qD (CU.agg (fRV m t)) rfl s kH (fun v W h=>zAZ h) fun b3 a w s=> ?_
 refine yE (CU.len 6) (cs:=zP6) kH rfl s kH (fun W=>rfl) rfl fun b4 a w s=> ?_
 refine zA rfl ?_
 refine tN ?_
 refine yK [] 11 ((5, .X (fPV m p) 0)::(6, .Z (fRV m ((p).1)))::(7, .Z (fRV m t))::(8, .s (SF.row 3 (rvs m [(p).1,t])))::(9, .Z (fQN ((p).1*t)))::(10, .X (fPV m p) 3)::(11, .Z (fRV m ((p).2)))::(12, .Z (fRV m t))::(13, .s (SF.row 3 (rvs m [(p).2,t])))::(14, .Z (fQN ((p).2*t)))::(15, .u (fPN (p.1*t,p.2*t))):: []) hmix s kH
  (oc (zP (C:=cg (fPV m p)) 0 kH)<|oc (zS (C:=cg (fPV m p)) (k:=0) 3 kH (h:=zIs))<|oc (zR (f:=fRV m t) 3 kH (hz:=jN _ _))<|oc (yC (fun u v W (hu:RVp m ((p).1) u W) (hv:RVp m t v W)=>zEg hu hv))<|oc (zH zD zRF (fun u0 W hb (h0:(SF.row 3 (rvs m [(p).1,t])).p u0 W)=>zIj h0 hp.1 ht oO))<|oc (zP (C:=cg (fPV m p)) 3 kH)<|oc (zS (C:=cg (fPV m p)) (k:=3) 3 kH (h:=zIr))<|oc (zR (f:=fRV m t) 3 kH (hz:=jN _ _))<|oc (yC (fun u v W (hu:RVp m ((p).2) u W) (hv:RVp m t v W)=>zEg hu hv))<|oc (zH zD zRF (fun u0 W hb (h0:(SF.row 3 (rvs m [(p).2,t])).p u0 W)=>zIj h0 hp.2 ht oO))<|oc (jA (fun u v W (hu:QNp ((p).1*t) u W) (hv:QNp ((p).2*t) v W)=>zQn (zA4 _) (zA4 _) hu hv))<|zE) fun Q' hQ a w2 s=> ?_
 refine zU (CU.agg (fPN (p.1*t,p.2*t))) ((fPN (p.1*t,p.2*t)).tS) rfl s kH rfl rfl rfl iiz iiz jX fun a w s=> ?_
 refine zA rfl (hQ _ _ ?_)
 refine tO ?_
 exact wJ s (CU.agg (fPN (p.1*t,p.2*t))) rfl kH rfl rfl (yP _ _) (fun cs W h=>h)
theorem zKq {W:Wi} {u v:Wj} {p:V2} (h1:(fPN p).p u W) (h2:(fPN p).p v W):Calls prog 48 #[u,v] W (Ret W (fB true).tS):=by
 refine yF [(fPN p).tS,(fPN p).tS] func48 rfl kH ⟨h1,h2,trivial⟩ fun a s=> ?_
 refine tN ?_
 refine zB 0 [] hmix s kH
  zE fun a w1 s=> ?_
 refine qD (CU.agg (fPN p)) rfl s kH (fun v W h=>zAI h) fun b2 a w s=> ?_
 refine qD (CU.agg (fPN p)) rfl s kH (fun v W h=>zAI h) fun b3 a w s=> ?_
 refine qN (uB false) rfl s kH iiz fun a w s=> ?_
 refine zA rfl ?_
 refine tN ?_
 replace s:=s.drop [4]
 refine zB 13 ((5, .X (fPN p) 0)::(6, .Z (fQN ((p).1)))::(7, .X (fPN p) 0)::(8, .Z (fQN ((p).1)))::(9, .Z (uB true))::(10, .Z (uB true))::(11, .X (fPN p) 3)::(12, .Z (fQN ((p).2)))::(13, .X (fPN p) 3)::(14, .Z (fQN ((p).2)))::(15, .Z (uB true))::(16, .Z (uB true))::(4, .u (uB true)):: []) hmix s kH
  (oc (zP (C:=cg (fPN p)) 0 kH)<|oc (zS (C:=cg (fPN p)) (k:=0) 3 kH (h:=zIs))<|oc (zP (C:=cg (fPN p)) 0 kH)<|oc (zS (C:=cg (fPN p)) (k:=0) 3 kH (h:=zIs))<|oc (zM zD zRz (fun u0 u1 W hb (h0:QNp ((p).1) u0 W) (h1:QNp ((p).1) u1 W)=>zIh h0 h1))<|oc zC<|oc (zF 10 true kH iiz (fun _=>zP (C:=cg (fPN p)) 3 kH) arf)<|oc (zF 10 true kH iiz (fun _=>zS (C:=cg (fPN p)) (k:=3) 3 kH (h:=zIr)) arf)<|oc (zF 10 true kH iiz (fun _=>zP (C:=cg (fPN p)) 3 kH) arf)<|oc (zF 10 true kH iiz (fun _=>zS (C:=cg (fPN p)) (k:=3) 3 kH (h:=zIr)) arf)<|oc (zF 10 true kH iiz (fun _=>zM zD zRz (fun u0 u1 W hb (h0:QNp ((p).2) u0 W) (h1:QNp ((p).2) u1 W)=>zIh h0 h1)) arf)<|oc (qX true iiz (fun _ _ _ h=>h) (fun e=>by cases e))<|oc zG<|zE) fun a w2 s=> ?_
 refine zA rfl ?_
 refine tO ?_
 exact wF s (t:=4) rfl iiz
theorem zTM (s:Bool) (A A':Wl Addr) (n n' c c':Nat) (s2:Bool) (B B':Wl Addr) (k k' d d':Nat):z9 prog 22 1 [(0, .agg #[.bool s, .slice A n c, .slice A' n' c', .bool s2, .slice B k d, .slice B' k' d'])]=some (30,#[.bool s, .slice A n c, .slice A' n' c', .bool s2, .slice B k d, .slice B' k' d']):=by kernel_rfl
theorem zJ2 {f g:UF} {u:Wj} {W:Wi} (h:(fPT f g).p u W): ∃e cs,z9 prog 22 1 [(0,u)]=some (e,cs)/\(SF.row 6 [CU.agg (fPT f g)]).p (.slice (some ⟨W.heap.size,0,none⟩) 1 1) (W.alloc (.cells cs e)):=by
 obtain ⟨s,A,n,c,A',n',c',s2,B,k,d,B',k',d',rfl,h1,h2⟩:=h
 refine ⟨_,_,zTM s A A' n n' c c' s2 B B' k k' d d',some ⟨W.heap.size,0,none⟩,1,rfl,tT _,by decide,fun e=>(by cases e),fun i C hi=> ?_⟩
 have hb:=zBv W (.cells #[.bool s, .slice A n c, .slice A' n' c', .bool s2, .slice B k d, .slice B' k' d'] 30)
 have hm:=zAW W #[.bool s, .slice A n c, .slice A' n' c', .bool s2, .slice B k d, .slice B' k' d'] 30
 obtain rfl:i=0:=by have:=(tQ.1 hi).1;simp at this;omega
 obtain rfl:CU.agg (fPT f g)=C:=by simpa using hi
 refine ⟨W.heap.size,0, [.bool s, .slice A n c, .slice A' n' c', .bool s2, .slice B k d, .slice B' k' d'],rfl, ?_,(CU.agg (fPT f g)).us _ _ _ ⟨s,A,n,c,A',n',c',s2,B,k,d,B',k',d',rfl,h1,h2⟩ (zL hb)⟩
 rw [show 0+0*6=0 from rfl]
 exact hm
theorem zOb (f g:UF): ∀C,C∈ [CU.agg (fPT f g)]->CU.ok 6 C:=fun C hC=>by
 obtain rfl:C=CU.agg (fPT f g):=by simpa using hC
 exact zBc f g
theorem zMU {ps:List V2} {k:Nat} (h:k<ps.length):pns (ps.take (k+1))=pns (ps.take k)++ [CU.agg (fPN (at_ ps k))]:=by
 unfold pns at_
 rw [List.take_add_one,zUX,tV,tW h]
 rfl
theorem zEN {m:Nat} (hm0:0<m) {p:V2} {v:Wj} {W:Wi} (h:(fPV m p).p v W):QB p.1 m/\QB p.2 m:=by
 obtain ⟨_,_,_,_,_,_,_,_,_,_,_,_,_,_,_,h1,h2⟩:=h
 exact ⟨h1.qb hm0,h2.qb hm0⟩
theorem zCZ {z:Nat} {Cs:List CU} {v:Wj} {W:Wi} (h:(SF.row z Cs).p v W):v.cells=#[v]/\zV v=true:=by
 obtain ⟨A,c,rfl,_⟩:=h
 exact ⟨rfl,rfl⟩
section
variable {F:Fence} {m:Nat} {P:Wn} {w0:Wi} {ops:Array Oper} {G:Nat->SF} {d:Tmp} {ty:Wk} {pos:String} {aft:Array Edge}
def zFe (P:Wn) (t:Wk) (i:Nat):Wl Nat:=match P.underlying t with
 |some (.array n e)=>match P.info? e with
  |some ie=>if i<n then some (i*ie.size) else none
  |none=>none
 |_=>none
theorem qE {x y:Wm} {t:Wk} {C:CF} (i k:Nat) (hk:zFe P t i=some k) (hx: ∀v W,(fct G x).p v W->(wC C).p v W) (hy: ∀v W,(fct G y).p v W->v= .int .i64 (i:Int)) (hd: ∀v W,(wC (C.at k)).p v W->(G d).p v W:=by exact fun _ _ h=>h):qK F m P w0 ops G ⟨some d, .indexAddr t x y,ty,pos,aft,none⟩:=
 qO (fun _ e=>by cases e) (fun _ e=>by cases e) fun b W hb hh=>by
  obtain ⟨a,q,cs,e,h2,h3⟩:=hx _ _ (hh x (by simp [Op.operands]))
  have e2:=hy _ _ (hh y (by simp [Op.operands]))
  unfold zFe at hk
  split at hk<;>try cases hk
  rename_i n el hu
  split at hk<;>try cases hk
  rename_i ie hie
  split at hk<;>try cases hk
  rename_i hlt
  refine ⟨.pointer (some ⟨a,q+i*ie.size,none⟩), ?_,hd _ _ ⟨_,_,_,rfl,⟨cs,h2,rfl⟩,h3.drop _⟩⟩
  have h9: ¬n<=i:=by omega
  simp [execOp,Instr.indexAt,zUd hu,e,e2,Instr.sureAddr,sizeOf,typeInfo,hie,zUE,asIntOf,hlt,h9]
end
abbrev V6:=V2×V2×V2
abbrev tl (t:V6):List V2:= [t.1,t.2.1,t.2.2]
def at3 (l:List V6) (i:Nat):V6:=l.getD i ((0,0),(0,0),(0,0))
def TRp (m:Nat) (t:V6) (v:Wj) (w:Wi):Prop:= ∃a b c:List Wj,v= .agg (a++b++c).toArray/\(CU.agg (fPV m t.1)).p a w/\(CU.agg (fPV m t.2.1)).p b w/\(CU.agg (fPV m t.2.2)).p c w
def fTR (m:Nat) (t:V6):UF:= .mk' (TRp m t) fun _ _ _ ⟨a,b,c,e,h1,h2,h3⟩ k=>⟨a,b,c,e,(CU.agg _).us _ _ _ h1 k,(CU.agg _).us _ _ _ h2 k,(CU.agg _).us _ _ _ h3 k⟩
theorem zCT {m:Nat} {t:V6} {cs:List Wj} {W:Wi} (h:TRp m t (.agg cs.toArray) W): ∃a b c:List Wj,cs=a++b++c/\a.length=6/\b.length=6/\c.length=6/\(CU.agg (fPV m t.1)).p a W/\(CU.agg (fPV m t.2.1)).p b W/\(CU.agg (fPV m t.2.2)).p c W:=by
 obtain ⟨a,b,c,e,h1,h2,h3⟩:=h
 have:=zT9 Array.toList (jT e)
 simp only [zUY] at this
 exact ⟨a,b,c,this,(zBc _ _ a W h1).1,(zBc _ _ b W h2).1,(zBc _ _ c W h3).1,h1,h2,h3⟩
theorem zJQ (m:Nat) (t:V6):CU.ok 18 (CU.agg (fTR m t)):=fun cs W h=>by
 obtain ⟨a,b,c,rfl,l1,l2,l3,h1,h2,h3⟩:=zCT h
 have o1:=zBc _ _ a W h1;have o2:=zBc _ _ b W h2;have o3:=zBc _ _ c W h3
 refine ⟨by simp [l1,l2,l3],zCO o1.2.1 o2.2.1 o3.2.1,fun u hu=> ?_⟩
 rcases zUn.1 hu with hu|hu
 ·rcases zUn.1 hu with hu|hu
  ·exact o1.2.2 u hu
  ·exact o2.2.2 u hu
 ·exact o3.2.2 u hu
theorem zHZ (m:Nat) (t:V6): ∀cs:List Wj, ∀W,(fTR m t).p (.agg cs.toArray) W->cs.length=18:=fun cs W h=>(zJQ m t cs W h).1
theorem zNN {m:Nat} {t:V6} {v:Wj} {W:Wi} (h:(fTR m t).p v W):(CU.agg (fTR m t)).p v.cells.toList W/\v.cells.toList.all zV=true:=by
 obtain ⟨a,b,c,rfl,h1⟩:=id h
 exact ⟨h,(zJQ m t _ W h).2.1⟩
theorem zHX {m:Nat} {t:V6} (v:Wj) (W:Wi) (h:(fTR m t).p v W): ∃vs:List Wj,v= .agg vs.toArray/\vs.length=18/\(∀u,u∈vs->u.oneCell'=true)/\vs.all zV=true/\(CU.agg (fTR m t)).p vs W:=by
 obtain ⟨a,b,c,rfl,h1⟩:=id h
 have:=zJQ m t _ W h
 exact ⟨_,rfl,this.1,this.2.2,this.2.1,h⟩
theorem zHY {m:Nat} {t:V6} (cs:List Wj) (W:Wi) (h:(CU.agg (fTR m t)).p cs W):0+6<=cs.length/\(fPV m t.1).p (.agg ((cs.drop 0).take 6).toArray) W:=by
 obtain ⟨a,b,c,rfl,l1,l2,l3,h1,_⟩:=zCT h
 refine ⟨by simp [l1,l2,l3], ?_⟩
 rw [zUF,zUe,zUo oO,tZ oO]
 exact h1
theorem zJP {m:Nat} {t:V6} (cs:List Wj) (W:Wi) (h:(CU.agg (fTR m t)).p cs W):6+6<=cs.length/\(fPV m t.2.1).p (.agg ((cs.drop 6).take 6).toArray) W:=by
 obtain ⟨a,b,c,rfl,l1,l2,l3,_,h2,_⟩:=zCT h
 refine ⟨by simp [l1,l2,l3], ?_⟩
 rw [zUe,zUp oO,zUq oO,zT8,zUo oO,tZ oO]
 exact h2
theorem zHe {m:Nat} {t:V6} (cs:List Wj) (W:Wi) (h:(CU.agg (fTR m t)).p cs W):12+6<=cs.length/\(fPV m t.2.2).p (.agg ((cs.drop 12).take 6).toArray) W:=by
 obtain ⟨a,b,c,rfl,l1,l2,l3,_,_,h3⟩:=zCT h
 refine ⟨by simp [l1,l2,l3], ?_⟩
 rw [zUp (by simp;omega),zUq (by simp;omega),zT8,tZ oO]
 exact h3
theorem zHf {m m':Nat} {t:V6} (hm:m<=m') {v:Wj} {W:Wi} (h:(fTR m t).p v W):(fTR m' t).p v W:=by
 obtain ⟨a,b,c,e,h1,h2,h3⟩:=h
 exact ⟨a,b,c,e,zBJ hm h1,zBJ hm h2,zBJ hm h3⟩
abbrev trs (m:Nat) (ts:List V6):List CU:=ts.map fun t=>CU.agg (fTR m t)
theorem zHd {m:Nat} {ts:List V6} {i:Nat} (h:i<ts.length):(trs m ts)[i]?=some (CU.agg (fTR m (at3 ts i))):=by
 unfold trs at3;rw [zUl,tV,tW h];rfl
section
variable {F:Fence} {m:Nat} {P:Wn} {w0:Wi} {ops:Array Oper} {G:Nat->SF} {d:Tmp} {ty:Wk} {pos:String} {aft:Array Edge}
end
theorem qQ {W W':Wi} {e:Wk} {z:Nat} {Cs:List CU} (h:W.heap.size<=W'.heap.size) (v:Wj) (w:Wi) (hv:(wE W' e z Cs).p v w):(wE W e z Cs).p v w:=zAs.mono hv h
theorem zKC {m:Nat} (hm0:0<m) {ps:List V2} {v:Wj} {W:Wi} (h:(SF.row 6 (pvs m ps)).p v W): ∀x,x∈ps->QB x.1 m/\QB x.2 m:=fun x hx=>by
 obtain ⟨i,hi,rfl⟩:=zK2 hx
 obtain ⟨_,_,_,_,_,_,h5⟩:=h
 obtain ⟨b,o,cs,_,_,h6⟩:=h5 i _ (zAV hi)
 exact zEN hm0 (v:= .agg cs.toArray) h6
abbrev PX:=QX×QX
abbrev PX.p (x:PX):V2:=(x.1.q,x.2.q)
abbrev PX.u (x:PX):UF:=fPT (fQX x.1.n x.1.n' x.1.k x.1.d) (fQX x.2.n x.2.n' x.2.k x.2.d)
abbrev PX.cu (x:PX):CU:=CU.agg x.u
abbrev pxs (L:List PX):List CU:=L.map PX.cu
theorem zTQ {x:PX} (cs:List Wj) (W:Wi) (h:(PX.cu x).p cs W): ∃u,cs[1]?=some u/\(fSl x.1.n).p u W:=by
 obtain ⟨s,A,n,c,A',n',c',s2,B,k,d,B',k',d',e,h1,h2⟩:=h
 rw [zDN e]
 have:=zN5 _ W (show (QX.cu x.1).p [Value.bool s, .slice A n c, .slice A' n' c'] W from h1)
 exact this
theorem zTP {x:PX} (cs:List Wj) (W:Wi) (h:(PX.cu x).p cs W): ∃u,cs[2]?=some u/\(fSl x.1.n').p u W:=by
 obtain ⟨s,A,n,c,A',n',c',s2,B,k,d,B',k',d',e,h1,h2⟩:=h
 rw [zDN e]
 have:=zN4 _ W (show (QX.cu x.1).p [Value.bool s, .slice A n c, .slice A' n' c'] W from h1)
 exact this
theorem zTO {x:PX} (cs:List Wj) (W:Wi) (h:(PX.cu x).p cs W): ∃u,cs[4]?=some u/\(fSl x.2.n).p u W:=by
 obtain ⟨s,A,n,c,A',n',c',s2,B,k,d,B',k',d',e,h1,h2⟩:=h
 rw [zDN e]
 have:=zN5 _ W (show (QX.cu x.2).p [Value.bool s2, .slice B k d, .slice B' k' d'] W from h2)
 exact this
theorem zTN {x:PX} (cs:List Wj) (W:Wi) (h:(PX.cu x).p cs W): ∃u,cs[5]?=some u/\(fSl x.2.n').p u W:=by
 obtain ⟨s,A,n,c,A',n',c',s2,B,k,d,B',k',d',e,h1,h2⟩:=h
 rw [zDN e]
 have:=zN4 _ W (show (QX.cu x.2).p [Value.bool s2, .slice B k d, .slice B' k' d'] W from h2)
 exact this
section
variable {F:Fence} {m:Nat} {P:Wn} {w0:Wi} {ops:Array Oper} {G:Nat->SF} {d:Tmp} {ty:Wk} {pos:String} {aft:Array Edge}
theorem zPw {x y z u:Wm} {ats:Array Wk} (a b c e:Nat) (hx: ∀q W,(fct G x).p q W->q= .int .i64 (a:Nat)) (hy: ∀q W,(fct G y).p q W->q= .int .i64 (b:Nat)) (hz: ∀q W,(fct G z).p q W->q= .int .i64 (c:Nat)) (hu: ∀q W,(fct G u).p q W->q= .int .i64 (e:Nat)) (hd: ∀W,(G d).p (.int .i64 ((max (max (max a b) c) e:Nat):Int)) W:=by exact fun _=>rfl):qK F m P w0 ops G ⟨some d, .call ⟨.builtin .max,#[x,y,z,u],ats⟩,ty,pos,aft,none⟩:=by
 intro bb W K Q hb hr hK
 have e1:=hx _ _ (yU hr (x:=x) (by simp [Op.operands,Call.operands]))
 have e2:=hy _ _ (yU hr (x:=y) (by simp [Op.operands,Call.operands]))
 have e3:=hz _ _ (yU hr (x:=z) (by simp [Op.operands,Call.operands]))
 have e4:=hu _ _ (yU hr (x:=u) (by simp [Op.operands,Call.operands]))
 refine ⟨fun f hf=>(by
  unfold Oper.about at hf
  simp [resolve,go_sem] at hf), ?_⟩
 rw [Oper.semAt_eq _ _ _ (fun _ e=>by cases e)]
 have:(execOp bb.eval ⟨some d, .call ⟨.builtin .max,#[x,y,z,u],ats⟩,ty,pos,aft,none⟩).run P W= .ok (.value (.int .i64 ((max (max (max a b) c) e:Nat):Int))) W:=by
  have m2: ∀p q:Nat,(if (p:Int)<(q:Int) then Value.int .i64 (q:Nat) else .int .i64 (p:Nat))= .int .i64 ((max p q:Nat):Int):=fun p q=>by
   split<;>(congr 1;omega)
  simp only [execOp,resolve,invoke,builtin,e1,e2,e3,e4,zUu,zUv,zUG,zUZ,zU0,List.map_nil]
  simp [Builtin.max_,Builtin.max2,m2,zUu,zUv]
  have m3: ∀p q:Nat,(if (p:Int)<(q:Int) then (q:Int) else (p:Int))=((max p q:Nat):Int):=fun p q=>by split<;>omega
  try simp only [m3]
  try (congr 1;omega)
 rw [this]
 exact hK _ _ (fun d' e'=>by cases e';exact hd _) (tR _ _)
end
def zIS (p q:V2):Int:=if qsg p.1 q.1=0 then qsg p.2 q.2 else qsg p.1 q.1
theorem zR0 {p q:V2} (h:(qsg p.1 q.1 !=0)=true):zIS p q=qsg p.1 q.1:=by unfold zIS;rw [if_neg (by simpa using h)]
theorem zRZ {p q:V2} (h:(qsg p.1 q.1 !=0)=false):zIS p q=qsg p.2 q.2:=by unfold zIS;rw [if_pos (by simpa using h)]
theorem zB3 (a n:Nat):(a:Int).tmod (n:Int)=((a % n:Nat):Int):=rfl
abbrev zDe (L:List Int):List CU:=L.map fun z=>wB [.int .i64 z]
def gI (L:List Int) (i:Nat):Int:=L.getD i 0
theorem zFY {L:List Int} {i:Nat} (h:i<L.length):(zDe L)[i]?=some (wB [.int .i64 (gI L i)]):=by
 unfold zDe gI;rw [zUl,tV,tW h];rfl
def zCo (L:List Int) (k:Nat):List V2:=(List.range k).map fun j=>(((gI L (2*j):Int):Rat),((gI L (2*j+1):Int):Rat))
theorem zJO (L:List Int) (k:Nat):pns (zCo L (k+1))=pns (zCo L k)++ [CU.agg (fPN (((gI L (2*k):Int):Rat),((gI L (2*k+1):Int):Rat)))]:=by
 unfold zCo pns
 rw [List.range_succ,zUX,zUX]
 rfl
theorem zBp (L:List Int) (k:Nat):(zCo L k).length=k:=by simp [zCo]
def zTB (L:List Int):Prop:= ∀i,-9223372036854775808<=gI L i/\gI L i<=9223372036854775807
theorem zSv (a b c d e f:Int):z9 prog 51 6 [(0, .int .i64 a),(1, .int .i64 b),(2, .int .i64 c),(3, .int .i64 d),(4, .int .i64 e),(5, .int .i64 f)]=some (3,#[.int .i64 a, .int .i64 b, .int .i64 c, .int .i64 d, .int .i64 e, .int .i64 f]):=by kernel_rfl
theorem zIe {L:List Int} {n:Nat} {cs:Array Wj} {e:Wk} {W:Wi} (hn:L.length=n) (hc:cs.toList=L.map (.int .i64)):n<=1000->(SF.row 1 (zDe L)).p (.slice (some ⟨W.heap.size,0,none⟩) n n) (W.alloc (.cells cs e)):=by
 intro h
 refine ⟨some ⟨W.heap.size,0,none⟩,n,by simp [hn],by simp [hn],by omega,fun e=>(by cases e),fun i C hi=> ?_⟩
 have hlt:i<L.length:=by have:=(tQ.1 hi).1;simpa using this
 rw [zFY hlt] at hi
 cases hi
 refine ⟨W.heap.size,0, [.int .i64 (gI L i)],rfl,fun j u hj=> ?_,rfl⟩
 obtain rfl:j=0:=by have:=(tQ.1 hj).1;simp at this;omega
 obtain rfl:Value.int .i64 (gI L i)=u:=by simpa using hj
 have hm:=zAW W cs e
 have h8:cs.toList[i]?=some (Value.int .i64 (gI L i)):=by
  rw [hc,zUl]
  unfold gI
  rw [tV,tW hlt];rfl
 have:=hm i _ h8
 simpa using this
section
variable {F:Fence} {m:Nat} {P:Wn} {w0:Wi} {ops:Array Oper} {G:Nat->SF} {d:Tmp} {ty:Wk} {pos:String} {aft:Array Edge}
theorem zAJ {t:Wk} {i j k:Nat} {x y z:Wm} (h: ∀u v q W,(fct G x).p u W->(fct G y).p v W->(fct G z).p q W-> ∃cells,P.built t [(i,u),(j,v),(k,q)]=some cells/\(G d).p (.agg cells) W):qK F m P w0 ops G ⟨some d, .build t #[(i,x),(j,y),(k,z)],ty,pos,aft,none⟩:=
 zFM fun b W hb hh=>by
  obtain ⟨cells,h1,h2⟩:=h _ _ _ W (hh x fM) (hh y fM) (hh z fM)
  exact ⟨cells,by simpa using h1,h2⟩
end
theorem zEv {F:Fence} {m:Nat} {w0:Wi} {ops:Array Oper} {G:Nat->SF} {d:Tmp} {ty:Wk} {pos:String} {aft:Array Edge} (a b c e f g:Int) (hd: ∀v W,(SF.row 1 (zDe [a,b,c,e,f,g])).p v W->(G d).p v W):qK F m prog w0 ops G ⟨some d, .buildSlice 51 6 #[(0, .const (.int .i64 a)),(1, .const (.int .i64 b)),(2, .const (.int .i64 c)),(3, .const (.int .i64 e)),(4, .const (.int .i64 f)),(5, .const (.int .i64 g))],ty,pos,aft,none⟩:=
 zC4 fun bb W hb hh=>by
  have h1:=zSv a b c e f g
  have ev: ∀v:Wj,bb.eval (.const v)=v:=fun _=>rfl
  refine ⟨3,#[.int .i64 a, .int .i64 b, .int .i64 c, .int .i64 e, .int .i64 f, .int .i64 g],by simpa [ev] using h1,hd _ _ (zIe (L:= [a,b,c,e,f,g]) rfl rfl oO)⟩
theorem trB (s:Bool) (A A':Wl Addr) (n n' c c':Nat) (s2:Bool) (B B':Wl Addr) (k k' d d':Nat) (t:Bool) (C C':Wl Addr) (i i' j j':Nat) (t2:Bool) (D D':Wl Addr) (x x' y y':Nat) (r:Bool) (E E':Wl Addr) (p p' q q':Nat) (r2:Bool) (F F':Wl Addr) (g g' h h':Nat):prog.built 38 [(0, .agg #[.bool s, .slice A n c, .slice A' n' c', .bool s2, .slice B k d, .slice B' k' d']),(1, .agg #[.bool t, .slice C i j, .slice C' i' j', .bool t2, .slice D x y, .slice D' x' y']),(2, .agg #[.bool r, .slice E p q, .slice E' p' q', .bool r2, .slice F g h, .slice F' g' h'])]=some #[.bool s, .slice A n c, .slice A' n' c', .bool s2, .slice B k d, .slice B' k' d', .bool t, .slice C i j, .slice C' i' j', .bool t2, .slice D x y, .slice D' x' y', .bool r, .slice E p q, .slice E' p' q', .bool r2, .slice F g h, .slice F' g' h']:=by kernel_rfl
theorem zTf {m:Nat} {t:V6} {u v q:Wj} {W:Wi} (hu:(fPV m t.1).p u W) (hv:(fPV m t.2.1).p v W) (hq:(fPV m t.2.2).p q W): ∃cells,prog.built 38 [(0,u),(1,v),(2,q)]=some cells/\(fTR m t).p (.agg cells) W:=by
 obtain ⟨s,A,n,c,A',n',c',s2,B,k,d,B',k',d',rfl,h1,h2⟩:=hu
 obtain ⟨s3,A3,n3,c3,A4,n4,c4,s4,B3,k3,d3,B4,k4,d4,rfl,h3,h4⟩:=hv
 obtain ⟨s5,A5,n5,c5,A6,n6,c6,s6,B5,k5,d5,B6,k6,d6,rfl,h5,h6⟩:=hq
 exact ⟨_,trB ..,_,_,_,rfl,⟨s,A,n,c,A',n',c',s2,B,k,d,B',k',d',rfl,h1,h2⟩,⟨s3,A3,n3,c3,A4,n4,c4,s4,B3,k3,d3,B4,k4,d4,rfl,h3,h4⟩,⟨s5,A5,n5,c5,A6,n6,c6,s6,B5,k5,d5,B6,k6,d6,rfl,h5,h6⟩⟩
theorem zTx (u0 u1 u2 u3 u4 u5 u6 u7 u8 u9 u10 u11 u12 u13 u14 u15 u16 u17:Wj):z9 prog 33 1 [(0, .agg #[u0,u1,u2,u3,u4,u5,u6,u7,u8,u9,u10,u11,u12,u13,u14,u15,u16,u17])]=some (38,#[u0,u1,u2,u3,u4,u5,u6,u7,u8,u9,u10,u11,u12,u13,u14,u15,u16,u17]):=by kernel_rfl
theorem zTK (u0 u1 u2 u3 u4 u5 u6 u7 u8 u9 u10 u11 u12 u13 u14 u15 u16 u17 v0 v1 v2 v3 v4 v5 v6 v7 v8 v9 v10 v11 v12 v13 v14 v15 v16 v17:Wj):z9 prog 33 2 [(0, .agg #[u0,u1,u2,u3,u4,u5,u6,u7,u8,u9,u10,u11,u12,u13,u14,u15,u16,u17]),(1, .agg #[v0,v1,v2,v3,v4,v5,v6,v7,v8,v9,v10,v11,v12,v13,v14,v15,v16,v17])]=some (38,#[u0,u1,u2,u3,u4,u5,u6,u7,u8,u9,u10,u11,u12,u13,u14,u15,u16,u17,v0,v1,v2,v3,v4,v5,v6,v7,v8,v9,v10,v11,v12,v13,v14,v15,v16,v17]):=by kernel_rfl
theorem zII {cs:List Wj} (h:cs.length=18): ∃u0 u1 u2 u3 u4 u5 u6 u7 u8 u9 u10 u11 u12 u13 u14 u15 u16 u17,cs= [u0,u1,u2,u3,u4,u5,u6,u7,u8,u9,u10,u11,u12,u13,u14,u15,u16,u17]:=by
 match cs,h with
 | [u0,u1,u2,u3,u4,u5,u6,u7,u8,u9,u10,u11,u12,u13,u14,u15,u16,u17],_=>exact ⟨u0,u1,u2,u3,u4,u5,u6,u7,u8,u9,u10,u11,u12,u13,u14,u15,u16,u17,rfl⟩
theorem zOL {m:Nat} {t:V6} {v:Wj} {W:Wi} (h:(fTR m t).p v W): ∃cs:List Wj,v= .agg cs.toArray/\cs.length=18/\(CU.agg (fTR m t)).p cs W:=by
 obtain ⟨a,b,c,rfl,h1⟩:=id h
 exact ⟨_,rfl,(zJQ m t _ W h).1,h⟩
theorem zH8 {m:Nat} {t:V6} {u:Wj} {W:Wi} (h:(fTR m t).p u W): ∃e cs,z9 prog 33 1 [(0,u)]=some (e,cs)/\(SF.row 18 (trs m [t])).p (.slice (some ⟨W.heap.size,0,none⟩) 1 1) (W.alloc (.cells cs e)):=by
 obtain ⟨cs,rfl,l,hc⟩:=zOL h
 obtain ⟨u0,u1,u2,u3,u4,u5,u6,u7,u8,u9,u10,u11,u12,u13,u14,u15,u16,u17,rfl⟩:=zII l
 refine ⟨_,_,zTx ..,some ⟨W.heap.size,0,none⟩,1,rfl,tT _,by decide,fun e=>(by cases e),fun i C hi=> ?_⟩
 have hb:=zBv W (.cells #[u0,u1,u2,u3,u4,u5,u6,u7,u8,u9,u10,u11,u12,u13,u14,u15,u16,u17] 38)
 have hm:=zAW W #[u0,u1,u2,u3,u4,u5,u6,u7,u8,u9,u10,u11,u12,u13,u14,u15,u16,u17] 38
 obtain rfl:i=0:=by have:=(tQ.1 hi).1;simp at this;omega
 obtain rfl:CU.agg (fTR m t)=C:=by simpa using hi
 refine ⟨W.heap.size,0,_,rfl, ?_,(CU.agg (fTR m t)).us _ _ _ hc (zL hb)⟩
 rw [show 0+0*18=0 from rfl]
 exact hm
def okS (L:List Int):Prop:= ∀i,(gI L i).natAbs<100
theorem okS.ok {L:List Int} (h:okS L):zTB L:=fun i=>by have:=h i;omega
theorem zE8 {L:List Int} (h:L.all (fun z=>decide (z.natAbs<100))=true):okS L:=fun i=>by
 unfold gI
 rw [tV]
 cases e:L[i]? with
 |none=>decide
 |some z=>
  have:=zUf.1 h z (List.mem_of_getElem? e)
  exact zUk this
theorem qbz {z:Int} (h:z.natAbs<100):QB ((z:Int):Rat) 1:=QB.int (Nat.lt_trans h dA) dA
theorem zOJ {L:List Int} (h:okS L) (k:Nat): ∀p,p∈zCo L k->QB p.1 1/\QB p.2 1:=fun p hp=>by
 obtain ⟨j,_,rfl⟩:=zUw.1 hp
 exact ⟨qbz (h _),qbz (h _)⟩
def TGp (u v q:UF) (x:Wj) (w:Wi):Prop:= ∃a b c:List Wj,x= .agg (a++b++c).toArray/\(CU.agg u).p a w/\(CU.agg v).p b w/\(CU.agg q).p c w
def fTG (u v q:UF):UF:= .mk' (TGp u v q) fun _ _ _ ⟨a,b,c,e,h1,h2,h3⟩ k=>⟨a,b,c,e,(CU.agg u).us _ _ _ h1 k,(CU.agg v).us _ _ _ h2 k,(CU.agg q).us _ _ _ h3 k⟩
section
variable {f g f' g' f'' g'':UF}
theorem zDU {cs:List Wj} {W:Wi} (h:(CU.agg (fTG (fPT f g) (fPT f' g') (fPT f'' g''))).p cs W): ∃a b c:List Wj,cs=a++b++c/\a.length=6/\b.length=6/\c.length=6/\(CU.agg (fPT f g)).p a W/\(CU.agg (fPT f' g')).p b W/\(CU.agg (fPT f'' g'')).p c W:=by
 obtain ⟨a,b,c,e,h1,h2,h3⟩:=h
 have:=zT9 Array.toList (jT e)
 have this:cs=a++b++c:=this
 exact ⟨a,b,c,this,(zBc _ _ a W h1).1,(zBc _ _ b W h2).1,(zBc _ _ c W h3).1,h1,h2,h3⟩
theorem zQz:CU.ok 18 (CU.agg (fTG (fPT f g) (fPT f' g') (fPT f'' g''))):=fun cs W h=>by
 obtain ⟨a,b,c,rfl,l1,l2,l3,h1,h2,h3⟩:=zDU h
 have o1:=zBc _ _ a W h1;have o2:=zBc _ _ b W h2;have o3:=zBc _ _ c W h3
 refine ⟨by simp [l1,l2,l3],zCO o1.2.1 o2.2.1 o3.2.1,fun u hu=> ?_⟩
 rcases zUn.1 hu with hu|hu
 ·rcases zUn.1 hu with hu|hu
  ·exact o1.2.2 u hu
  ·exact o2.2.2 u hu
 ·exact o3.2.2 u hu
theorem zNR {v:Wj} {W:Wi} (h:(fTG (fPT f g) (fPT f' g') (fPT f'' g'')).p v W):(CU.agg (fTG (fPT f g) (fPT f' g') (fPT f'' g''))).p v.cells.toList W/\v.cells.toList.all zV=true:=by
 obtain ⟨a,b,c,rfl,h1⟩:=id h
 exact ⟨h,(zQz _ W h).2.1⟩
theorem zMe (cs:List Wj) (W:Wi) (h:(CU.agg (fTG (fPT f g) (fPT f' g') (fPT f'' g''))).p cs W):0+18<=cs.length/\(fTG (fPT f g) (fPT f' g') (fPT f'' g'')).p (.agg ((cs.drop 0).take 18).toArray) W:=by
 have:=zQz cs W h
 refine ⟨by omega, ?_⟩
 rw [zUF,tZ oO]
 exact h
theorem zGg (cs:List Wj) (W:Wi) (h:(CU.agg (fTG (fPT f g) (fPT f' g') (fPT f'' g''))).p cs W):0+6<=cs.length/\(fPT f g).p (.agg ((cs.drop 0).take 6).toArray) W:=by
 obtain ⟨a,b,c,rfl,l1,l2,l3,h1,_⟩:=zDU h
 refine ⟨by simp [l1,l2,l3], ?_⟩
 rw [zUF,zUe,zUo oO,tZ oO]
 exact h1
theorem zH0 (cs:List Wj) (W:Wi) (h:(CU.agg (fTG (fPT f g) (fPT f' g') (fPT f'' g''))).p cs W):6+6<=cs.length/\(fPT f' g').p (.agg ((cs.drop 6).take 6).toArray) W:=by
 obtain ⟨a,b,c,rfl,l1,l2,l3,_,h2,_⟩:=zDU h
 refine ⟨by simp [l1,l2,l3], ?_⟩
 rw [zUe,zUp oO,zUq oO,zT8,zUo oO,tZ oO]
 exact h2
theorem zFo (cs:List Wj) (W:Wi) (h:(CU.agg (fTG (fPT f g) (fPT f' g') (fPT f'' g''))).p cs W):12+6<=cs.length/\(fPT f'' g'').p (.agg ((cs.drop 12).take 6).toArray) W:=by
 obtain ⟨a,b,c,rfl,l1,l2,l3,_,_,h3⟩:=zDU h
 refine ⟨by simp [l1,l2,l3], ?_⟩
 rw [zUp (by simp;omega),zUq (by simp;omega),zT8,tZ oO]
 exact h3
theorem zOX {W:Wi} {e:Wk} {z:Nat} {Cs:List CU} {cs:List Wj} (hlen:Cs.length<=9223372036854775807) (h: ∀(i:Nat) (C:CU),Cs[i]?=some C-> ∃p:List Wj,(∀j u,p[j]?=some u->cs[i*z+j]?=some u)/\C.p p W):(SF.row z Cs).p (.slice (some ⟨W.heap.size,0,none⟩) Cs.length Cs.length) (W.alloc (.cells cs.toArray e)):=by
 refine ⟨some ⟨W.heap.size,0,none⟩,Cs.length,rfl,tT _,hlen,fun e=>(by cases e),fun i C hi=> ?_⟩
 obtain ⟨p,h1,h2⟩:=h i C hi
 refine ⟨W.heap.size,0,p,rfl,fun j u hj=> ?_,C.us _ _ _ h2 (zL (zBv W _))⟩
 have:=zAW W cs.toArray e (i*z+j) u (by simpa using h1 j u hj)
 rwa [<-Nat.add_assoc] at this
theorem zTL (s:Bool) (A A':Wl Addr) (n n' c c':Nat) (s2:Bool) (B B':Wl Addr) (k k' d d':Nat) (t:Bool) (C C':Wl Addr) (i i' j j':Nat) (t2:Bool) (D D':Wl Addr) (x x' y y':Nat) (r:Bool) (E E':Wl Addr) (p p' q q':Nat) (r2:Bool) (F F':Wl Addr) (g g' h h':Nat):z9 prog 22 3 [(0, .agg #[.bool s, .slice A n c, .slice A' n' c', .bool s2, .slice B k d, .slice B' k' d']),(1, .agg #[.bool t, .slice C i j, .slice C' i' j', .bool t2, .slice D x y, .slice D' x' y']),(2, .agg #[.bool r, .slice E p q, .slice E' p' q', .bool r2, .slice F g h, .slice F' g' h'])]=some (30,#[.bool s, .slice A n c, .slice A' n' c', .bool s2, .slice B k d, .slice B' k' d', .bool t, .slice C i j, .slice C' i' j', .bool t2, .slice D x y, .slice D' x' y', .bool r, .slice E p q, .slice E' p' q', .bool r2, .slice F g h, .slice F' g' h']):=by kernel_rfl
theorem zNU {u v q:Wj} {W:Wi} (hu:(fPT f g).p u W) (hv:(fPT f' g').p v W) (hq:(fPT f'' g'').p q W): ∃e cs,z9 prog 22 3 [(0,u),(1,v),(2,q)]=some (e,cs)/\(SF.row 6 [CU.agg (fPT f g),CU.agg (fPT f' g'),CU.agg (fPT f'' g'')]).p (.slice (some ⟨W.heap.size,0,none⟩) 3 3) (W.alloc (.cells cs e)):=by
 obtain ⟨s,A,n,c,A',n',c',s2,B,k,d,B',k',d',rfl,h1,h2⟩:=hu
 obtain ⟨s3,A3,n3,c3,A4,n4,c4,s4,B3,k3,d3,B4,k4,d4,rfl,h3,h4⟩:=hv
 obtain ⟨s5,A5,n5,c5,A6,n6,c6,s6,B5,k5,d5,B6,k6,d6,rfl,h5,h6⟩:=hq
 refine ⟨_,_,zTL ..,zOX (Cs:= [CU.agg (fPT f g),CU.agg (fPT f' g'),CU.agg (fPT f'' g'')]) (cs:=_) fM fun i C hi=> ?_⟩
 have hlt:=(tQ.1 hi).1
 simp at hlt
 rcases (by omega:i=0∨i=1∨i=2) with rfl|rfl|rfl
 ·obtain rfl:CU.agg (fPT f g)=C:=by simpa using hi
  exact ⟨[.bool s, .slice A n c, .slice A' n' c', .bool s2, .slice B k d, .slice B' k' d'],fun j u hj=>by
   have h9:=(tQ.1 hj).1
   simp at h9
   rcases (by omega:j=0∨j=1∨j=2∨j=3∨j=4∨j=5) with rfl|rfl|rfl|rfl|rfl|rfl<;>exact hj,s,A,n,c,A',n',c',s2,B,k,d,B',k',d',rfl,h1,h2⟩
 ·obtain rfl:CU.agg (fPT f' g')=C:=by simpa using hi
  exact ⟨[.bool s3, .slice A3 n3 c3, .slice A4 n4 c4, .bool s4, .slice B3 k3 d3, .slice B4 k4 d4],fun j u hj=>by
   have h9:=(tQ.1 hj).1
   simp at h9
   rcases (by omega:j=0∨j=1∨j=2∨j=3∨j=4∨j=5) with rfl|rfl|rfl|rfl|rfl|rfl<;>exact hj,s3,A3,n3,c3,A4,n4,c4,s4,B3,k3,d3,B4,k4,d4,rfl,h3,h4⟩
 ·obtain rfl:CU.agg (fPT f'' g'')=C:=by simpa using hi
  exact ⟨[.bool s5, .slice A5 n5 c5, .slice A6 n6 c6, .bool s6, .slice B5 k5 d5, .slice B6 k6 d6],fun j u hj=>by
   have h9:=(tQ.1 hj).1
   simp at h9
   rcases (by omega:j=0∨j=1∨j=2∨j=3∨j=4∨j=5) with rfl|rfl|rfl|rfl|rfl|rfl<;>exact hj,s5,A5,n5,c5,A6,n6,c6,s6,B5,k5,d5,B6,k6,d6,rfl,h5,h6⟩
end
abbrev TX:=PX×PX×PX
abbrev TX.t (x:TX):V6:=(x.1.p,x.2.1.p,x.2.2.p)
abbrev TX.u (x:TX):UF:=fTG x.1.u x.2.1.u x.2.2.u
abbrev TX.cu (x:TX):CU:=CU.agg x.u
abbrev TX.l (x:TX):List PX:= [x.1,x.2.1,x.2.2]
abbrev txs (L:List TX):List CU:=L.map TX.cu
abbrev tts (L:List TX):List V6:=L.map TX.t
def PX.b (x:PX):Nat:=x.1.n+x.1.n'+(x.2.n+x.2.n')
def TX.b (x:TX):Nat:=PX.b x.1+PX.b x.2.1+PX.b x.2.2
section
variable {F:Fence} {m:Nat} {P:Wn} {w0:Wi} {ops:Array Oper} {G:Nat->SF} {d:Tmp} {ty:Wk} {pos:String} {aft:Array Edge}
end
theorem zHV {m:Nat} (hm0:0<m) {ts:List V6} {v:Wj} {W:Wi} (h:(SF.row 18 (trs m ts)).p v W) {i:Nat} (hi:i<ts.length): ∀p,p∈tl (at3 ts i)->QB p.1 m/\QB p.2 m:=by
 obtain ⟨_,_,_,_,_,_,h5⟩:=h
 obtain ⟨b,o,cs,_,_,h6⟩:=h5 i _ (zHd hi)
 obtain ⟨a,b,c,rfl,_,_,_,h1,h2,h3⟩:=zCT h6
 intro p hp
 rcases zUb.1 hp with rfl|hp
 ·exact zEN hm0 (v:= .agg a.toArray) h1
 ·rcases zUb.1 hp with rfl|hp
  ·exact zEN hm0 (v:= .agg b.toArray) h2
  ·obtain rfl:=List.mem_singleton.1 hp
   exact zEN hm0 (v:= .agg c.toArray) h3
theorem zNL (m:Nat) (ts:List V6): ∀C,C∈trs m ts->CU.ok 18 C:=fun C hC=>by
 obtain ⟨t,_,rfl⟩:=zUw.1 hC
 exact zJQ _ _
end Go.Proofs.Wd

namespace Go.Proofs.Wd
open Tryz
set_option maxRecDepth 100000
set_option maxHeartbeats 1000000
open Go.RowKit Lb
section
variable {F:Fence} {m:Nat} {P:Wn} {w0:Wi} {ops:Array Oper} {G:Nat->SF} {d:Tmp} {ty:Wk} {pos:String} {aft:Array Edge}
theorem zPu {t:Wk} {x y:Wm} {t':Wk} (k:IntKind) (u v r:Int) (hx: ∀q W,(fct G x).p q W->q= .int k u) (hy: ∀q W,(fct G y).p q W->q= .int k v) (hr:k.wrap (u*v)=r) (hd: ∀W,(G d).p (.int k r) W:=by exact fun _=>rfl):qK F m P w0 ops G ⟨some d, .binOp .mul t x y t',ty,pos,aft,none⟩:=
 zC6 (.int k u) (.int k v) (.int k r) hx hy (fun W=>by simp [eqGuard]) (fun W=>by subst hr;simp [binOp,Op.intArith]) hd
end
def zBy (a b p:V2):Int:=(crs a b p).num.sign
abbrev QP (m:Nat) (p:V2):Prop:=QB p.1 m/\QB p.2 m
theorem QP.sub {m:Nat} {p q:V2} (hp:QP m p) (hq:QP m q):QP (2*m+1) (p.1 - q.1,p.2 - q.2):=⟨(hp.1.sub hq.1).mono oO,(hp.2.sub hq.2).mono oO⟩
theorem zSp {m:Nat} (hm0:0<m) {a b c:V2} {x:Wj} {W:Wi} (h:(fTG (fPV m a) (fPV m b) (fPV m c)).p x W):QP m a/\QP m b/\QP m c:=by
 obtain ⟨u,v,q,_,h1,h2,h3⟩:=h
 exact ⟨zEN hm0 (v:= .agg u.toArray) h1,zEN hm0 (v:= .agg v.toArray) h2,zEN hm0 (v:= .agg q.toArray) h3⟩
theorem thB (s:Bool) (A A':Wl Addr) (n n' c c':Nat) (s2:Bool) (B B':Wl Addr) (k k' d d':Nat) (t:Bool) (C C':Wl Addr) (i i' j j':Nat) (t2:Bool) (D D':Wl Addr) (x x' y y':Nat) (r:Bool) (E E':Wl Addr) (p p' q q':Nat) (r2:Bool) (F F':Wl Addr) (g g' h h':Nat):prog.built 112 [(0, .agg #[.bool s, .slice A n c, .slice A' n' c', .bool s2, .slice B k d, .slice B' k' d']),(1, .agg #[.bool t, .slice C i j, .slice C' i' j', .bool t2, .slice D x y, .slice D' x' y']),(2, .agg #[.bool r, .slice E p q, .slice E' p' q', .bool r2, .slice F g h, .slice F' g' h'])]=some #[.bool s, .slice A n c, .slice A' n' c', .bool s2, .slice B k d, .slice B' k' d', .bool t, .slice C i j, .slice C' i' j', .bool t2, .slice D x y, .slice D' x' y', .bool r, .slice E p q, .slice E' p' q', .bool r2, .slice F g h, .slice F' g' h']:=by kernel_rfl
theorem zTW {f g f' g' f'' g'':UF} {u v q:Wj} {W:Wi} (hu:(fPT f g).p u W) (hv:(fPT f' g').p v W) (hq:(fPT f'' g'').p q W): ∃cells,prog.built 112 [(0,u),(1,v),(2,q)]=some cells/\(fTG (fPT f g) (fPT f' g') (fPT f'' g'')).p (.agg cells) W:=by
 obtain ⟨s,A,n,c,A',n',c',s2,B,k,d,B',k',d',rfl,h1,h2⟩:=hu
 obtain ⟨s3,A3,n3,c3,A4,n4,c4,s4,B3,k3,d3,B4,k4,d4,rfl,h3,h4⟩:=hv
 obtain ⟨s5,A5,n5,c5,A6,n6,c6,s6,B5,k5,d5,B6,k6,d6,rfl,h5,h6⟩:=hq
 exact ⟨_,thB ..,_,_,_,rfl,⟨s,A,n,c,A',n',c',s2,B,k,d,B',k',d',rfl,h1,h2⟩,⟨s3,A3,n3,c3,A4,n4,c4,s4,B3,k3,d3,B4,k4,d4,rfl,h3,h4⟩,⟨s5,A5,n5,c5,A6,n6,c6,s6,B5,k5,d5,B6,k6,d6,rfl,h5,h6⟩⟩
theorem zOG {m:Nat} {W:Wi} {p q r:V2} {x:Wj} (hx:(fTG (fPV m p) (fPV m q) (fPV m r)).p x W) (hm:m<=159) (hm0:0<m) (hT:Tab W):Calls prog 86 #[x] W (Ret W (fI (zBy p q r)).tS):=by
 have hq:=zSp hm0 hx
 refine yF [(fTG (fPV m p) (fPV m q) (fPV m r)).tS] func86 rfl kH ⟨hx,trivial⟩ fun a s=> ?_
 replace s:=s.renew [(0, .u (fTG (fPV m p) (fPV m q) (fPV m r)))] (fmz ⟨.inr ⟨_,rfl, .head _⟩,fnz⟩)
 refine tN ?_
 refine zB 0 [] hmix s kH
  zE fun a w1 s=> ?_
 refine qD (CU.agg (fTG (fPV m p) (fPV m q) (fPV m r))) rfl s kH (fun v W h=>zNR h) fun b1 a w s=> ?_
 refine qN (uI 0) rfl s kH iiz fun a w s=> ?_
 refine zA rfl ?_
 refine tN ?_
 replace s:=s.drop [2]
 refine zB 13 ((3, .X (fTG (fPV m p) (fPV m q) (fPV m r)) 6)::(4, .Z (fPV m q))::(5, .X (fTG (fPV m p) (fPV m q) (fPV m r)) 0)::(6, .Z (fPV m p))::(7, .Z (fPN ((q).1 - (p).1,(q).2 - (p).2)))::(8, .X (fTG (fPV m p) (fPV m q) (fPV m r)) 12)::(9, .Z (fPV m r))::(10, .X (fTG (fPV m p) (fPV m q) (fPV m r)) 0)::(11, .Z (fPV m p))::(12, .Z (fPN ((r).1 - (p).1,(r).2 - (p).2)))::(13, .Z (fQN (((q).1 - (p).1,(q).2 - (p).2).1*((r).1 - (p).1,(r).2 - (p).2).2 - ((q).1 - (p).1,(q).2 - (p).2).2*((r).1 - (p).1,(r).2 - (p).2).1)))::(14, .Z (uI (zBy p q r)))::(2, .u (uI (zBy p q r))):: []) hmix s kH
  (oc (zP (C:=cg (fTG (fPV m p) (fPV m q) (fPV m r))) 6 kH)<|oc (zS (C:=cg (fTG (fPV m p) (fPV m q) (fPV m r))) (k:=6) 6 kH (h:=zH0))<|oc (zP (C:=cg (fTG (fPV m p) (fPV m q) (fPV m r))) 0 kH)<|oc (zS (C:=cg (fTG (fPV m p) (fPV m q) (fPV m r))) (k:=0) 6 kH (h:=zGg))<|oc (zM zD zNr (fun u0 u1 W hb (h0:(fPV m q).p u0 W) (h1:(fPV m p).p u1 W)=>zHR (p:=q) (q:=p) h0 h1 oO hm0 (hT.below (s.up hb))))<|oc (zP (C:=cg (fTG (fPV m p) (fPV m q) (fPV m r))) 12 kH)<|oc (zS (C:=cg (fTG (fPV m p) (fPV m q) (fPV m r))) (k:=12) 6 kH (h:=zFo))<|oc (zP (C:=cg (fTG (fPV m p) (fPV m q) (fPV m r))) 0 kH)<|oc (zS (C:=cg (fTG (fPV m p) (fPV m q) (fPV m r))) (k:=0) 6 kH (h:=zGg))<|oc (zM zD zNr (fun u0 u1 W hb (h0:(fPV m r).p u0 W) (h1:(fPV m p).p u1 W)=>zHR (p:=r) (q:=p) h0 h1 oO hm0 (hT.below (s.up hb))))<|oc (zM zD zPX (fun u0 u1 W hb (h0:(fPN ((q).1 - (p).1,(q).2 - (p).2)).p u0 W) (h1:(fPN ((r).1 - (p).1,(r).2 - (p).2)).p u1 W)=>zFl (m:=(2*m+1)) (p:=((q).1 - (p).1,(q).2 - (p).2)) (q:=((r).1 - (p).1,(r).2 - (p).2)) (zCG (p:=((q).1 - (p).1,(q).2 - (p).2)) (m:=(2*m+1)) ((QP.sub hq.2.1 hq.1).1.mono (by first|omega|decide)) ((QP.sub hq.2.1 hq.1).2.mono (by first|omega|decide)) h0) (zCG (p:=((r).1 - (p).1,(r).2 - (p).2)) (m:=(2*m+1)) ((QP.sub hq.2.2 hq.1).1.mono (by first|omega|decide)) ((QP.sub hq.2.2 hq.1).2.mono (by first|omega|decide)) h1) (QP.sub hq.2.1 hq.1) (QP.sub hq.2.2 hq.1) oO oO (hT.below (s.up hb))))<|oc (zH zD zRu (fun u0 W hb (h0:QNp (((q).1 - (p).1,(q).2 - (p).2).1*((r).1 - (p).1,(r).2 - (p).2).2 - ((q).1 - (p).1,(q).2 - (p).2).2*((r).1 - (p).1,(r).2 - (p).2).1) u0 W)=>zKn (wH h0 (QB.mono (((QP.sub hq.2.1 hq.1).1.mul (QP.sub hq.2.2 hq.1).2).sub ((QP.sub hq.2.1 hq.1).2.mul (QP.sub hq.2.2 hq.1).1)) (m':=8*m+5) oO)) oO oO (hT.below (s.up hb))))<|oc zG<|zE) fun a w2 s=> ?_
 refine zA rfl ?_
 refine tO ?_
 exact wF s (t:=2) rfl iiz
theorem zJY {m:Nat} {W:Wi} {p q r:V2} {u v x:Wj} (h1:(fPV m p).p u W) (h2:(fPV m q).p v W) (h3:(fPV m r).p x W) (hm:m<=159) (hm0:0<m) (hT:Tab W):Calls prog 59 #[u,v,x] W (Ret W (fI (zBy p q r)).tS):=by
 refine yF [(fPV m p).tS,(fPV m q).tS,(fPV m r).tS] func59 rfl kH ⟨h1,h2,h3,trivial⟩ fun a s=> ?_
 replace s:=s.renew [(0, .u (fPV m p)),(1, .u (fPV m q)),(2, .u (fPV m r))] (fmz ⟨.inr ⟨_,rfl, .head _⟩,fmz ⟨.inr ⟨_,rfl,mz1⟩,fmz ⟨.inr ⟨_,rfl,mz2⟩,fnz⟩⟩⟩)
 refine tN ?_
 refine zB 0 [] hmix s kH
  zE fun a w1 s=> ?_
 refine qD (CU.agg (fPV m p)) rfl s kH (fun v W h=>zAI h) fun b3 a w s=> ?_
 refine qD (CU.agg (fPV m q)) rfl s kH (fun v W h=>zAI h) fun b4 a w s=> ?_
 refine qD (CU.agg (fPV m r)) rfl s kH (fun v W h=>zAI h) fun b5 a w s=> ?_
 refine qN (uI 0) rfl s kH iiz fun a w s=> ?_
 refine zA rfl ?_
 refine tN ?_
 replace s:=s.drop [6]
 refine zB 6 ((7, .Z (fPV m p))::(8, .Z (fPV m q))::(9, .Z (fPV m r))::(10, .Z (fTG (fPV m p) (fPV m q) (fPV m r)))::(11, .Z (uI (zBy p q r)))::(6, .u (uI (zBy p q r))):: []) hmix s kH
  (oc (zR (f:=fPV m p) 6 kH (hz:=yP _ _))<|oc (zR (f:=fPV m q) 6 kH (hz:=yP _ _))<|oc (zR (f:=fPV m r) 6 kH (hz:=yP _ _))<|oc (zAJ (fun u v z W (hu:(fPV m p).p u W) (hv:(fPV m q).p v W) (hz:(fPV m r).p z W)=>zTW hu hv hz))<|oc (zH zD zSQ (fun u0 W hb (h0:(fTG (fPV m p) (fPV m q) (fPV m r)).p u0 W)=>zOG h0 hm hm0 (hT.below (s.up hb))))<|oc zG<|zE) fun a w2 s=> ?_
 refine zA rfl ?_
 refine tO ?_
 exact wF s (t:=6) rfl iiz
theorem QB.inv {q:Rat} {m:Nat} (h:QB q m):QB q⁻¹ m:=by
 by_cases e:q=0
 ·subst e
  rw [Rat.inv_zero];exact h
 ·have hn:q.num≠0:=fun h0=>e (zUD.1 h0)
  refine vL h.pos (X:=(q.den:Int)) (D:=q.num) ?_ hn (zAe h.2) h.1
  have h1:(q.num:Rat)=q*((q.den:Nat):Rat):=zOf q
  rw [h1, <-Rat.mul_assoc,Rat.inv_mul_cancel q e,zUB]
  rfl
theorem QB.div {p q:Rat} {m n:Nat} (h:QB p m) (h':QB q n):QB (p / q) (m+n):=by
 rw [Rat.div_def]
 exact h.mul h'.inv
section
variable {F:Fence} {m:Nat} {P:Wn} {w0:Wi} {ops:Array Oper} {G:Nat->SF} {d:Tmp} {ty:Wk} {pos:String} {aft:Array Edge}
theorem zHo {t e':Wk} {ie:TypeInfo} {z:Nat} (hu:P.underlying t=some (.slice e')) (hie:P.info? e'=some ie) (hsz:ie.size=z) (A:Wl Addr) (n c k:Nat) (hk:k<=n) (w:Wi):(Instr.sliceAt t (.slice A n c) (some (.int .i64 (k:Int))) none none).run P w= .ok (.slice (if c=k then A else A.map (·.add (k*z))) (n - k) (c - k)) w:=by
 simp [Instr.sliceAt,Instr.slice,Instr.sliceBounds,zUd hu,sizeOf,typeInfo,hie,hsz,go_sem,hk]
theorem zKb {t e':Wk} {ie:TypeInfo} (hu:P.underlying t=some (.slice e')) (hie:P.info? e'=some ie) (A:Wl Addr) (n c k:Nat) (hk:k<=c) (w:Wi):(Instr.sliceAt t (.slice A n c) none (some (.int .i64 (k:Int))) none).run P w= .ok (.slice A k c) w:=by
 simp [Instr.sliceAt,Instr.slice,Instr.sliceBounds,zUd hu,sizeOf,typeInfo,hie,go_sem,hk]
theorem zJf {x lo:Wm} {t:Wk} {z k:Nat} {Cs:List CU} (hz:zAw P t=some z) (hk:k<=Cs.length) (hx: ∀v W,Below w0.heap.size w0 W->(fct G x).p v W->(SF.row z Cs).p v W) (hh: ∀v W,(fct G lo).p v W->v= .int .i64 (k:Int)) (hd: ∀v W,(SF.row z (Cs.drop k)).p v W->(G d).p v W:=by exact fun _ _ h=>h):qK F m P w0 ops G ⟨some d, .slice t x (some lo) none none,ty,pos,aft,none⟩:=
 qO (fun _ e=>by cases e) (fun _ e=>by cases e) fun b W hb hp=>by
  obtain ⟨A,c,e,h2,h3,h4,h5⟩:=hx _ _ hb (hp x (by simp [Op.operands]))
  have e2:=hh _ _ (hp lo (by simp [Op.operands]))
  unfold zAw at hz
  split at hz<;>try cases hz
  rename_i e' hu
  obtain ⟨ie,hie,hsz⟩:=zUH.1 hz
  refine ⟨.slice (if c=k then A else A.map (·.add (k*z))) (Cs.length - k) (c - k),by simp [execOp,e,e2,zHo hu hie hsz A Cs.length c k hk],hd _ _ ⟨_,c - k,by rw [zUx],by rw [zUx];omega,by omega,fun hA=> ?_,fun i C hi=> ?_⟩⟩
  ·split at hA
   ·omega
   ·cases A with
    |none=>have:=h4 rfl;omega
    |some q=>cases hA
  ·rw [zU1] at hi
   have hlt:=(tQ.1 hi).1
   obtain ⟨b',o,cs,rfl,h6,h7⟩:=h5 _ C hi
   rw [if_neg oO]
   refine ⟨b',o+k*z,cs,by simp [zUE], ?_,h7⟩
   rwa [show o+(k+i)*z=o+k*z+i*z by rw [zUI];omega] at h6
end
section
variable {S:Nat->Prop} {F:Fence} {m:Nat} {P:Wn} {Q:Exit->Act->Wi->Prop} {w0:Wi} {K:List (Nat×KF)} {B:List Bx} {n:Nat} {ds:List Deferred} {a:Act} {w:Wi}
end
theorem zPH {cs:List Wj} (h:cs.length=6): ∃u0 u1 u2 u3 u4 u5,cs= [u0,u1,u2,u3,u4,u5]:=by
 match cs,h with
 | [u0,u1,u2,u3,u4,u5],_=>exact ⟨u0,u1,u2,u3,u4,u5,rfl⟩
section
variable {f g f' g':UF}
end
section
variable {F:Fence} {m:Nat} {P:Wn} {u w0:Wi} {ops:Array Oper} {G:Nat->SF} {d:Tmp} {ty:Wk} {pos:String} {aft:Array Edge}
variable {l:Wj} {x y:Wm} {t:Wk} {z:Nat} {Cs:List CU} {i:Nat} {C:CU}
end
section
variable {S:Nat->Prop} {w0:Wi} {K:List (Nat×KF)} {B:List Bx} {n:Nat} {ds:List Deferred} {a:Act} {w:Wi}
end
end Go.Proofs.Wd

namespace Go.Proofs.Wd
open Tryz
set_option maxRecDepth 100000
set_option maxHeartbeats 1000000
open Go.RowKit Lb
section
variable {f g f' g':UF}
end
theorem zQr {m:Nat} {W:Wi} {u v:Wj} {p q:V2} (h1:(fPV m p).p u W) (h2:(fPV m q).p v W) (hm:m<=2000) (hm0:0<m) (hT:Tab W):Calls prog 95 #[u,v] W (Ret W (fI (zIS p q)).tS):=by
 refine yF [(fPV m p).tS,(fPV m q).tS] func95 rfl kH ⟨h1,h2,trivial⟩ fun a s=> ?_
 refine tN ?_
 refine zB 0 [] hmix s kH
  zE fun a w1 s=> ?_
 refine qD (CU.agg (fPV m p)) rfl s kH (fun v W h=>zAI h) fun b2 a w s=> ?_
 refine qD (CU.agg (fPV m q)) rfl s kH (fun v W h=>zAI h) fun b3 a w s=> ?_
 refine qN (uI 0) rfl s kH iiz fun a w s=> ?_
 refine zA rfl ?_
 refine tN ?_
 refine tN ?_
 refine zB 6 ((6, .X (fPV m p) 0)::(7, .Z (fRV m ((p).1)))::(8, .X (fPV m q) 0)::(9, .Z (fRV m ((q).1)))::(10, .Z (uI (qsg (p).1 (q).1)))::(5, .u (uI (qsg (p).1 (q).1))):: []) hmix s kH
  (oc (zP (C:=cg (fPV m p)) 0 kH)<|oc (zS (C:=cg (fPV m p)) (k:=0) 3 kH (h:=zIs))<|oc (zP (C:=cg (fPV m q)) 0 kH)<|oc (zS (C:=cg (fPV m q)) (k:=0) 3 kH (h:=zIs))<|oc (zM zD zOn (fun u0 u1 W hb (h0:RVp m ((p).1) u0 W) (h1:RVp m ((q).1) u1 W)=>zN1 h0 h1 hm hm0 (hT.below (s.up hb))))<|oc zG<|zE) fun a w2 s=> ?_
 refine zA rfl ?_
 refine tN ?_
 refine zB 2 ((11, .Z (uI (qsg (p).1 (q).1)))::(12, .u (uB (qsg (p).1 (q).1 !=0))):: []) hmix s kH
  (oc zC<|oc (z5 .i64 (qsg (p).1 (q).1) 0 (qsg (p).1 (q).1 !=0) iiz iiz rfl rfl)<|zE) fun a w3 s=> ?_
 refine zA rfl ?_
 refine StS.cond s (qsg (p).1 (q).1 !=0) iiz (fun e=> ?_) (fun e=> ?_)
 ·refine tN ?_
  replace s:=s.drop [4]
  refine zB 2 ((13, .Z (uI (qsg (p).1 (q).1)))::(4, .u (uI (qsg (p).1 (q).1))):: []) hmix s kH
   (oc zC<|oc zG<|zE) fun a w4 s=> ?_
  refine zA rfl ?_
  refine tO ?_
  exact wF s (t:=4) rfl (fun v W h=>by rw [zR0 e];exact h)
 ·refine zBw ?_
  refine tN ?_
  replace s:=s.drop [4]
  refine zB 6 ((14, .X (fPV m p) 3)::(15, .Z (fRV m ((p).2)))::(16, .X (fPV m q) 3)::(17, .Z (fRV m ((q).2)))::(18, .Z (uI (qsg (p).2 (q).2)))::(4, .u (uI (qsg (p).2 (q).2))):: []) hmix s kH
   (oc (zP (C:=cg (fPV m p)) 3 kH)<|oc (zS (C:=cg (fPV m p)) (k:=3) 3 kH (h:=zIr))<|oc (zP (C:=cg (fPV m q)) 3 kH)<|oc (zS (C:=cg (fPV m q)) (k:=3) 3 kH (h:=zIr))<|oc (zM zD zOn (fun u0 u1 W hb (h0:RVp m ((p).2) u0 W) (h1:RVp m ((q).2) u1 W)=>zN1 h0 h1 hm hm0 (hT.below (s.up hb))))<|oc zG<|zE) fun a w5 s=> ?_
  refine zA rfl ?_
  refine tO ?_
  exact wF s (t:=4) rfl (fun v W h=>by rw [zRZ e];exact h)
theorem zJH {m:Nat} {W:Wi} {l:Wj} {ps:List V2} (hl:(SF.row 6 (pvs m ps)).p l W) (hm:m<=2000) (hm0:0<m) (hps:ps.length<=1000000) (hT:Tab W):Calls prog 64 #[l] W (Ret W (wE W 30 6 (pns ps))):=by
 refine yF [(UF.eq l).tS] func64 rfl kH ⟨rfl,trivial⟩ fun a s=> ?_
 replace s:=s.renew [(0, .u (UF.eq l))] (fmz ⟨.inr ⟨_,rfl, .head _⟩,fnz⟩)
 refine tN ?_
 refine zB 1 ((2, .u (UF.eq (.slice none 0 0))):: []) hmix s kH
  (oc zG<|zE) fun a w1 s=> ?_
 refine zA rfl ?_
 refine tN ?_
 refine tN ?_
 refine zB 3 ((5, .u (UF.eq l))::(6, .u (uI ((pvs m ps).length:Int)))::(7, .u (uI 0)):: []) hmix s kH
  (oc zC<|oc (y7 (z:=6) (Cs:=pvs m ps) kH (fun v W hb h=>(yL hl h (s.up hb))) (fun _=>rfl))<|oc zC<|zE) fun a w2 s=> ?_
 refine zA rfl ?_
 refine zUm ?_
 obtain ⟨base,hbase⟩: ∃b,b=w2.heap.size:=⟨_,rfl⟩
 have hb0:W.heap.size<=base:=by rw [hbase];exact s.gr.size
 have hsz0:base<=w2.heap.size:=by rw [hbase];exact tT _
 refine zJW (fun (p:Nat×Wj) w=>p.1<=ps.length/\base<=w.heap.size/\zAs w base 30 6 p.2 (pns (ps.take p.1))) (fun p=> [(5, .u (UF.eq l)),(6, .u (uI ((pvs m ps).length:Int))),(2, .u (UF.eq (p.2))),(7, .u (uI (p.1:Int)))]) (fun p=>ps.length - p.1) (0, .slice none 0 0) (⟨tY _,hsz0,zAs.nil _ _ _ _⟩) (s.keepK _ (fmz ⟨.head _,fmz ⟨mz1,fmz ⟨mz3,fmz ⟨mz2,fnz⟩⟩⟩⟩)) fun p a w hI s=> ?_
 have s0:=s
 have hlw:=(SF.row 6 (pvs m ps)).st _ _ _ hl s0.below
 have hT0:=hT
 have hT:=hT0.below s0.below
 replace s:=s.reb rfl [(5, .u (UF.eq l)),(6, .u (uI ((pvs m ps).length:Int))),(2, .u (UF.eq (p.2))),(7, .u (uI (p.1:Int)))] (fmz ⟨.inl (.head _),fmz ⟨.inl mz1,fmz ⟨.inl mz2,fmz ⟨.inl mz3,fnz⟩⟩⟩⟩)
 refine tN ?_
 refine zB 1 ((8, .u (uB (decide ((p.1:Int)<((pvs m ps).length:Int))))):: []) hmix s kH
  (oc (z5 .i64 (p.1:Int) ((pvs m ps).length:Int) (decide ((p.1:Int)<((pvs m ps).length:Int))) iiz iiz rfl rfl)<|zE) fun a w3 s=> ?_
 refine zA rfl ?_
 refine tN ?_
 refine StS.cond s (decide ((p.1:Int)<((pvs m ps).length:Int))) iiz (fun e=> ?_) (fun e=> ?_)
 ·have hk:p.1<ps.length:=by have:=zUk e;simp at this;omega
  refine zBw ?_
  refine tN ?_
  refine zUm ?_
  refine tN ?_
  refine zB 2 ((9, .Y (fPV m (at_ ps p.1)))::(10, .u (fPV m (at_ ps p.1))):: []) hmix s kH
   (oc (zZ (z:=6) (Cs:=pvs m ps) (i:=p.1) (C:=CU.agg (fPV m (at_ ps p.1))) kH (zAV hk) (fun v W hb h=>(yL hlw h (s.up hb))) iiz)<|oc (zR (f:=fPV m (at_ ps p.1)) 6 kH (hz:=yP _ _))<|zE) fun a w4 s=> ?_
  refine yE (CU.len 6) (cs:=zP6) kH rfl s kH (fun W=>rfl) rfl fun b4 a w s=> ?_
  refine zU (CU.agg (fPV m (at_ ps p.1))) ((fPV m (at_ ps p.1)).tS) rfl s kH rfl rfl rfl iiz iiz jX fun a w s=> ?_
  refine zA rfl ?_
  refine zB5 (K:= [(10, .u (fPV m (at_ ps p.1))),(8, .u (uB (decide ((p.1:Int)<((pvs m ps).length:Int))))),(5, .u (UF.eq l)),(6, .u (uI ((pvs m ps).length:Int))),(7, .u (uI (p.1:Int)))]) [(2, .u (UF.eq (p.2)))] [0] 9 ((11, .u (UF.eq (p.2)))::(12, .X (fPV m (at_ ps p.1)) 0)::(13, .Z (fRV m ((at_ ps p.1).1)))::(14, .Z (fQN ((at_ ps p.1).1)))::(15, .X (fPV m (at_ ps p.1)) 3)::(16, .Z (fRV m ((at_ ps p.1).2)))::(17, .Z (fQN ((at_ ps p.1).2)))::(18, .Z (fPN ((at_ ps p.1).1,(at_ ps p.1).2)))::(19, .s (SF.row 6 [CU.agg (fPN ((at_ ps p.1).1,(at_ ps p.1).2))])):: []) hmix (s.keepK _ (fmz ⟨mz4,fmz ⟨.head _,fmz ⟨mz1,fmz ⟨mz2,fmz ⟨mz3,fmz ⟨mz5,fnz⟩⟩⟩⟩⟩⟩)) kH
   (oc zC<|oc (zP (C:=cg (fPV m (at_ ps p.1))) 0 kH)<|oc (zS (C:=cg (fPV m (at_ ps p.1))) (k:=0) 3 kH (h:=zIs))<|oc (zH zD zRr (fun u0 W hb (h0:RVp m ((at_ ps p.1).1) u0 W)=>zKo (m:=m) h0 hm hm0 (hT.below (s.up hb))))<|oc (zP (C:=cg (fPV m (at_ ps p.1))) 3 kH)<|oc (zS (C:=cg (fPV m (at_ ps p.1))) (k:=3) 3 kH (h:=zIr))<|oc (zH zD zRr (fun u0 W hb (h0:RVp m ((at_ ps p.1).2) u0 W)=>zKo (m:=m) h0 hm hm0 (hT.below (s.up hb))))<|oc (jA (fun u v W (hu:QNp ((at_ ps p.1).1) u W) (hv:QNp ((at_ ps p.1).2) v W)=>zQn (zA4 _) (zA4 _) hu hv))<|oc (jP (fun u W (hu:(fPN ((at_ ps p.1).1,(at_ ps p.1).2)).p u W)=>zJ2 hu))<|zE) fun Q' hQ a w5 s hr=> ?_
  refine zQE ([CU.agg (fPN ((at_ ps p.1).1,(at_ ps p.1).2))]) s0 (s.keepK [(11, .u (UF.eq (p.2))),(10, .u (fPV m (at_ ps p.1))),(8, .u (uB (decide ((p.1:Int)<((pvs m ps).length:Int))))),(5, .u (UF.eq l)),(6, .u (uI ((pvs m ps).length:Int))),(7, .u (uI (p.1:Int)))] (fmz ⟨.head _,fmz ⟨mz1,fmz ⟨mz2,fmz ⟨mz3,fmz ⟨mz4,fmz ⟨mz5,fnz⟩⟩⟩⟩⟩⟩)) hb0 hI.2 rfl kH kH kH (s.fct (.tmp 11)) (hr (_,_) mz8) (zOb _ _) (by simp;omega) (fun q hq hr=>by rcases zUb.1 hq with rfl|hq;cases hr;cases hq) fun v' a w hI' s=> ?_
  have s1:=s
  replace s:StS _ _ _ [⟨4,30,CU.agg (fPV m (at_ ps p.1)),b4,true⟩] _ _ _ _:=s.freeze
  replace s:=s.reb rfl [(20, .u (UF.eq v')),(11, .u (UF.eq (p.2))),(10, .u (fPV m (at_ ps p.1))),(8, .u (uB (decide ((p.1:Int)<((pvs m ps).length:Int))))),(5, .u (UF.eq l)),(6, .u (uI ((pvs m ps).length:Int))),(7, .u (uI (p.1:Int)))] (fmz ⟨.inl (.head _),fmz ⟨.inl mz1,fmz ⟨.inl mz2,fmz ⟨.inl mz3,fmz ⟨.inl mz4,fmz ⟨.inl mz5,fmz ⟨.inl mz6,fnz⟩⟩⟩⟩⟩⟩⟩)
  refine qN (UF.eq v') rfl s kH iiz fun a w s=> ?_
  refine zA rfl (hQ _ _ ?_)
  refine yJ 1 ((21, .u (uI ((p.1+1:Nat):Int))):: []) s kH
   (oc (yX .i64 (p.1:Int) 1 ((p.1+1:Nat):Int) iiz iiz (wrap64 _ _ oO oO))<|zE) fun a w6 s=> ?_
  replace s:=s.drop [7]
  refine zDp (uI ((p.1+1:Nat):Int)) rfl s kH zC kH fun a w s=> ?_
  refine zA rfl ?_
  replace s:=s.popB
  have hbw:=s.below
  replace s:=s1.back (s.keepK [(7, .u (uI ((p.1+1:Nat):Int))),(21, .u (uI ((p.1+1:Nat):Int))),(2, .u (UF.eq v')),(20, .u (UF.eq v')),(11, .u (UF.eq (p.2))),(10, .u (fPV m (at_ ps p.1))),(8, .u (uB (decide ((p.1:Int)<((pvs m ps).length:Int))))),(5, .u (UF.eq l)),(6, .u (uI ((pvs m ps).length:Int)))] (fmz ⟨.head _,fmz ⟨mz1,fmz ⟨mz2,fmz ⟨mz3,fmz ⟨mz4,fmz ⟨mz5,fmz ⟨mz6,fmz ⟨mz7,fmz ⟨mz8,fnz⟩⟩⟩⟩⟩⟩⟩⟩⟩)) rfl
  exact ⟨(p.1+1,v'),(by show ps.length - (p.1+1)<ps.length - p.1;omega),⟨hk,tS hI'.1 hbw.size,by rw [zMU hk];exact hI'.2.below hbw⟩,s.keepK _ (fmz ⟨mz7,fmz ⟨mz8,fmz ⟨mz2,fmz ⟨.head _,fnz⟩⟩⟩⟩)⟩
 ·have hk:p.1=ps.length:=by have h7:=zUW e;have h8:=hI.1;simp at h7;omega
  refine wpIn_exit ?_
  refine tN ?_
  refine yJ 1 ((22, .u (UF.eq (p.2))):: []) s kH
   (oc zC<|zE) fun a w7 s=> ?_
  replace s:=s.drop [2]
  refine qN (UF.eq (p.2)) rfl s kH iiz fun a w s=> ?_
  refine zA rfl ?_
  refine tO ?_
  exact StS.resN s s0.below rfl (by rw [s.val (.head _)];have:=(hI.2.2.below s.below).mono hb0;rw [hk,List.take_length] at this;exact this)
section
variable {F:Fence} {m:Nat} {P:Wn} {w0:Wi} {ops:Array Oper} {G:Nat->SF} {d:Tmp} {ty:Wk} {pos:String} {aft:Array Edge}
end
section
variable {f g f' g':UF} {m:Nat} {q:Rat}
end
section
variable {S:Nat->Prop} {w0:Wi} {K:List (Nat×KF)} {B:List Bx} {n:Nat} {ds:List Deferred} {a:Act} {w:Wi}
theorem StS.move (h:StS S w0 K B n [] a w) (S':Nat->Prop) (hS: ∀q,inB B q->S' q) (hu:(K.all fun q=>zHG q.2)=true):StS S' w K B n [] a w:=by
 have hu:=yN hu
 refine ⟨BlS.refl _ _,h.size,h.nd,fun q hq=> ?_,wO (a:=a) B (fun x hx=> ?_) (fun _ _=>rfl) h.bx,⟨[],Marks.nil _ _⟩, .inl hu⟩
 ·obtain ⟨f,e⟩:=hu q hq
  have:=h.sl q hq
  rw [e] at this ⊢
  exact this
 ·cases hr:x.r with
  |true=>exact .inl rfl
  |false=>exact .inr (.inr (hS _ ⟨x,hx,rfl,hr⟩))
end
section
variable {F:Fence} {m:Nat} {P:Wn} {w0:Wi} {ops:Array Oper} {G:Nat->SF} {d:Tmp} {ty:Wk} {pos:String} {aft:Array Edge}
theorem zQ6 {x hi:Wm} {t:Wk} {A:Wl Addr} {n c k z:Nat} (hsz:zAw P t=some z) (hk:k<=c) (hx: ∀v W,(fct G x).p v W->v= .slice A n c) (hh: ∀v W,(fct G hi).p v W->v= .int .i64 (k:Int)) (hd: ∀W,(G d).p (.slice A k c) W:=by exact fun _=>rfl):qK F m P w0 ops G ⟨some d, .slice t x none (some hi) none,ty,pos,aft,none⟩:=
 qO (fun _ e=>by cases e) (fun _ e=>by cases e) fun b W hb hp=>by
  have e:=hx _ _ (hp x (by simp [Op.operands]))
  have e2:=hh _ _ (hp hi (by simp [Op.operands]))
  unfold zAw at hsz
  split at hsz<;>try cases hsz
  rename_i e' hu
  obtain ⟨ie,hie,_⟩:=zUH.1 hsz
  exact ⟨.slice A k c,by simp [execOp,e,e2,zKb hu hie A n c k hk],hd _⟩
end
section
variable {S:Nat->Prop} {F:Fence} {m:Nat} {P:Wn} {Q:Exit->Act->Wi->Prop} {w0:Wi} {K:List (Nat×KF)} {B:List Bx} {n:Nat} {ds:List Deferred} {a:Act} {w:Wi}
end
section
variable {S:Nat->Prop} {w0:Wi} {K:List (Nat×KF)} {B:List Bx} {n:Nat} {a:Act} {w:Wi} {P:Wn} {Q:Exit->Act->Wi->Prop}
end
theorem zEX {N:Nat} {C O:Nat->Prop} {w0 w w1:Wi} (hb:Below w0.heap.size w0 w) (hr:RndO N C O w w1) (hN:w0.heap.size<=N) (hC: ∀k,C k->w0.heap.size<=k):Below w0.heap.size w0 w1:=
 ⟨hr.os.trans hb.os,hr.tape.trans hb.tape,hr.output.trans hb.output,tS hb.size hr.size,fun k hk=>(hr.low k (tU hk hN) (fun h=>by have:=hC k h;omega)).trans (hb.block k hk)⟩
theorem zRq (f:Wm->Wj) (x:Wm):(Array.map f #[x]).getD 0 undef=f x:=by simp [zU9]
section
variable {S:Nat->Prop} {w0:Wi} {K:List (Nat×KF)} {B:List Bx} {n:Nat} {ds:List Deferred} {a:Act} {w:Wi}
theorem StS.wider (h:StS S w0 K B n [] a w) (S2:Nat->Prop) (hS: ∀q,S q->S2 q) (hu:(K.all fun q=>zHG q.2)=true):StS S2 w0 K B n [] a w:=by
 have hu:=yN hu
 refine ⟨h.gr.sub hS,h.size,h.nd,fun q hq=> ?_,wO (a:=a) B (fun x hx=> ?_) (fun _ _=>rfl) h.bx,⟨[],Marks.nil _ _⟩, .inl hu⟩
 ·obtain ⟨f,e⟩:=hu q hq
  have:=h.sl q hq
  rw [e] at this ⊢
  exact this
 ·obtain ⟨cs,_,h2,_⟩:=h.bx.mem x hx
  rcases h2 with e|e|e
  ·exact .inl e
  ·exact .inr (.inl e)
  ·exact .inr (.inr (hS _ e))
theorem wM {S':Nat->Prop} {w1:Wi} {K0:List (Nat×KF)} {B0:List Bx} {n0:Nat} {ds0:List Deferred} {a0:Act} (h0:StS S w0 K0 B0 n0 ds0 a0 w1) (h:StS S' w1 K B n [] a w) (hS: ∀q,S' q->S q∨w0.heap.size<=q) (hu:(K.all fun q=>zHG q.2)=true):StS S w0 K B n [] a w:=by
 have hu:=yN hu
 refine ⟨⟨h.gr.os.trans h0.gr.os,h.gr.tape.trans h0.gr.tape,h.gr.output.trans h0.gr.output,tS h0.gr.size h.gr.size,fun k hk hn=>(h.gr.block k (tU hk h0.gr.size) fun hh=>by
  rcases hS k hh with e|e
  ·exact hn e
  ·omega).trans (h0.gr.block k hk hn)⟩,h.size,h.nd,fun q hq=> ?_,wO (a:=a) B (fun x hx=> ?_) (fun _ _=>rfl) h.bx,⟨[],Marks.nil _ _⟩, .inl hu⟩
 ·obtain ⟨f,e⟩:=hu q hq
  have:=h.sl q hq
  rw [e] at this ⊢
  exact this
 ·obtain ⟨cs,_,h2,_⟩:=h.bx.mem x hx
  rcases h2 with e|e|e
  ·exact .inl e
  ·exact .inr (.inl (tS h0.gr.size e))
  ·rcases hS _ e with e|e
   ·exact .inr (.inr e)
   ·exact .inr (.inl e)
end
theorem zDd {N:Nat} {w w':Wi} (h:Oth N w w'):zCB w w':=⟨by rw [h.size];exact tT _,fun q o ho hc=>by
 rcases h.block q with e|⟨_,⟨o2,h2,h3⟩,_⟩
 ·exact e.trans ho
 ·rw [ho] at h2
  cases h2
  rw [hc] at h3
  cases h3⟩
theorem zB2 {w:Wi} {base z:Nat} {e:Wk} {v:Wj} {Cs:List CU} (h:zAs w base e z v Cs): ∃A n c,v= .slice A n c:=by
 rcases h with ⟨rfl,_⟩|⟨g,cap,cur,rfl,_⟩<;>exact ⟨_,_,_,rfl⟩
theorem zCs {w:Wi} {base z:Nat} {e:Wk} {v:Wj} {Cs:List CU} (h:zAs w base e z v Cs) {q:Nat} (hq:v.ownBlock=some q):q<w.heap.size/\ ∃(cs:Array Wj) (t:Wk) (y:Nat×Nat),w.heap[q]?=some (.cells cs t y)/\cs.toList.all zV=true:=by
 refine ⟨(h.lt q hq).2, ?_⟩
 rcases h with ⟨rfl,_⟩|⟨g,cap,cur,rfl,h2,h3,h4,h5,h6,h7,h8⟩
 ·simp [Value.ownBlock] at hq
 ·simp [Value.ownBlock] at hq
  subst hq
  exact ⟨cur,_,_,h3,h7⟩
theorem zEK {A:Wl Addr} {n c:Nat} {C:CU} (hC: ∀cs W,C.p cs W->cs.length=1) (v:Wj) (W:Wi) (h:(UF.eq (.slice A n c)).p v W):v.cells.size=1/\(∀u,u∈v.cells.toList->u.oneCell'=true)/\v.cells.toList.all zV=true/\ ∀cs,C.p cs W->0+1<=cs.length/\(wB [.slice A n c]).p (qW cs 0 v.cells.toList) W:=by
 obtain rfl:v=_:=h
 refine ⟨rfl,fun u hu=>by simp [Value.cells] at hu;rw [hu];rfl,rfl,fun cs hc=> ?_⟩
 obtain ⟨c,rfl⟩:=List.length_eq_one_iff.1 (hC cs W hc)
 exact ⟨by simp,rfl⟩
section
variable {F:Fence} {m:Nat} {P:Wn} {w0:Wi} {ops:Array Oper} {G:Nat->SF} {d:Tmp} {ty:Wk} {pos:String} {aft:Array Edge}
theorem zBA {x:Wm} {t:Wk} {v:Wj} {f:SF} (hk:zCL P t=true) (hx: ∀u W,(fct G x).p u W->(wC (wB [v]).cf).p u W) (hf:f.p v w0) (hd: ∀u W,f.p u W->(G d).p u W:=by exact fun _ _ h=>h):qK F m P w0 ops G ⟨some d, .load t x,ty,pos,aft,none⟩:=
 qO (fun _ e=>by cases e) (fun _ e=>by cases e) fun b W hb hh=>by
  obtain ⟨a,q,cs,e,h2,h3⟩:=hx _ _ (hh x (by simp [Op.operands]))
  obtain rfl:cs= [v]:=h2
  exact ⟨_,by simp [execOp,Instr.loadAt,e,Instr.sureAddr,zAU hk h3 (u:=v) rfl],hd _ _ (f.st _ _ _ hf hb)⟩
end
section
variable {S:Nat->Prop} {F:Fence} {m:Nat} {P:Wn} {Q:Exit->Act->Wi->Prop} {w0:Wi} {K:List (Nat×KF)} {B:List Bx} {n:Nat} {ds:List Deferred} {a:Act} {w:Wi}
theorem zFt {ops:Array Oper} {k d:Nat} {e:Wk} {ty:Wk} {pos:String} {aft:Array Edge} (C:CU) {cs:List Wj} (hz:zeroCells P e=some cs) (ho:ops[k]?=some ⟨some d, .alloc e,ty,pos,aft,none⟩) (h:StS S w0 K B n ds a w) (hf:zAc K B n d=true) (hx: ∀W,C.p cs W) (hn:cs.all zV=true)
  (fin: ∀b a w',w.heap.size<=b->StS S w0 K (⟨d,e,C,b,false⟩::B) n ds a w'->zA8 F m P ops Q (k+1) a w'):zA8 F m P ops Q k a w:=by
 have hrun:(Instr.alloc e true (.tuple #[])).run P w= .ok (pO w.heap.size 0) (w.alloc (.cells cs.toArray e (0,0))):=by
  unfold zeroCells at hz
  cases hi:P.info? e with
  |none=>rw [hi] at hz;cases hz
  | some i=>
   rw [hi] at hz
   simp only [Option.bind_some] at hz
   cases hzz:i.zero with
   |none=>rw [hzz] at hz;cases hz
   |some z=>
    rw [hzz] at hz
    simp only [Option.map_some,Option.some.injEq] at hz
    subst hz
    simp [Instr.alloc,zeroValue,typeInfo,hi,hzz,newVar,newRow]
 exact j5 ho rfl (zBM (fun _ e=>by cases e) (fun _ e=>by cases e) (W':=w.alloc (.cells cs.toArray e (0,0))) (v:= pO w.heap.size 0) (by simp [execOp,hrun]) (fin _ _ _ lr (h.lay hf (hx _) hn)))
end
end Go.Proofs.Wd

namespace Go.Proofs.Wd
open Tryz
set_option maxRecDepth 100000
set_option maxHeartbeats 1000000
open Go.RowKit Lb
def zCR (w:Wi) (g:Nat) (e:Wk) (z cap:Nat) (Cs:List CU):Prop:=
 ∃cur:Array Wj,w.heap[g]?=some (.cells cur e (0,0))/\Cs.length<=cap/\cap<=maxLen/\cur.size=cap*z/\cur.toList.all zV=true/\ ∀(i:Nat) (C:CU),Cs[i]?=some C->C.p ((cur.toList.drop (i*z)).take z) w
theorem zCR.toN {w:Wi} {g:Nat} {e:Wk} {z cap:Nat} {Cs:List CU} (h:zCR w g e z cap Cs) {base:Nat} (hb:base<=g) {n:Nat} (hn:n=Cs.length):zAs w base e z (.slice (some ⟨g,0,none⟩) n cap) Cs:=by
 subst hn
 obtain ⟨cur,h1,h2,h3,h4,h5,h6⟩:=h
 exact .inr ⟨g,cap,cur,rfl,hb,h1,h2,h3,h4,h5,h6⟩
theorem zCR.take {w:Wi} {g:Nat} {e:Wk} {z cap:Nat} {Cs:List CU} (h:zCR w g e z cap Cs) (i:Nat):zCR w g e z cap (Cs.take i):=by
 obtain ⟨cur,h1,h2,h3,h4,h5,h6⟩:=h
 refine ⟨cur,h1,by rw [zUr];omega,h3,h4,h5,fun j C hj=> ?_⟩
 rw [zUJ] at hj
 split at hj
 ·exact h6 j C hj
 ·cases hj
theorem zQM {w:Wi} {base:Nat} {e:Wk} {z:Nat} {v:Wj} {Cs:List CU} (h:zAs w base e z v Cs) (h0:0<Cs.length): ∃g cap,v= .slice (some ⟨g,0,none⟩) Cs.length cap/\base<=g/\zCR w g e z cap Cs:=by
 rcases h with ⟨_,rfl⟩|⟨g,cap,cur,rfl,hb,h1,h2,h3,h4,h5,h6⟩
 ·simp at h0
 ·exact ⟨g,cap,rfl,hb,cur,h1,h2,h3,h4,h5,h6⟩
theorem zCR.keepU {w w':Wi} {g:Nat} {e:Wk} {z cap:Nat} {Cs:List CU} (h:zCR w g e z cap Cs) (hg:w.grownBy w' (some g)):yO w w':=zAs.keepU (h.toN lr rfl) hg
theorem zMy {P:Wn} {w:Wi} {t ty e:Wk} {z g cap:Nat} {v2:Wj} {Cs Ds:List CU} (happ:zDH P t=some (e,z,true)) (hr:zCR w g e z cap Cs) (h2:(SF.row z Ds).p v2 w) (hD: ∀C,C∈Ds->CU.ok z C) (hroom:Cs.length+Ds.length<=cap):
  ∃w',(Builtin.append_ #[t,t] ty #[.slice (some ⟨g,0,none⟩) Cs.length cap,v2]).run P w= .ok (.slice (some ⟨g,0,none⟩) (Cs.length+Ds.length) cap) w'/\zCR w' g e z cap (Cs++Ds)/\w.grownBy w' (some g):=by
 obtain ⟨ht,i,zv,hi,hz,hs,hby0,hzs,hzn,hz0⟩:=zBF happ
 obtain ⟨cur,g3,g4,g5,g6,g7,g8⟩:=id hr
 obtain ⟨A,c,rfl,hlc,hcm,hAn,hel⟩:=h2
 cases A with
 | none=>
  have hD0:Ds= []:=by
   cases Ds with
   |nil=>rfl
   |cons D Ds=>obtain ⟨b,o,cs,e1,_⟩:=hel 0 D rfl;cases e1
  subst hD0
  have hc:=hAn rfl
  subst hc
  refine ⟨w, ?_,by simpa using hr,⟨rfl,rfl,rfl,tT _,fun _ _ _=>rfl⟩⟩
  simp [Builtin.append_,zUd ht,sizeOf,typeInfo,hi,Builtin.lenOf,Builtin.firstCells,g4,storeCells]
 | some ad=>
  obtain ⟨news,n1,n2,n3,n4,n5⟩: ∃news:List Wj,news.length=Ds.length*z/\(∀j u,news[j]?=some u->w.cell? (ad.add j)=some u)/\(∀u,u∈news->u.oneCell'=true)/\news.all zV=true/\ ∀(i:Nat) (C:CU),Ds[i]?=some C->C.p ((news.drop (i*z)).take z) w:=by
   cases Ds with
   |nil=>exact ⟨[],by simp,by simp,by simp,rfl,by simp⟩
   | cons D Ds=>
    obtain ⟨b,o,cs,e1,_⟩:=hel 0 D rfl
    cases e1
    obtain ⟨news,k1,k2,k3⟩:=zC0 (W:=w) (b:=b) (z:=z) (D::Ds) o hD fun i C hiC=>by
     obtain ⟨b',o',cs',e',m1,m2⟩:=hel i C hiC
     cases e'
     exact ⟨cs',m1,m2⟩
    exact ⟨news,k1,fun j u hj=>by rw [zUE];exact k2 j u hj,k3⟩
  have hfit:Cs.length*i.size+news.length<=cur.size:=by rw [n1,g6,hs, <-zUI];exact zUt _ hroom
  have hr':=run_append_room (P:=P) w t ty e i ht hi g Cs.length cap cur g3 ad Ds.length c news (by rw [hs];exact n1) n2 n3 hroom hfit
  rw [hs] at hr' hfit
  have hgr:w.grownBy (w.setRow g (cur.toList.take (Cs.length*z)++news++cur.toList.drop (Cs.length*z+news.length)).toArray) (some g):=zBk w g _
  have hk:yO w (w.setRow g (cur.toList.take (Cs.length*z)++news++cur.toList.drop (Cs.length*z+news.length)).toArray):=hr.keepU hgr
  have hcl:cur.toList.length=cap*z:=g6
  have hle:Cs.length*z<=cur.toList.length:=by rw [hcl];exact zUt _ g4
  have htl:(cur.toList.take (Cs.length*z)).length=Cs.length*z:=by rw [zUr,Nat.min_eq_left hle]
  have hsub: ∀u,u∈cur.toList->zV u=true:=zUf.1 g7
  refine ⟨_,hr',⟨_,setRow_heap w g cur _ e _ g3,by rw [zU2];exact hroom,g5, ?_, ?_, ?_⟩,hgr⟩
  ·simp only [zUs,zU2,zUr,zUx,Array.length_toList]
   rw [<-g6]
   omega
  ·exact zCO (zUf.2 fun u hu=>hsub u (List.mem_of_mem_take hu)) n4 (zUf.2 fun u hu=>hsub u (zU3 hu))
  ·refine zCu htl n1 (fun j C hj=> ?_) n5 hk
   have hlt:j<Cs.length:=(tQ.1 hj).1
   have h1:=g8 j C hj
   rw [<-List.take_append_drop (Cs.length*z) cur.toList,zBX htl hlt] at h1
   exact h1
theorem zFi {zc:Array Wj} (h: ∀u,u∈zc.toList->u.oneCell'=true) (n:Nat): ∀u,u∈(Builtin.zeroCells zc n).toList->u.oneCell'=true:=by
 intro u hu
 simp only [Builtin.zeroCells,Array.toList_map,zUw,Array.toList_range,List.mem_range] at hu
 obtain ⟨i,hi,rfl⟩:=hu
 have h0:0<zc.size:=by
  rcases zUa zc.size with h|h
  ·rw [h] at hi;omega
  ·exact h
 have hlt:i % zc.size<zc.size:=zUy _ h0
 rw [getElem!_pos zc _ hlt]
 exact h _ (Array.getElem_mem_toList hlt)
theorem zMx {P:Wn} {w:Wi} {t ty e:Wk} {z g cap o n c:Nat} {Cs:List CU} {zs:List Wj} (happ:zDH P t=some (e,z,true)) (hzs:zeroCells P e=some zs) (hone: ∀u,u∈zs->u.oneCell'=true) (hr:zCR w g e z cap Cs) (ho:Cs.length<=o) (hn0:0<n) (hn:o+n<=cap):
  ∃w',(Builtin.clear_ #[t] ty #[.slice (some ⟨g,o*z,none⟩) n c]).run P w= .ok (.tuple #[]) w'/\zCR w' g e z cap Cs/\w.grownBy w' (some g):=by
 obtain ⟨ht,i,zv,hi,hz,hs,hby0,hzvs,hzn,hz0⟩:=zBF happ
 obtain ⟨cur,g3,g4,g5,g6,g7,g8⟩:=id hr
 have ez:zs=zv.cells.toList:=by
  unfold zeroCells at hzs
  rw [hi] at hzs
  simp only [Option.bind_some,hz,Option.map_some,Option.some.injEq] at hzs
  exact hzs.symm
 subst ez
 have hln:(Builtin.zeroCells zv.cells n).toList.length=n*z:=by rw [Array.length_toList,size_zeroCells,hzvs]
 have hcl:cur.toList.length=cap*z:=g6
 have hmul:o*z+n*z<=cap*z:=by rw [<-zUI];exact zUt _ hn
 have hst:=jW (P:=P) (b:=g) (t:=e) (Builtin.zeroCells zv.cells n).toList (o*z) cur.toList w (by simpa using g3) (by rw [hln,hcl];exact hmul) (zFi hone n)
 have hoff:=zAX (b:=g) (Builtin.zeroCells zv.cells n).toList (o*z) 0
 rw [Nat.add_zero] at hoff
 obtain ⟨n',rfl⟩: ∃n',n=n'+1:=⟨n - 1,by omega⟩
 have hgr:w.grownBy (w.setRow g (qW cur.toList (o*z) (Builtin.zeroCells zv.cells (n'+1)).toList).toArray) (some g):=zBk w g _
 refine ⟨w.setRow g (qW cur.toList (o*z) (Builtin.zeroCells zv.cells (n'+1)).toList).toArray, ?_,⟨_,setRow_heap w g cur _ e _ g3,g4,g5, ?_, ?_,fun j C hj=> ?_⟩,hgr⟩
 ·have hzv:(zeroValue e).run P w= .ok zv w:=by simp [zeroValue,typeInfo,hi,hz]
  simp only [Builtin.clear_,zUu,zUv,zUG]
  simp [zUd ht,hzv,hoff,hst,Result.andThen]
 ·unfold qW
  simp only [zUs,zU2,zUr,zUx]
  rw [hln,hcl]
  omega
 ·unfold qW
  have hsub: ∀u,u∈cur.toList->zV u=true:=zUf.1 g7
  exact zCO (zUf.2 fun u hu=>hsub u (List.mem_of_mem_take hu)) (zA3 hzn _) (zUf.2 fun u hu=>hsub u (zU3 hu))
 ·have hlt:j<Cs.length:=(tQ.1 hj).1
  have h1:=g8 j C hj
  have hjz:j*z+z<=o*z:=by
   have:=zUt z (show j+1<=o by omega)
   rw [zUI,Nat.one_mul] at this
   exact this
  have hto:(cur.toList.take (o*z)).length=o*z:=by rw [zUr,hcl];omega
  have e1:((qW cur.toList (o*z) (Builtin.zeroCells zv.cells (n'+1)).toList).drop (j*z)).take z=(cur.toList.drop (j*z)).take z:=by
   refine List.ext_getElem? fun q=> ?_
   unfold qW
   rw [zUJ,zUJ]
   split
   ·rename_i hq
    rw [zU1,zU1,zUe,zVa (by rw [hto];omega),zUJ,if_pos oO]
   ·rfl
  show C.p (((qW cur.toList (o*z) (Builtin.zeroCells zv.cells (n'+1)).toList).toArray.toList.drop (j*z)).take z) _
  rw [zUY,e1]
  exact C.us _ _ _ h1 (hr.keepU hgr)
section
variable {S:Nat->Prop} {F:Fence} {m:Nat} {P:Wn} {Q:Exit->Act->Wi->Prop} {w0:Wi} {K:List (Nat×KF)} {B:List Bx} {n:Nat} {ds:List Deferred} {a:Act} {w:Wi} {ops:Array Oper}
theorem StS.turnR (h:StS S w0 K [] n [] a w) {g:Nat} {w':Wi} (hS:S g) (hg:w.grownBy w' (some g)) (hk:yO w w') (hu:(K.all fun q=>zHG q.2)=true):StS S w0 K [] n [] a w':=
 ⟨h.gr.grown hg (.inr hS),h.size,h.nd,fun q hq=>by
  obtain ⟨f,ef⟩:=yN hu q hq
  have h1:=h.sl q hq
  rw [ef] at h1 ⊢
  exact f.us _ _ _ h1 hk,trivial,⟨[],Marks.nil _ _⟩, .inl (yN hu)⟩
theorem zQC {k d:Nat} {x y:Wm} {t ty:Wk} {pos:String} {aft:Array Edge} {e:Wk} {z g cap:Nat} {Cs Ds:List CU} (h:StS S w0 K [] n [] a w) (hS:S g) (hr:zCR w g e z cap Cs)
  (ho:ops[k]?=some ⟨some d, .call ⟨.builtin .append,#[x,y],#[t,t]⟩,ty,pos,aft,none⟩) (happ:zDH P t=some (e,z,true)) (hf:zAc K [] n d=true) (hu:(K.all fun q=>zHG q.2)=true)
  (hx:a.eval x= .slice (some ⟨g,0,none⟩) Cs.length cap) (hy:(SF.row z Ds).p (a.eval y) w) (hD: ∀C,C∈Ds->CU.ok z C) (hroom:Cs.length+Ds.length<=cap)
  (fin: ∀a' w',w.heap.size<=w'.heap.size->w.grownBy w' (some g)->zCR w' g e z cap (Cs++Ds)->StS S w0 ((d, .u (UF.eq (.slice (some ⟨g,0,none⟩) (Cs.length+Ds.length) cap)))::K) [] n [] a' w'->zA8 F m P ops Q (k+1) a' w'):zA8 F m P ops Q k a w:=by
 obtain ⟨w',hrun,g1,g2⟩:=zMy (P:=P) (ty:=ty) happ hr hy hD hroom
 have hrun2:(execOp a.eval ⟨some d, .call ⟨.builtin .append,#[x,y],#[t,t]⟩,ty,pos,aft,none⟩).run P w= .ok (.value (.slice (some ⟨g,0,none⟩) (Cs.length+Ds.length) cap)) w':=by
  simp only [execOp,resolve,invoke,builtin,zUu,zUv,zUG,zUZ,zU0,List.map_nil,hx,hrun]
 refine j5 ho rfl ⟨fun f hf=>(by
  unfold Oper.about at hf
  simp [resolve,go_sem] at hf), ?_⟩
 rw [Oper.semAt_eq _ _ _ (fun _ e=>by cases e),hrun2]
 exact fin _ w' g2.size g2 g1 ((h.turnR hS g2 (hr.keepU g2) hu).set hf (tR _ _) rfl)
theorem zQB {k:Nat} {x:Wm} {t ty:Wk} {pos:String} {aft:Array Edge} {e:Wk} {z g cap o n' c:Nat} {Cs:List CU} {zs:List Wj} (h:StS S w0 K [] n [] a w) (hS:S g) (hr:zCR w g e z cap Cs)
  (ho:ops[k]?=some ⟨none, .call ⟨.builtin .clear,#[x],#[t]⟩,ty,pos,aft,none⟩) (happ:zDH P t=some (e,z,true)) (hzs:zeroCells P e=some zs) (hone: ∀u,u∈zs->u.oneCell'=true) (hu:(K.all fun q=>zHG q.2)=true)
  (hx:a.eval x= .slice (some ⟨g,o*z,none⟩) n' c) (hoc:Cs.length<=o) (hn0:0<n') (hn:o+n'<=cap)
  (fin: ∀w',w.grownBy w' (some g)->zCR w' g e z cap Cs->StS S w0 K [] n [] a w'->zA8 F m P ops Q (k+1) a w'):zA8 F m P ops Q k a w:=by
 obtain ⟨w',hrun,g1,g2⟩:=zMx (P:=P) (ty:=ty) (c:=c) happ hzs hone hr hoc hn0 hn
 have hrun2:(execOp a.eval ⟨none, .call ⟨.builtin .clear,#[x],#[t]⟩,ty,pos,aft,none⟩).run P w= .ok (.value (.tuple #[])) w':=by
  simp only [execOp,resolve,invoke,builtin,zUu,zUv,zUG,zUZ,zU0,List.map_nil,hx,hrun]
 refine j5 ho rfl ⟨fun f hf=>(by
  unfold Oper.about at hf
  simp [resolve,go_sem] at hf), ?_⟩
 rw [Oper.semAt_eq _ _ _ (fun _ e=>by cases e),hrun2]
 exact fin w' g2 g1 (h.turnR hS g2 (hr.keepU g2) hu)
end
section
variable {F:Fence} {m:Nat} {P:Wn} {w0:Wi} {ops:Array Oper} {G:Nat->SF} {d:Tmp} {ty:Wk} {pos:String} {aft:Array Edge}
theorem zMv {t e':Wk} {ie:TypeInfo} (hu:P.underlying t=some (.slice e')) (hie:P.info? e'=some ie) (A:Wl Addr) (n c lo hi mx:Nat) (h1:lo<=hi) (h2:hi<=mx) (h3:mx<=c) (w:Wi): ∃v,(Instr.sliceAt t (.slice A n c) (some (.int .i64 (lo:Int))) (some (.int .i64 (hi:Int))) (some (.int .i64 (mx:Int)))).run P w= .ok v w:=by
 exact ⟨_,by simp [Instr.sliceAt,Instr.slice,Instr.sliceBounds,zUd hu,sizeOf,typeInfo,hie,go_sem,h1,h2,h3];rfl⟩
theorem zPt {x lo hi mx:Wm} {t:Wk} {z:Nat} {A:Wl Addr} {n c i j k:Nat} (hz:zAw P t=some z) (h1:i<=j) (h2:j<=k) (h3:k<=c) (hx: ∀v W,(fct G x).p v W->v= .slice A n c) (hl: ∀v W,(fct G lo).p v W->v= .int .i64 (i:Int)) (hh: ∀v W,(fct G hi).p v W->v= .int .i64 (j:Int)) (hm: ∀v W,(fct G mx).p v W->v= .int .i64 (k:Int)) (hd: ∀v W,(G d).p v W:=by exact fun _ _=>trivial):qK F m P w0 ops G ⟨some d, .slice t x (some lo) (some hi) (some mx),ty,pos,aft,none⟩:=
 qO (fun _ e=>by cases e) (fun _ e=>by cases e) fun b W hb hp=>by
  have e1:=hx _ _ (hp x (by simp [Op.operands]))
  have e2:=hl _ _ (hp lo (by simp [Op.operands]))
  have e3:=hh _ _ (hp hi (by simp [Op.operands]))
  have e4:=hm _ _ (hp mx (by simp [Op.operands]))
  unfold zAw at hz
  split at hz<;>try cases hz
  rename_i e' hu
  obtain ⟨ie,hie,hsz⟩:=zUH.1 hz
  obtain ⟨v,hv⟩:=zMv (P:=P) hu hie A n c i j k h1 h2 h3 W
  exact ⟨v,by simp [execOp,e1,e2,e3,e4,hv],hd _ _⟩
theorem zI3 {t e':Wk} {ie:TypeInfo} {z:Nat} (hu:P.underlying t=some (.slice e')) (hie:P.info? e'=some ie) (hsz:ie.size=z) (g n c k h:Nat) (hk:k<=h) (hh:h<=c) (hkc:c≠k) (w:Wi):(Instr.sliceAt t (.slice (some ⟨g,0,none⟩) n c) (some (.int .i64 (k:Int))) (some (.int .i64 (h:Int))) none).run P w= .ok (.slice (some ⟨g,k*z,none⟩) (h - k) (c - k)) w:=by
 simp [Instr.sliceAt,Instr.slice,Instr.sliceBounds,zUd hu,sizeOf,typeInfo,hie,hsz,go_sem,hk,hh,hkc,zUE]
theorem zKP {x lo hi:Wm} {t:Wk} {z g n c k h:Nat} (hz:zAw P t=some z) (hk:k<=h) (hh:h<=c) (hkc:c≠k) (hx: ∀v W,(fct G x).p v W->v= .slice (some ⟨g,0,none⟩) n c) (hl: ∀v W,(fct G lo).p v W->v= .int .i64 (k:Int)) (hi': ∀v W,(fct G hi).p v W->v= .int .i64 (h:Int)) (hd: ∀W,(G d).p (.slice (some ⟨g,k*z,none⟩) (h - k) (c - k)) W:=by exact fun _=>rfl):qK F m P w0 ops G ⟨some d, .slice t x (some lo) (some hi) none,ty,pos,aft,none⟩:=
 qO (fun _ e=>by cases e) (fun _ e=>by cases e) fun b W hb hp=>by
  have e1:=hx _ _ (hp x (by simp [Op.operands]))
  have e2:=hl _ _ (hp lo (by simp [Op.operands]))
  have e3:=hi' _ _ (hp hi (by simp [Op.operands]))
  unfold zAw at hz
  split at hz<;>try cases hz
  rename_i e' hu
  obtain ⟨ie,hie,hsz⟩:=zUH.1 hz
  exact ⟨_,by simp [execOp,e1,e2,e3,zI3 (P:=P) hu hie hsz g n c k h hk hh hkc W],hd _⟩
end
theorem StS.anew {S S':Nat->Prop} {w0:Wi} {K:List (Nat×KF)} {n:Nat} {a:Act} {w:Wi} (h:StS S w0 K [] n [] a w) (hu:(K.all fun q=>zHG q.2)=true):StS S' w K [] n [] a w:=
 ⟨BlS.refl _ _,h.size,h.nd,fun q hq=>by
  obtain ⟨f,ef⟩:=yN hu q hq
  have h1:=h.sl q hq
  rw [ef] at h1 ⊢
  exact h1,trivial,⟨[],Marks.nil _ _⟩, .inl (yN hu)⟩
theorem zDg {w w':Wi} (h:Below w.heap.size w w') (g:Wl Nat):w.grownBy w' g:=⟨h.os,h.tape,h.output,h.size,fun k hk _=>h.block k hk⟩
theorem zCx {a b c:Wi} {g:Wl Nat} (h:a.grownBy b g) (k:b.grownBy c g):a.grownBy c g:=⟨k.os.trans h.os,k.tape.trans h.tape,k.output.trans h.output,tS h.size k.size,fun q hq hn=>(k.block q (tU hq h.size) hn).trans (h.block q hq hn)⟩
theorem zCR.below {w w':Wi} {g:Nat} {e:Wk} {z cap:Nat} {Cs:List CU} (h:zCR w g e z cap Cs) (hb:Below w.heap.size w w'):zCR w' g e z cap Cs:=by
 obtain ⟨cur,h1,h2,h3,h4,h5,h6⟩:=h
 exact ⟨cur,(hb.block g (zU7.1 h1).1).trans h1,h2,h3,h4,h5,fun i C hi=>C.us _ _ _ (h6 i C hi) (zL hb)⟩
theorem zLu {α:Type} (l:List α) (i:Nat):l.take i++l.drop (i+1)=l.eraseIdx i:=(List.eraseIdx_eq_take_drop_succ l i).symm
theorem zNW {W:Wi} {g cap i:Nat} {v u x:Wj} {Cs:List CU} (hr:zCR W g 30 6 cap Cs) (hC: ∀C,C∈Cs->CU.ok 6 C) (hi:i<Cs.length) (hn:Cs.length<=1000000) (hv:v= .slice (some ⟨g,0,none⟩) Cs.length cap) (hu:u= .int .i64 (i:Int)) (hx:x= .int .i64 ((i+1:Nat):Int)):
  Calls prog 37 #[v,u,x] W fun e W'=>e= .returned (.slice (some ⟨g,0,none⟩) (Cs.length - 1) cap)/\zCR W' g 30 6 cap (Cs.eraseIdx i)/\W.grownBy W' (some g):=by
 subst hv hu hx
 have hcap:Cs.length<=cap:=by obtain ⟨_,_,h,_⟩:=hr;exact h
 refine zFV func37 rfl ?_
 have s:=zFv (w:=W) (fn:=f37) (args:=#[.slice (some ⟨g,0,none⟩) Cs.length cap, .int .i64 (i:Int), .int .i64 ((i+1:Nat):Int)]) noS [(0,UF.eq (.slice (some ⟨g,0,none⟩) Cs.length cap)),(1,uI (i:Int)),(2,uI ((i+1:Nat):Int))] [] kH (fun q hq=>by
  simp only [zUb,zU4,or_false] at hq
  rcases hq with rfl|rfl|rfl
  ·exact ⟨by simp,rfl⟩
  ·exact ⟨by simp,rfl⟩
  ·exact ⟨by simp,rfl⟩) trivial (fun x hx=>by cases hx)
 generalize ({ tmps:=#[.slice (some ⟨g,0,none⟩) Cs.length cap, .int .i64 (i:Int), .int .i64 ((i+1:Nat):Int)]++Array.replicate (f37.ntmps - (#[.slice (some ⟨g,0,none⟩) Cs.length cap, .int .i64 (i:Int), .int .i64 ((i+1:Nat):Int)]:Array Wj).size) undef,defers:= [] }:Act)=a at s ⊢
 have hle:Cs.length<9223372036854775807:=by omega
 refine tN ?_
 refine zB 1 ((6, .u (UF.eq (.slice none 0 0))):: []) hmix s kH
  (oc zG<|zE) fun a w1 s=> ?_
 refine zA rfl ?_
 refine tN ?_
 refine zB 6 ((8, .s (UF.eq (.slice (some ⟨g,0,none⟩) Cs.length cap)).tS)::(9, .s (uI (i:Int)).tS)::(10, .s (uI ((i+1:Nat):Int)).tS)::(11, .s (UF.eq (.slice (some ⟨g,0,none⟩) Cs.length cap)).tS)::(12, .s (uI (Cs.length:Int)).tS)::(13, .s SF.any):: []) hmix s kH
  (oc zC<|oc zC<|oc zC<|oc zC<|oc (zCa kH (fun v W h=>⟨_,_,_,h,rfl⟩))<|oc (zPt (A:=some ⟨g,0,none⟩) (n:=Cs.length) (c:=cap) (i:=i) (j:=i+1) (k:=Cs.length) (z:=6) kH oO oO hcap iiz iiz iiz iiz)<|zE) fun a w2 s=> ?_
 refine zA rfl ?_
 refine tN ?_
 refine tN ?_
 refine zB 3 ((14, .s (uI (i:Int)).tS)::(15, .s (uI ((i+1:Nat):Int)).tS)::(16, .u (uB false)):: []) hmix s kH
  (oc zC<|oc zC<|oc (z5 .i64 (i:Int) ((i+1:Nat):Int) false iiz iiz (beq_eq_false_iff_ne.2 oO) rfl)<|zE) fun a w3 s=> ?_
 refine zA rfl ?_
 refine StS.cond s false iiz (fun e=>by cases e) (fun e=> ?_)
 refine zBw ?_
 refine tN ?_
 refine zB 3 ((18, .s (UF.eq (.slice (some ⟨g,0,none⟩) Cs.length cap)).tS)::(19, .s (uI (Cs.length:Int)).tS)::(7, .u (uI (Cs.length:Int))):: []) hmix s kH
  (oc zC<|oc (zCa kH (fun v W h=>⟨_,_,_,h,rfl⟩))<|oc zG<|zE) fun a w4 s=> ?_
 refine zA rfl ?_
 refine tN ?_
 have hb4:=s.below
 have hr4:=hr.below hb4
 have hrow4:(SF.row 6 Cs).p (.slice (some ⟨g,0,none⟩) Cs.length cap) w4:=(hr4.toN lr rfl).row
 replace s:=(s.keepK [(0, .u (UF.eq (.slice (some ⟨g,0,none⟩) Cs.length cap))),(1, .u (uI (i:Int))),(2, .u (uI ((i+1:Nat):Int))),(7, .u (uI (Cs.length:Int)))] (fmz ⟨mz3,fmz ⟨mz4,fmz ⟨mz5,fmz ⟨.head _,fnz⟩⟩⟩⟩)).anew (S':=noS) kH
 refine zB5 (K:= [(1, .u (uI (i:Int))),(2, .u (uI ((i+1:Nat):Int))),(7, .u (uI (Cs.length:Int)))]) [(0, .u (UF.eq (.slice (some ⟨g,0,none⟩) Cs.length cap)))] [0,3] 6 ((20, .u (UF.eq (.slice (some ⟨g,0,none⟩) Cs.length cap)))::(21, .s (uI (i:Int)).tS)::(22, .u (UF.eq (.slice (some ⟨g,0,none⟩) i cap)))::(23, .s (UF.eq (.slice (some ⟨g,0,none⟩) Cs.length cap)).tS)::(24, .s (uI ((i+1:Nat):Int)).tS)::(25, .s (SF.row 6 (Cs.drop (i+1)))):: []) hmix (s.keepK _ (fmz ⟨.head _,fmz ⟨mz1,fmz ⟨mz2,fmz ⟨mz3,fnz⟩⟩⟩⟩)) kH
  (oc zC<|oc zC<|oc (zQ6 (A:=some ⟨g,0,none⟩) (n:=Cs.length) (c:=cap) (k:=i) (z:=6) kH oO iiz iiz)<|oc zC<|oc zC<|oc (zJf (z:=6) (k:=i+1) (Cs:=Cs) kH oO (fun v W hb h=>by rw [show v=_ from h];exact (SF.row 6 Cs).st _ _ _ hrow4 (s.up hb)) iiz)<|zE) fun Q' hQ a w5 s hrr=> ?_
 have hb5:=s.below
 have hr5:=hr4.below hb5
 have hi1:(Cs.take i).length=i:=by rw [zUr];omega
 have hi2:(Cs.drop (i+1)).length=Cs.length - (i+1):=zUx
 have e22:a.tmps.getD 22 undef= .slice (some ⟨g,0,none⟩) i cap:=s.val mz1
 refine zQC (S:=fun q=>q=g) (g:=g) (e:=30) (z:=6) (cap:=cap) (Cs:=Cs.take i) (Ds:=Cs.drop (i+1)) ((s.keepK [(1, .u (uI (i:Int))),(2, .u (uI ((i+1:Nat):Int))),(7, .u (uI (Cs.length:Int)))] (fmz ⟨mz2,fmz ⟨mz3,fmz ⟨mz4,fnz⟩⟩⟩)).anew kH) rfl (hr5.take i) rfl kH kH kH (by rw [hi1];exact s.fct (.tmp 22)) (hrr (_,_) mz5) (fun C hC'=>hC C (zU3 hC')) (by rw [hi1,hi2];omega) fun a w6 hsz6 hg6 hr6 s=> ?_
 rw [zLu] at hr6
 rw [hi1,hi2] at s
 replace s:=s.anew (S':=noS) kH
 refine qN (UF.eq (.slice (some ⟨g,0,none⟩) (i+(Cs.length - (i+1))) cap)) rfl s kH iiz fun a w s=> ?_
 refine zA rfl (hQ _ _ ?_)
 refine tN ?_
 have hb6:=s.below
 have hr7:=hr6.below hb6
 have hb56:=(zDg hb5 (some g))
 replace s:=(s.keepK [(0, .u (UF.eq (.slice (some ⟨g,0,none⟩) (i+(Cs.length - (i+1))) cap))),(7, .u (uI (Cs.length:Int)))] (fmz ⟨.head _,fmz ⟨mz4,fnz⟩⟩)).anew (S':=noS) kH
 have hn1:i+(Cs.length - (i+1))=Cs.length - 1:=by omega
 refine zB 5 ((27, .s (UF.eq (.slice (some ⟨g,0,none⟩) (i+(Cs.length - (i+1))) cap)).tS)::(28, .s (UF.eq (.slice (some ⟨g,0,none⟩) (i+(Cs.length - (i+1))) cap)).tS)::(29, .s (uI ((i+(Cs.length - (i+1)):Nat):Int)).tS)::(30, .s (uI (Cs.length:Int)).tS)::(31, .u (UF.eq (.slice (some ⟨g,(i+(Cs.length - (i+1)))*6,none⟩) (Cs.length - (i+(Cs.length - (i+1)))) (cap - (i+(Cs.length - (i+1))))))):: []) hmix s kH
  (oc zC<|oc zC<|oc (zCa kH (fun v W h=>⟨_,_,_,h,rfl⟩))<|oc zC<|oc (zKP (g:=g) (n:=i+(Cs.length - (i+1))) (c:=cap) (k:=i+(Cs.length - (i+1))) (h:=Cs.length) (z:=6) kH oO hcap oO iiz iiz iiz)<|zE) fun a w8 s=> ?_
 have hb8:=s.below
 have hr8:=hr7.below hb8
 have el:(Cs.eraseIdx i).length=Cs.length - 1:=List.length_eraseIdx_of_lt hi
 refine zQB (S:=fun q=>q=g) (g:=g) (e:=30) (z:=6) (cap:=cap) (o:=i+(Cs.length - (i+1))) (n':=Cs.length - (i+(Cs.length - (i+1)))) (c:=cap - (i+(Cs.length - (i+1)))) (Cs:=Cs.eraseIdx i) (zs:= [.bool false, .slice none 0 0, .slice none 0 0, .bool false, .slice none 0 0, .slice none 0 0]) (s.anew kH) rfl hr8 rfl kH kH (fun u hu=>by
  simp only [zUb,zU4,or_false] at hu
  rcases hu with rfl|rfl|rfl|rfl|rfl|rfl<;>rfl) kH (s.fct (.tmp 31)) oO oO oO fun w9 hg9 hr9 s=> ?_
 refine zA rfl ?_
 replace s:=s.anew (S':=noS) kH
 replace s:=s.keepK [(0, .u (UF.eq (.slice (some ⟨g,0,none⟩) (i+(Cs.length - (i+1))) cap)))] (fmz ⟨mz1,fnz⟩)
 refine tN ?_
 refine zB 2 ((32, .s (UF.eq (.slice (some ⟨g,0,none⟩) (i+(Cs.length - (i+1))) cap)).tS)::(6, .u (UF.eq (.slice (some ⟨g,0,none⟩) (i+(Cs.length - (i+1))) cap))):: []) hmix s kH
  (oc zC<|oc zG<|zE) fun a w10 s=> ?_
 refine zA rfl ?_
 refine tO ?_
 have hb10:=s.below
 refine ⟨s.nd,(.slice (some ⟨g,0,none⟩) (i+(Cs.length - (i+1))) cap), ?_, ?_,hr9.below hb10, ?_⟩
 ·have e6:a.tmps.getD 6 undef=(.slice (some ⟨g,0,none⟩) (i+(Cs.length - (i+1))) cap):=s.val (.head _)
  simp [results,results37]
  rw [<-zU9]
  exact e6
 ·rw [hn1]
 ·exact zCx (zDg hb4 _) (zCx hb56 (zCx hg6 (zCx (zDg hb6 _) (zCx (zDg hb8 _) (zCx hg9 (zDg hb10 _))))))
section
variable {f g f' g' f'' g'':UF}
end
section
variable {F:Fence} {m:Nat} {P:Wn} {w0:Wi} {ops:Array Oper} {G:Nat->SF} {d:Tmp} {ty:Wk} {pos:String} {aft:Array Edge}
end
def zCt (ps:List V2):List V2:=(List.range ps.length).map fun i=>at_ ps ((ps.length - i) % ps.length)
theorem zEn (ps:List V2):(zCt ps).length=ps.length:=by simp [zCt]
theorem zOs {ps:List V2} {i:Nat} (hi:i<ps.length):at_ (zCt ps) i=at_ ps ((ps.length - i) % ps.length):=by
 show (zCt ps).getD i (0,0)=_
 unfold zCt
 rw [tV,zUl,List.getElem?_range hi]
 rfl
section
variable {S:Nat->Prop} {w0 w1:Wi} {K K0:List (Nat×KF)} {n n0:Nat} {ds0:List Deferred} {a a0:Act} {w:Wi}
end
end Go.Proofs.Wd

namespace Go.Proofs.Wd
open Tryz
def nx (l:List V2) (k:Nat):Nat:=(k+1) % l.length
theorem zEj {a b p:V2}:(zBy a b p=1)↔0<crs a b p:=by
 unfold zBy
 have h:=@Rat.num_nonneg (crs a b p)
 have h0:=@zUD (crs a b p)
 rw [Int.sign_eq_one_iff_pos]
 constructor
 ·intro k
  have k1:=h.1 oO
  have k2:crs a b p≠0:=fun e=>by have:=h0.2 e;omega
  grind
 ·intro k
  have k1:=h.2 (Rat.le_of_lt k)
  have k2:(crs a b p).num≠0:=fun e=>by have:=h0.1 e;grind
  omega
end Go.Proofs.Wd

namespace Go.Proofs.Wd
open Tryz
def zAP (l:List V2) (i:Nat):V6:=(at_ l ((i+l.length - 1) % l.length),at_ l i,at_ l ((i+1) % l.length))
def zBo (t:V6):Int:=zBy t.1 t.2.1 t.2.2
def zCQ (t:V6) (p:V2):Int:=min (zBy t.2.2 t.1 p) (min (zBy t.2.1 t.2.2 p) (min (zBy t.1 t.2.1 p) 1))
def zBT (l:List V2) (i:Nat):Nat:=(i+l.length - 1) % l.length
def zDP (l:List V2) (i:Nat):Nat:=(i+1) % l.length
def zQm (l:List V2) (i k:Nat):Bool:=decide (k=i)||decide (k=zBT l i)||decide (k=zDP l i)||decide (zCQ (zAP l i) (at_ l k)<0)
def zNt (l:List V2) (i:Nat):Bool:=(zBo (zAP l i)==1)&&(List.range l.length).all (zQm l i)
def zGS (l:List V2):Wl Nat:=(List.range l.length).find? fun i=>zBo (zAP l i)==0
def zP4 (l:List V2):Wl Nat:=(List.range l.length).find? (zNt l)
def zEQ (l:List V2):List V6:=if l.length=3/\zBo (at_ l 0,at_ l 1,at_ l 2)=1 then [(at_ l 0,at_ l 1,at_ l 2)] else []
def zJw:Nat->List V2->Wl (List V6)
 |0,_=>none
 | n+1,l=>if l.length<=3 then some (zEQ l) else
  match zGS l with
  |some i=>zJw n (l.eraseIdx i)
  |none=>match zP4 l with
   |some i=>(zJw n (l.eraseIdx i)).map (zAP l i::·)
   |none=>none
theorem zHn {x:Rat}:x.num.sign<0↔x<0:=by
 have h:=@Rat.num_nonneg x
 have e:x.num.sign<0↔x.num<0:=by
  rcases Int.lt_trichotomy x.num 0 with k|k|k
  ·rw [zUU k];exact ⟨fun _=>k,fun _=>by decide⟩
  ·rw [k];decide
  ·rw [zUV k];exact ⟨fun q=>absurd q dA,fun q=>by omega⟩
 rw [e, <-Int.not_le,h,Rat.not_le]
theorem zEi {a b p:V2}:zBy a b p<0↔crs a b p<0:=zHn
theorem zBb (a b p:V2):zBy a b p= -1∨zBy a b p=0∨zBy a b p=1:=by
 unfold zBy
 rcases Int.sign_trichotomy (crs a b p).num with h|h|h
 ·exact .inr (.inr h)
 ·exact .inr (.inl h)
 ·exact .inl h
theorem zLi {t:V6} {p:V2}:zCQ t p<0↔crs t.1 t.2.1 p<0∨crs t.2.1 t.2.2 p<0∨crs t.2.2 t.1 p<0:=by
 unfold zCQ
 rw [<-zEi, <-zEi, <-zEi]
 omega
theorem zLh {t:V6} {p:V2}:zCQ t p=1↔0<crs t.1 t.2.1 p/\0<crs t.2.1 t.2.2 p/\0<crs t.2.2 t.1 p:=by
 unfold zCQ
 rw [<-zEj, <-zEj, <-zEj]
 have:=zBb t.1 t.2.1 p;have:=zBb t.2.1 t.2.2 p;have:=zBb t.2.2 t.1 p
 omega
theorem zNk {t:V6} {p:V2}:zCQ t p=0↔(0<=crs t.1 t.2.1 p/\0<=crs t.2.1 t.2.2 p/\0<=crs t.2.2 t.1 p)/\(crs t.1 t.2.1 p=0∨crs t.2.1 t.2.2 p=0∨crs t.2.2 t.1 p=0):=by
 have h1:=@zLi t p;have h2:=@zLh t p
 have h3:zCQ t p= -1∨zCQ t p=0∨zCQ t p=1:=by
  unfold zCQ
  have:=zBb t.1 t.2.1 p;have:=zBb t.2.1 t.2.2 p;have:=zBb t.2.2 t.1 p
  omega
 constructor
 ·intro h
  have n1: ¬zCQ t p<0:=by omega
  have n2: ¬zCQ t p=1:=by omega
  rw [h1] at n1;rw [h2] at n2
  grind
 ·rintro ⟨⟨k1,k2,k3⟩,k4⟩
  have n1: ¬zCQ t p<0:=by rw [h1];grind
  have n2: ¬zCQ t p=1:=by rw [h2];grind
  omega
theorem zPN (t:V6) (p:V2):zCQ t p= -1∨zCQ t p=0∨zCQ t p=1:=by
 unfold zCQ
 have:=zBb t.1 t.2.1 p;have:=zBb t.2.1 t.2.2 p;have:=zBb t.2.2 t.1 p
 omega
def crd (e:V2×V2):Rat:=e.1.1*e.2.2 - e.1.2*e.2.1
def arE (l:List V2):Rat:=((eds l).map crd).sum
end Go.Proofs.Wd

namespace Go.Proofs.Wd
open Tryz
theorem zLA (l:List V2):eds l=(List.range l.length).map fun i=>(at_ l i,at_ l ((i+1) % l.length)):=by
 cases l with
 |nil=>rfl
 | cons a t=>
  refine List.ext_getElem ?_ fun i h1 h2=> ?_
  ·have:=zT9 List.length (zLB (a::t))
   simp only [zUc] at this
   simp [this]
  ·have hl:i<(a::t).length:=by simpa using h2
   rw [zU5,List.getElem_range]
   have e1:(eds (a::t))[i].1=(a::t)[i]:=by
    have:=zU5 (l:=eds (a::t)) (f:=(·.1)) (i:=i) (h:=by rw [zUc];exact h1)
    rw [<-this]
    exact List.getElem_of_eq (zLB (a::t)) _
   have e2:(eds (a::t))[i].2=(t++ [a])[i]'(by simp at hl ⊢;omega):=by
    have:=zU5 (l:=eds (a::t)) (f:=(·.2)) (i:=i) (h:=by rw [zUc];exact h1)
    rw [<-this]
    exact List.getElem_of_eq (zP3 a t) _
   refine Prod.ext ?_ ?_
   ·rw [e1]
    unfold at_
    rw [tV,tW hl];rfl
   ·rw [e2]
    simp only [zUz] at hl ⊢
    rcases Nat.lt_or_ge (i+1) (t.length+1) with k|k
    ·rw [zU6 k,List.getElem_append_left oO]
     unfold at_
     rw [tV,tW (by simp;omega)];rfl
    ·have:i=t.length:=by omega
     subst this
     rw [Nat.mod_self]
     simp [at_]
theorem zPD (l:List V2) (x:V2):x∈zCt l↔x∈l:=by
 constructor
 ·intro h
  obtain ⟨i,hi,rfl⟩:=zK2 h
  rw [zEn] at hi
  rw [zOs hi]
  exact zCj (zUy _ oO)
 ·intro h
  obtain ⟨i,hi,rfl⟩:=zK2 h
  have hk:(l.length - i) % l.length<l.length:=zUy _ oO
  have:=zOs hk
  have e:(l.length - (l.length - i) % l.length) % l.length=i:=by
   by_cases k:i=0
   ·subst k;rw [Nat.sub_zero,Nat.mod_self,Nat.sub_zero,Nat.mod_self]
   ·rw [zU6 (show l.length - i<l.length by omega),show l.length - (l.length - i)=i by omega,zU6 hi]
  rw [e] at this
  rw [<-this]
  exact zCj (by rw [zEn];exact hk)
end Go.Proofs.Wd

namespace Go.Proofs.Wd
open Tryz
def fK (l:List V2):Nat->Nat
 |0=>0
 |k+1=>if zIS (at_ l k) (at_ l (fK l k))<0 then k else fK l k
theorem zRo (l:List V2): ∀k,fK l (k+1)<=k
 |0=>by unfold fK;split<;>simp [fK]
 |k+1=>by
  have:=zRo l k
  rw [fK]
  split<;>omega
def zNG (l:List V2):List V2:=if arE l<0 then zCt l else l
def zA0 (l:List V2):List V2:=zEM (zNG l) (fK (zNG l) (zNG l).length)
def zG6 (l:List V2):List V6:=(zJw (zA0 l).length (zA0 l)).getD []
theorem zRp {L M:List V2} (hl:L.length=M.length) (h: ∀i,i<L.length->at_ L i=at_ M i):L=M:=
 List.ext_getElem hl fun i h1 h2=>by
  have:=h i h1
  unfold at_ at this
  rw [tV,tV,tW h1,tW h2] at this
  exact this
theorem zL3 (l:List V2):(zNG l).length=l.length:=by unfold zNG;split<;>simp [zEn]
theorem zIC (l:List V2):(zA0 l).length=l.length:=by unfold zA0;rw [zFC,zL3]
theorem zM6 {l:List V2} (x:V2):x∈zA0 l↔x∈l:=by
 unfold zA0
 rw [zOZ]
 unfold zNG
 split
 ·exact zPD l x
 ·rfl
def TNp (t:V6) (v:Wj) (w:Wi):Prop:= ∃a b c:List Wj,v= .agg (a++b++c).toArray/\(CU.agg (fPN t.1)).p a w/\(CU.agg (fPN t.2.1)).p b w/\(CU.agg (fPN t.2.2)).p c w
def fTN (t:V6):UF:= .mk' (TNp t) fun _ _ _ ⟨a,b,c,e,h1,h2,h3⟩ k=>⟨a,b,c,e,(CU.agg _).us _ _ _ h1 k,(CU.agg _).us _ _ _ h2 k,(CU.agg _).us _ _ _ h3 k⟩
theorem zDT {t:V6} {cs:List Wj} {W:Wi} (h:TNp t (.agg cs.toArray) W): ∃a b c:List Wj,cs=a++b++c/\a.length=6/\b.length=6/\c.length=6/\(CU.agg (fPN t.1)).p a W/\(CU.agg (fPN t.2.1)).p b W/\(CU.agg (fPN t.2.2)).p c W:=by
 obtain ⟨a,b,c,e,h1,h2,h3⟩:=h
 have:=zT9 Array.toList (jT e)
 simp only [zUY] at this
 exact ⟨a,b,c,this,(zBc _ _ a W h1).1,(zBc _ _ b W h2).1,(zBc _ _ c W h3).1,h1,h2,h3⟩
theorem zMd (t:V6):CU.ok 18 (CU.agg (fTN t)):=fun cs W h=>by
 obtain ⟨a,b,c,rfl,l1,l2,l3,h1,h2,h3⟩:=zDT h
 have o1:=zBc _ _ a W h1;have o2:=zBc _ _ b W h2;have o3:=zBc _ _ c W h3
 refine ⟨by simp [l1,l2,l3],zCO o1.2.1 o2.2.1 o3.2.1,fun u hu=> ?_⟩
 rcases zUn.1 hu with hu|hu
 ·rcases zUn.1 hu with hu|hu
  ·exact o1.2.2 u hu
  ·exact o2.2.2 u hu
 ·exact o3.2.2 u hu
theorem zGe (t:V6): ∀cs:List Wj, ∀W,(fTN t).p (.agg cs.toArray) W->cs.length=18:=fun cs W h=>(zMd t cs W h).1
theorem zFn {t:V6} (v:Wj) (W:Wi) (h:(fTN t).p v W): ∃vs:List Wj,v= .agg vs.toArray/\vs.length=18/\(∀u,u∈vs->u.oneCell'=true)/\vs.all zV=true/\(CU.agg (fTN t)).p vs W:=by
 obtain ⟨a,b,c,rfl,h1⟩:=id h
 have:=zMd t _ W h
 exact ⟨_,rfl,this.1,this.2.2,this.2.1,h⟩
theorem zQy {t:V6} (cs:List Wj) (W:Wi) (h:(CU.agg (fTN t)).p cs W):0+6<=cs.length/\(fPN t.1).p (.agg ((cs.drop 0).take 6).toArray) W:=by
 obtain ⟨a,b,c,rfl,l1,l2,l3,h1,_⟩:=zDT h
 refine ⟨by simp [l1,l2,l3], ?_⟩
 rw [zUF,zUe,zUo oO,tZ oO]
 exact h1
theorem zQx {t:V6} (cs:List Wj) (W:Wi) (h:(CU.agg (fTN t)).p cs W):6+6<=cs.length/\(fPN t.2.1).p (.agg ((cs.drop 6).take 6).toArray) W:=by
 obtain ⟨a,b,c,rfl,l1,l2,l3,_,h2,_⟩:=zDT h
 refine ⟨by simp [l1,l2,l3], ?_⟩
 rw [zUe,zUp oO,zUq oO,zT8,zUo oO,tZ oO]
 exact h2
theorem zOO {t:V6} (cs:List Wj) (W:Wi) (h:(CU.agg (fTN t)).p cs W):12+6<=cs.length/\(fPN t.2.2).p (.agg ((cs.drop 12).take 6).toArray) W:=by
 obtain ⟨a,b,c,rfl,l1,l2,l3,_,_,h3⟩:=zDT h
 refine ⟨by simp [l1,l2,l3], ?_⟩
 rw [zUp (by simp;omega),zUq (by simp;omega),zT8,tZ oO]
 exact h3
abbrev tns (ts:List V6):List CU:=ts.map fun t=>CU.agg (fTN t)
theorem zHg {ts:List V6} {i:Nat} (h:i<ts.length):(tns ts)[i]?=some (CU.agg (fTN (at3 ts i))):=by
 unfold tns at3;rw [zUl,tV,tW h];rfl
theorem zNO (ts:List V6): ∀C,C∈tns ts->CU.ok 18 C:=fun C hC=>by
 obtain ⟨t,_,rfl⟩:=zUw.1 hC
 exact zMd _
theorem zR2 {t:V6} {u v q:Wj} {W:Wi} (hu:(fPN t.1).p u W) (hv:(fPN t.2.1).p v W) (hq:(fPN t.2.2).p q W): ∃cells,prog.built 38 [(0,u),(1,v),(2,q)]=some cells/\(fTN t).p (.agg cells) W:=by
 obtain ⟨s,A,n,c,A',n',c',s2,B,k,d,B',k',d',rfl,h1,h2⟩:=hu
 obtain ⟨s3,A3,n3,c3,A4,n4,c4,s4,B3,k3,d3,B4,k4,d4,rfl,h3,h4⟩:=hv
 obtain ⟨s5,A5,n5,c5,A6,n6,c6,s6,B5,k5,d5,B6,k6,d6,rfl,h5,h6⟩:=hq
 exact ⟨_,trB ..,_,_,_,rfl,⟨s,A,n,c,A',n',c',s2,B,k,d,B',k',d',rfl,h1,h2⟩,⟨s3,A3,n3,c3,A4,n4,c4,s4,B3,k3,d3,B4,k4,d4,rfl,h3,h4⟩,⟨s5,A5,n5,c5,A6,n6,c6,s6,B5,k5,d5,B6,k6,d6,rfl,h5,h6⟩⟩
theorem zHh {t:V6} {v:Wj} {W:Wi} (h:(fTN t).p v W): ∃cs:List Wj,v= .agg cs.toArray/\cs.length=18/\(CU.agg (fTN t)).p cs W:=by
 obtain ⟨a,b,c,rfl,h1⟩:=id h
 exact ⟨_,rfl,(zMd t _ W h).1,h⟩
theorem zJ1 {t:V6} {u:Wj} {W:Wi} (h:(fTN t).p u W): ∃e cs,z9 prog 33 1 [(0,u)]=some (e,cs)/\(SF.row 18 (tns [t])).p (.slice (some ⟨W.heap.size,0,none⟩) 1 1) (W.alloc (.cells cs e)):=by
 obtain ⟨cs,rfl,l,hc⟩:=zHh h
 obtain ⟨u0,u1,u2,u3,u4,u5,u6,u7,u8,u9,u10,u11,u12,u13,u14,u15,u16,u17,rfl⟩:=zII l
 refine ⟨_,_,zTx ..,some ⟨W.heap.size,0,none⟩,1,rfl,tT _,by decide,fun e=>(by cases e),fun i C hi=> ?_⟩
 have hb:=zBv W (.cells #[u0,u1,u2,u3,u4,u5,u6,u7,u8,u9,u10,u11,u12,u13,u14,u15,u16,u17] 38)
 have hm:=zAW W #[u0,u1,u2,u3,u4,u5,u6,u7,u8,u9,u10,u11,u12,u13,u14,u15,u16,u17] 38
 obtain rfl:i=0:=by have:=(tQ.1 hi).1;simp at this;omega
 obtain rfl:CU.agg (fTN t)=C:=by simpa using hi
 refine ⟨W.heap.size,0,_,rfl, ?_,(CU.agg (fTN t)).us _ _ _ hc (zL hb)⟩
 rw [show 0+0*18=0 from rfl]
 exact hm
theorem zQH {t t':V6} {u v:Wj} {W:Wi} (h:(fTN t).p u W) (h':(fTN t').p v W): ∃e cs,z9 prog 33 2 [(0,u),(1,v)]=some (e,cs)/\(SF.row 18 (tns [t,t'])).p (.slice (some ⟨W.heap.size,0,none⟩) 2 2) (W.alloc (.cells cs e)):=by
 obtain ⟨cs,rfl,l,hc⟩:=zHh h
 obtain ⟨u0,u1,u2,u3,u4,u5,u6,u7,u8,u9,u10,u11,u12,u13,u14,u15,u16,u17,rfl⟩:=zII l
 obtain ⟨cs,rfl,l,hc'⟩:=zHh h'
 obtain ⟨v0,v1,v2,v3,v4,v5,v6,v7,v8,v9,v10,v11,v12,v13,v14,v15,v16,v17,rfl⟩:=zII l
 refine ⟨_,_,zTK ..,some ⟨W.heap.size,0,none⟩,2,rfl,tT _,by decide,fun e=>(by cases e),fun i C hi=> ?_⟩
 have hb:=zBv W (.cells #[u0,u1,u2,u3,u4,u5,u6,u7,u8,u9,u10,u11,u12,u13,u14,u15,u16,u17,v0,v1,v2,v3,v4,v5,v6,v7,v8,v9,v10,v11,v12,v13,v14,v15,v16,v17] 38)
 have hm:=zAW W #[u0,u1,u2,u3,u4,u5,u6,u7,u8,u9,u10,u11,u12,u13,u14,u15,u16,u17,v0,v1,v2,v3,v4,v5,v6,v7,v8,v9,v10,v11,v12,v13,v14,v15,v16,v17] 38
 have hlt:=(tQ.1 hi).1
 simp at hlt
 rcases (by omega:i=0∨i=1) with rfl|rfl
 ·obtain rfl:CU.agg (fTN t)=C:=by simpa using hi
  refine ⟨W.heap.size,0, [u0,u1,u2,u3,u4,u5,u6,u7,u8,u9,u10,u11,u12,u13,u14,u15,u16,u17],rfl, ?_,(CU.agg (fTN t)).us _ _ _ hc (zL hb)⟩
  intro j u hj
  have hj':=(tQ.1 hj).1
  have:=hm j u (by rw [show #[u0,u1,u2,u3,u4,u5,u6,u7,u8,u9,u10,u11,u12,u13,u14,u15,u16,u17,v0,v1,v2,v3,v4,v5,v6,v7,v8,v9,v10,v11,v12,v13,v14,v15,v16,v17].toList= [u0,u1,u2,u3,u4,u5,u6,u7,u8,u9,u10,u11,u12,u13,u14,u15,u16,u17]++ [v0,v1,v2,v3,v4,v5,v6,v7,v8,v9,v10,v11,v12,v13,v14,v15,v16,v17] from rfl,zVa hj'];exact hj)
  simpa using this
 ·obtain rfl:CU.agg (fTN t')=C:=by simpa using hi
  refine ⟨W.heap.size,0, [v0,v1,v2,v3,v4,v5,v6,v7,v8,v9,v10,v11,v12,v13,v14,v15,v16,v17],rfl, ?_,(CU.agg (fTN t')).us _ _ _ hc' (zL hb)⟩
  intro j u hj
  have hj':=(tQ.1 hj).1
  have:=hm (18+j) u (by rw [show #[u0,u1,u2,u3,u4,u5,u6,u7,u8,u9,u10,u11,u12,u13,u14,u15,u16,u17,v0,v1,v2,v3,v4,v5,v6,v7,v8,v9,v10,v11,v12,v13,v14,v15,v16,v17].toList= [u0,u1,u2,u3,u4,u5,u6,u7,u8,u9,u10,u11,u12,u13,u14,u15,u16,u17]++ [v0,v1,v2,v3,v4,v5,v6,v7,v8,v9,v10,v11,v12,v13,v14,v15,v16,v17] from rfl,List.getElem?_append_right fM];simpa using hj)
  simpa using this
theorem zSr {t:V6} (v:Wj) (W:Wi) (h:(fTN t).p v W):v.cells.size=18/\(∀u,u∈v.cells.toList->u.oneCell'=true)/\v.cells.toList.all zV=true/\ ∀cs,(CU.len 18).p cs W->0+18<=cs.length/\(CU.agg (fTN t)).p (qW cs 0 v.cells.toList) W:=by
 obtain ⟨vs,rfl,h1,h2,h3,h4⟩:=zFn v W h
 refine ⟨by simpa [Value.cells] using h1,fun u hu=>h2 u (by simpa [Value.cells] using hu),by simpa [Value.cells] using h3,fun cs hc=> ?_⟩
 have hl:cs.length=18:=hc
 refine ⟨by omega, ?_⟩
 rw [show qW cs 0 (Value.agg vs.toArray).cells.toList=vs by simp [qW,Value.cells];omega]
 exact h4
theorem zMc {m:Nat} {t:V6} (h: ∀p,p∈tl t->QB p.1 m/\QB p.2 m) {v:Wj} {W:Wi} (hv:(fTN t).p v W):(fTR m t).p v W:=by
 obtain ⟨a,b,c,e,h1,h2,h3⟩:=hv
 have q1:=h t.1 (by simp [tl]);have q2:=h t.2.1 (by simp [tl]);have q3:=h t.2.2 (by simp [tl])
 exact ⟨a,b,c,e,zCG q1.1 q1.2 h1,zCG q2.1 q2.2 h2,zCG q3.1 q3.2 h3⟩
theorem zOM {m:Nat} {ts:List V6} (h: ∀t,t∈ts-> ∀p,p∈tl t->QB p.1 m/\QB p.2 m) (v:Wj) (W:Wi) (hv:(SF.row 18 (tns ts)).p v W):(SF.row 18 (trs m ts)).p v W:=
 zHp fM (fun i C D hC hD cs W hc=>by
  have hi:i<ts.length:=by have:=(tQ.1 hC).1;simpa using this
  rw [zHg hi] at hC
  rw [zHd hi] at hD
  cases hC;cases hD
  refine zMc (h _ ?_) hc
  unfold at3
  rw [tV,tW hi]
  exact List.getElem_mem hi) v W hv
theorem zOK {m:Nat} {ps:List V2} (h: ∀p,p∈ps->QB p.1 m/\QB p.2 m) {k:Nat} (hk:k<ps.length): ∀p,p∈tl (zAP ps k)->QB p.1 m/\QB p.2 m:=fun p hp=>by
 have hat: ∀{j:Nat},j<ps.length->at_ ps j∈ps:=fun {j} hj=>by
  unfold at_
  rw [tV,tW hj]
  exact List.getElem_mem hj
 have h0:0<ps.length:=by omega
 simp only [tl,zAP,zUb,zU4,or_false] at hp
 rcases hp with rfl|rfl|rfl
 ·exact h _ (hat (zUy _ h0))
 ·exact h _ (hat hk)
 ·exact h _ (hat (zUy _ h0))
theorem zPq (m:Nat) (ps:List V2): ∀C,C∈pvs m ps->CU.ok 6 C:=fun C hC=>by
 obtain ⟨t,_,rfl⟩:=zUw.1 hC
 exact zBc _ _
end Go.Proofs.Wd
