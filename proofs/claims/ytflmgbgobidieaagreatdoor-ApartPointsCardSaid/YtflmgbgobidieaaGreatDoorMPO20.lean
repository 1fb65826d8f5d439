/- Natural numbers as values; the walks of gcd's Reduce, Lcm, Coprime; Th and what it needs. -/
import Derived.Test.YtflmgbgobidieaaGreatDoorMPO18
import Derived.Test.YtflmgbgobidieaaGreatDoorMPO13
import Derived.Test.YtflmgbgobidieaaGreatDoorMPO7
import Derived.Test.YtflmgbgobidieaaGreatDoorMPO19
import Derived.Test.YtflmgbgobidieaaGreatDoorMPO17
import Derived.Test.YtflmgbgobidieaaGreatDoorMPO6
import Derived.Test.YtflmgbgobidieaaGreatDoorMPO1
import Derived.Test.YtflmgbgobidieaaGreatDoorMPO9
import Derived.Test.YtflmgbgobidieaaGreatDoorMPO16
namespace Go.Proofs.Wd
set_option maxHeartbeats 1000000
open Go.RowKit Lb
theorem gcd_v {W:World} {m:Nat} {v v':Value} {a b:Nat} (h:LV W m v a) (h':LV W m v' b) (hm:m≤2000) (hT:Tab W):Calls Tryz.prog 199 #[v,v'] W (RetN W (Nat.gcd a b)):=by
 obtain ⟨A,n,c,l,rfl,h1,h2,h3,rfl⟩:=h
 obtain ⟨A',n',c',l',rfl,h1',h2',h3',rfl⟩:=h'
 exact (gcd_any A n c l A' n' c' l' W h1 h1' h2 h2' (by omega) (by omega) hT).mono fun _ _=>RetNat.v
theorem gcd_lt {a b m:Nat} (ha:a<BB^m) (hb:b<BB^m):Nat.gcd a b<BB^m:=by
 rcases Nat.eq_zero_or_pos a with rfl|h
 ·rwa [Nat.gcd_zero_left]
 ·exact Nat.lt_of_le_of_lt (Nat.gcd_le_left b h) ha
theorem by1_any {m:Nat} {v vg:Value} {a g B:Nat} {W:World} (h:LV W m v a) (hg:LV W m vg g) (hm:m≤2000) (hg0:0<g) (hc:W.cell? ⟨B,0,none⟩=some vg):
  Calls Tryz.prog 207 #[v, .pointer (some ⟨B,0,none⟩)] W (RetN W (a / g)):=by
 obtain ⟨A,n,c,l,rfl,h1,h2,h3,h4⟩:=h
 obtain ⟨A',n',c',l',rfl,h1',h2',h3',h4'⟩:=hg
 have hd:=qdiv_all a g hg0 A n c l A' n' c' l' W h1 h2 h1' h2' h4 h4' (by omega) (by omega)
 have H4:=hid h4;have H4':=hid h4'
 clear h4 h4'
 go_enter Tryz.func207,Tryz.ntmps207
 go_wp2_with fail
 refine hd.mono ?_
 rintro e w4 ⟨A4,n4,c4,l4,A5,n5,c5,l5,rfl,hi4,hr4,hi5,hr5,hb5⟩
 go_wp2_with fail
 go_ret
 exact ⟨_,rfl,⟨A4,n4,c4,l4,rfl,hi4,hr4⟩,hb5⟩
theorem by_any (A:Option Addr) (n c:Nat) (w:World):
  Calls Tryz.prog 200 #[.slice A n c] w fun e w'=>e= .returned (.func (.func 207) #[] #[.pointer (some ⟨w.heap.size,0,none⟩)])∧w'=w.alloc (.cells #[.slice A n c] 25):=by
 go_enter Tryz.func200,Tryz.ntmps200
 go_wp2
 go_ret
 exact ⟨rfl,rfl⟩
theorem reduce_v {W:World} {m:Nat} {v v':Value} {a b:Nat} (h:LV W m v a) (h':LV W m v' b) (hm:m≤2000) (hT:Tab W):Calls Tryz.prog 188 #[v,v'] W (RetN2 W (a / Nat.gcd a b) (b / Nat.gcd a b)):=by
 have hgc:=gcd_v h h' hm hT
 have hgl:=gcd_lt h.bound h'.bound
 have hen: ∀args w,(callFunc 207 args).run Tryz.prog w= .ok (.enter 207 args) w:=enters_of Tryz.func207 (by kernel_rfl) rfl
 obtain ⟨g,hg⟩: ∃g,Nat.gcd a b=g:=⟨_,rfl⟩
 rw [hg] at hgc hgl ⊢
 rcases Nat.eq_zero_or_pos g with h0|h0
 ·have HZ:=hid h0
  go_enter Tryz.func188,Tryz.ntmps188
  go_wp2_with fail
  refine hgc.mono ?_
  rintro e w4 ⟨v4,rfl,⟨A4,n4,c4,l4,rfl,hi4,hr4⟩,hb4⟩
  obtain rfl:n4=0:=by rw [←hr4.len];exact hi4.zero_iff.1 HZ.out
  go_wp2_with fail
  go_ret2
  exact ⟨_,_,rfl,⟨none,0,0, [],rfl,by rw [HZ.out,Nat.div_zero];exact Is.nil,Rd.nil_ _⟩,⟨none,0,0, [],rfl,by rw [HZ.out,Nat.div_zero];exact Is.nil,Rd.nil_ _⟩,hb4⟩
 ·clear hg
  go_enter Tryz.func188,Tryz.ntmps188
  go_wp2_with fail
  refine hgc.mono ?_
  rintro e w4 ⟨v4,rfl,⟨A4,n4,c4,l4,rfl,hi4,hr4⟩,hb4⟩
  have hn4:0<n4:=by rw [←hr4.len];exact hi4.pos_iff.1 h0
  have hb5:=hb4.trans ((Below.refl _ w4).alloc (Nat.le_refl _) (.cells #[.slice A4 n4 c4] 25)|>.mono hb4.size)
  have x5:=Boxed.new w4 25 (.slice A4 n4 c4)
  obtain ⟨W5,hW5⟩: ∃W5,w4.alloc (.cells #[.slice A4 n4 c4] 25)=W5:=⟨_,rfl⟩
  rw [hW5] at hb5 x5
  have hg5:LV W5 m (.slice A4 n4 c4) g:=by rw [←hW5];exact (NatV.lv ⟨A4,n4,c4,l4,rfl,hi4,hr4⟩ hgl).below ((Below.refl _ w4).alloc (Nat.le_refl _) _)
  have hby:=by_any A4 n4 c4 w4
  rw [hW5] at hby
  clear hW5
  go_wp2_with fail
  refine hby.mono ?_
  rintro e w6 ⟨rfl,rfl⟩
  go_wp2_with fail
  refine (by1_any (h.below hb5) hg5 hm h0 x5.cell).mono ?_
  rintro e w7 ⟨v7,rfl,hv7,hb7⟩
  go_wp2_with fail
  refine (by1_any ((h'.below hb5).below hb7) (hg5.below hb7) hm h0 ((hb7.cell (p:=⟨w4.heap.size,0,none⟩) (lt_of_cell x5.cell)).trans x5.cell)).mono ?_
  rintro e w8 ⟨v8,rfl,hv8,hb8⟩
  go_wp2_with fail
  go_ret2
  have t1:=hb5.trans (hb7.mono hb5.size)
  exact ⟨_,_,rfl,hv7.below hb8,hv8,t1.trans (hb8.mono t1.size)⟩
end Go.Proofs.Wd

namespace Go.Proofs.Wd
open Go.RowKit Lb
end Go.Proofs.Wd

namespace Go.Proofs.Wd
open Go.RowKit Lb
end Go.Proofs.Wd

namespace Go.Proofs.Wd
set_option maxRecDepth 100000
open Go.RowKit Lb
theorem trim_v {W:World} {m:Nat} {v:Value} {x:Nat} (h:LV W m v x) (hm:m≤100000):Calls Tryz.prog 186 #[v] W (RetN W x):=by
 obtain ⟨A,n,c,l,rfl,h1,h2,h3,rfl⟩:=h
 exact (trim_any A n c l W h1 h2 (by omega)).mono fun _ _=>RetNat.v
theorem Tab.bls {W w:World} {b:Nat} {cs:List Value} {te:TypeId} (hT:Tab W) (hb:W.heap[b]?=some (.cells cs.toArray te (0,0))) (h0: ∃s,cs[0]?=some (.bool s)) (hg:BlS (fun k=>k=b) W w):Tab w:=fun j hj=>by
 have h1:=hT j hj
 have hne:(0:Nat)≠b:=fun e=>by
  have h2:=hT 0 (by decide)
  obtain ⟨s,hs⟩:=h0
  unfold World.cell? at h2
  rw [show ((⟨0,0,none⟩:Addr).block)=b from e,hb] at h2
  simp [hs] at h2
 exact (World.cell?_of_block (a:=⟨0,j,none⟩) (hg.block _ (lt_of_cell h1) hne)).trans h1
theorem qv_bool {m:Nat} {k:Int} {d:Nat} {cs:List Value} {W:World} (h:QVp m k d (.agg cs.toArray) W): ∃s,cs[0]?=some (.bool s):=by
 obtain ⟨u,h1,s,rfl⟩:=qv_neg cs W h
 exact ⟨s,h1⟩
theorem qv_noLimb {m:Nat} {k:Int} {d:Nat} {cs:List Value} {W:World} (h:QVp m k d (.agg cs.toArray) W):cs.all noLimb=true:=by
 have:=(qv_box (v:= .agg cs.toArray) h).2
 simpa [Value.cells] using this
theorem whole_v {W:World} {v:Value} {x:Nat} (h:NatV W v x):Calls Tryz.prog 164 #[v] W (Ret W (fNV ((x:Int))).toSF):=by
 refine run_st [(fNat (x)).toSF] Tryz.func164 rfl (by kernel_rfl) ⟨h,trivial⟩ fun a s=> ?_
 refine wpIn_seq ?_
 refine region_go 0 [] hmix s (by kernel_rfl)
  obs_nil fun a w1 s=> ?_
 refine t_alloc (CU.len 2) (cs:= [.bool false, .slice none 0 0]) (by kernel_rfl) rfl s (by kernel_rfl) (fun W=>rfl) rfl fun b2 a w s=> ?_
 refine tail_end rfl ?_
 refine wpIn_seq ?_
 refine region_go 2 ((3, .s ((fNat (x)).toSF))::(4, .u (fNV ((x:Int)))):: []) hmix s (by kernel_rfl)
  (oc ok_move<|oc (ok_build1 (fun u W (hu:NatV W u (x))=>b_whole hu))<|obs_nil) fun a w2 s=> ?_
 refine t_store (CU.agg (fNV ((x:Int)))) ((fNV ((x:Int))).toSF) rfl s (by kernel_rfl) rfl rfl rfl iiz iiz (nv_store) fun a w s=> ?_
 refine tail_end rfl ?_
 refine wpIn_ret ?_
 exact StS.resC s (CU.agg (fNV ((x:Int)))) rfl (by kernel_rfl) rfl rfl (nv_len _) (fun cs W h=>h)
theorem rof_v {W:World} (z:Int) (hz: -9223372036854775808≤z∧z≤9223372036854775807):Calls Tryz.prog 135 #[.int .i64 z] W (Ret W (fQN (z:Rat)).toSF):=by
 refine run_st [(fI z).toSF] Tryz.func135 rfl (by kernel_rfl) ⟨rfl,trivial⟩ fun a s=> ?_
 refine wpIn_seq ?_
 refine region_go 0 [] hmix s (by kernel_rfl)
  obs_nil fun a w1 s=> ?_
 refine t_alloc (CU.len 3) (cs:= [.bool false, .slice none 0 0, .slice none 0 0]) (by kernel_rfl) rfl s (by kernel_rfl) (fun W=>rfl) rfl fun b2 a w s=> ?_
 refine tail_end rfl ?_
 refine wpIn_seq ?_
 refine region_go 4 ((3, .s ((UF.eq (.int .i64 (z))).toSF))::(4, .s ((fNV (z)).toSF))::(5, .s ((fNat (1)).toSF))::(6, .u (fQN ((z:Rat)))):: []) hmix s (by kernel_rfl)
  (oc ok_move<|oc (ok_call1 wide_wide en_161 (fun u0 W hb (h0:u0= .int .i64 (z))=>by subst h0;exact of_v z hz))<|oc (ok_slice1 (fun u W (hu:u= .int .u32 1)=>sl_one hu))<|oc (ok_build2 (fun u v W (hu:NV W u z) (hv:NatV W v 1)=>b_ratN (q:=(z:Rat)) hu hv))<|obs_nil) fun a w2 s=> ?_
 refine t_store (CU.agg (fQN ((z:Rat)))) ((fQN ((z:Rat))).toSF) rfl s (by kernel_rfl) rfl rfl rfl iiz iiz (qn_store) fun a w s=> ?_
 refine tail_end rfl ?_
 refine wpIn_ret ?_
 exact StS.resC s (CU.agg (fQN (z:Rat))) rfl (by kernel_rfl) rfl rfl (qn_len _) (fun cs W h=>h)
theorem rnorm_z {W:World} {b m:Nat} {k:Int} {d:Nat} {cs:List Value} (hh:W.heap[b]?=some (.cells cs.toArray 160 (0,0))) (hc:QVp m k d (.agg cs.toArray) W) (hm:m≤2000) (hd:d=0):Calls Tryz.prog 168 #[.pointer (some ⟨b,0,none⟩)] W (RetS W b 160 (CU.agg (fQN ((0:Int):Rat))) (UF.eq (.bool false)).toSF):=by
 have hz:true=decide (d=0):=(decide_eq_true hd).symm
 refine run_stS b [(0,UF.eq (.pointer (some ⟨b,0,none⟩)))] [⟨0,160,CU.agg (fQV m k d),b,false⟩] Tryz.func168 rfl (by kernel_rfl) (fun q hq=>by simp at hq;subst hq;exact ⟨by simp,rfl⟩) ⟨⟨cs,rfl, .inr (.inr rfl),hh,hc,qv_noLimb hc,fun y hy=>by cases hy⟩,trivial⟩ (fun x hx=>by simp at hx;subst hx;simp) fun a s=> ?_
 refine wpIn_seq ?_
 refine region_go 1 ((2, .u (UF.eq (.bool false))):: []) hmix s (by kernel_rfl)
  (oc (ok_assign)<|obs_nil) fun a w1 s=> ?_
 refine tail_end rfl ?_
 refine wpIn_seq ?_
 refine wpIn_seq ?_
 refine region_go 8 ((3, .s (SF.pb b (CU.agg (fQV (m) (k) (d))).cf))::(4, .s (SF.ptr (CU.agg (fQV (m) (k) (d))).cf))::(5, .s (SF.ptr ((CU.agg (fQV (m) (k) (d))).cf.at 0)))::(6, .s (SF.ptr ((CU.agg (fQV (m) (k) (d))).cf.at 2)))::(7, .s ((fLV (m) (d)).toSF))::(8, .s ((fNat (d)).toSF))::(9, .s (fLen d))::(10, .u (UF.eq (.bool true))):: []) hmix s (by kernel_rfl)
  (oc ok_move<|oc (ok_nil (C:=(CU.agg (fQV (m) (k) (d))).cf))<|oc (ok_fld (C:=(CU.agg (fQV (m) (k) (d))).cf) 0 (by kernel_rfl))<|oc (ok_fldn (C:=(CU.agg (fQV (m) (k) (d))).cf) 0 2 (by kernel_rfl))<|oc (ok_ld (C:=(CU.agg (fQV (m) (k) (d))).cf) (k:=2) (by kernel_rfl) (h:=qv_den))<|oc (ok_call1 wide_wide en_186 (fun u0 W hb (h0:LV W (m) u0 (d))=>trim_v h0 (by omega)))<|oc (ok_lenN (by kernel_rfl) iiz)<|oc (ok_eql0 hz)<|obs_nil) fun a w2 s=> ?_
 refine tail_end rfl ?_
 refine StS.cond s true iiz (fun e=> ?_) (fun e=>by cases e)
 refine wpIn_seq ?_
 refine region_go 4 ((11, .s ((UF.eq (.pointer (some ⟨b,0,none⟩))).toSF))::(12, .u (fQN (((0:Int):Rat))))::(13, .s ((UF.eq (.pointer (some ⟨b,0,none⟩))).toSF))::(14, .u (UF.eq (.pointer (some ⟨b,0,none⟩)))):: []) hmix s (by kernel_rfl)
  (oc (ok_move (fun _ _ _ h=>h.1))<|oc (ok_call1 wide_wide en_135 (fun u0 W hb (h0:u0= .int .i64 (0))=>by subst h0;exact rof_v 0 (by decide)))<|oc (ok_nilE (a:=⟨b,0,none⟩) iiz)<|oc (ok_fldE (b:=b) (o:=0) 0 (by kernel_rfl) iiz)<|obs_nil) fun a w3 s=> ?_
 refine t_storeP (c:=0) (o:=0) (kk:=3) (CU.agg (fQN (((0:Int):Rat)))) ((fQN (((0:Int):Rat))).toSF) rfl s (by kernel_rfl) rfl rfl iiz iiz (sp_whole) fun a w s=> ?_
 refine tail_end rfl ?_
 refine wpIn_seq ?_
 replace s:=s.drop [2]
 refine region_go 1 ((2, .u (UF.eq (.bool false))):: []) hmix s (by kernel_rfl)
  (oc (ok_assign)<|obs_nil) fun a w4 s=> ?_
 refine tail_end rfl ?_
 refine wpIn_ret ?_
 exact StS.resS1 s (c:=0) (C:=CU.agg (fQN (((0:Int):Rat)))) rfl rfl rfl rfl iiz
theorem rnorm_p {W:World} {b m:Nat} {k:Int} {d:Nat} {cs:List Value} (hh:W.heap[b]?=some (.cells cs.toArray 160 (0,0))) (hc:QVp m k d (.agg cs.toArray) W) (hm:m≤2000) (hd0:0<d) (hT:Tab W):Calls Tryz.prog 168 #[.pointer (some ⟨b,0,none⟩)] W (RetS W b 160 (CU.agg (fQN (mkRat k d))) (UF.eq (.bool true)).toSF):=by
 have hz:false=decide (d=0):=(decide_eq_false (by omega)).symm
 have bk:k.natAbs<BB^m:=by obtain ⟨_,_,_,_,h1,_⟩:=hc;exact h1.bound
 have hred: ∀W u0 u1,Tab W→LV W m u0 k.natAbs→LV W m u1 d→Calls Tryz.prog 188 #[u0,u1] W (Ret W (SF.tup2 (fNat (k.natAbs / Nat.gcd k.natAbs d)).toSF (fNat (d / Nat.gcd k.natAbs d)).toSF)):=fun W u0 u1 hT h0 h1=>(reduce_v h0 h1 hm hT).mono fun e w' ⟨v,v',e1,h1,h2,hb⟩=>⟨_,e1,⟨v,v',rfl,h1,h2⟩,hb⟩
 refine run_stS b [(0,UF.eq (.pointer (some ⟨b,0,none⟩)))] [⟨0,160,CU.agg (fQV m k d),b,false⟩] Tryz.func168 rfl (by kernel_rfl) (fun q hq=>by simp at hq;subst hq;exact ⟨by simp,rfl⟩) ⟨⟨cs,rfl, .inr (.inr rfl),hh,hc,qv_noLimb hc,fun y hy=>by cases hy⟩,trivial⟩ (fun x hx=>by simp at hx;subst hx;simp) fun a s=> ?_
 refine wpIn_seq ?_
 refine region_go 1 ((2, .u (UF.eq (.bool false))):: []) hmix s (by kernel_rfl)
  (oc (ok_assign)<|obs_nil) fun a w1 s=> ?_
 refine tail_end rfl ?_
 refine wpIn_seq ?_
 refine wpIn_seq ?_
 refine region_go 8 ((3, .s (SF.pb b (CU.agg (fQV (m) (k) (d))).cf))::(4, .s (SF.ptr (CU.agg (fQV (m) (k) (d))).cf))::(5, .s (SF.ptr ((CU.agg (fQV (m) (k) (d))).cf.at 0)))::(6, .s (SF.ptr ((CU.agg (fQV (m) (k) (d))).cf.at 2)))::(7, .s ((fLV (m) (d)).toSF))::(8, .s ((fNat (d)).toSF))::(9, .s (fLen d))::(10, .u (UF.eq (.bool false))):: []) hmix s (by kernel_rfl)
  (oc ok_move<|oc (ok_nil (C:=(CU.agg (fQV (m) (k) (d))).cf))<|oc (ok_fld (C:=(CU.agg (fQV (m) (k) (d))).cf) 0 (by kernel_rfl))<|oc (ok_fldn (C:=(CU.agg (fQV (m) (k) (d))).cf) 0 2 (by kernel_rfl))<|oc (ok_ld (C:=(CU.agg (fQV (m) (k) (d))).cf) (k:=2) (by kernel_rfl) (h:=qv_den))<|oc (ok_call1 wide_wide en_186 (fun u0 W hb (h0:LV W (m) u0 (d))=>trim_v h0 (by omega)))<|oc (ok_lenN (by kernel_rfl) iiz)<|oc (ok_eql0 hz)<|obs_nil) fun a w2 s=> ?_
 refine tail_end rfl ?_
 refine StS.cond s false iiz (fun e=>by cases e) (fun e=> ?_)
 refine wpIn_skip ?_
 refine wpIn_seq ?_
 refine region_go 10 ((15, .s ((UF.eq (.pointer (some ⟨b,0,none⟩))).toSF))::(16, .s (SF.pb b (CU.agg (fQV (m) (k) (d))).cf))::(17, .s (SF.ptr (CU.agg (fQV (m) (k) (d))).cf))::(18, .s (SF.ptr ((CU.agg (fQV (m) (k) (d))).cf.at 0)))::(19, .s (SF.ptr ((CU.agg (fQV (m) (k) (d))).cf.at 0)))::(20, .s ((fUV (m) (k)).toSF))::(21, .u (fNV (k)))::(22, .s ((UF.eq (.pointer (some ⟨b,0,none⟩))).toSF))::(23, .s ((UF.eq (.pointer (some ⟨b,0,none⟩))).toSF))::(24, .u (UF.eq (.pointer (some ⟨b,0,none⟩)))):: []) hmix s (by kernel_rfl)
  (oc (ok_move (fun _ _ _ h=>h.1))<|oc ok_move<|oc (ok_nil (C:=(CU.agg (fQV (m) (k) (d))).cf))<|oc (ok_fld (C:=(CU.agg (fQV (m) (k) (d))).cf) 0 (by kernel_rfl))<|oc (ok_fldn (C:=(CU.agg (fQV (m) (k) (d))).cf) 0 0 (by kernel_rfl))<|oc (ok_ldA (C:=(CU.agg (fQV (m) (k) (d))).cf) (k:=0) 2 (by kernel_rfl) (h:=qv_num))<|oc (ok_call1 wide_wide en_187 (fun u0 W hb (h0:UV W (m) u0 (k))=>norm_v h0 (by omega)))<|oc (ok_nilE (a:=⟨b,0,none⟩) iiz)<|oc (ok_fldE (b:=b) (o:=0) 0 (by kernel_rfl) iiz)<|oc (ok_fldE (b:=b) (o:=0) 0 (by kernel_rfl) iiz)<|obs_nil) fun a w3 s=> ?_
 refine t_storeP (c:=0) (o:=0) (kk:=2) (CU.agg (fQM m k d)) ((fNV (k)).toSF) rfl s (by kernel_rfl) rfl rfl iiz iiz (sp_numV) fun a w s=> ?_
 refine tail_end rfl ?_
 refine wpIn_seq ?_
 refine region_goP [0,1,2,8] 15 ((26, .u (UF.eq (.pointer (some ⟨b,0,none⟩))))::(27, .u (UF.eq (.pointer (some ⟨b,0,none⟩))))::(28, .s (SF.pb b (CU.agg (fQM m k d)).cf))::(29, .s (SF.ptr (CU.agg (fQM m k d)).cf))::(30, .s (SF.ptr ((CU.agg (fQM m k d)).cf.at 0)))::(31, .s (SF.ptr ((CU.agg (fQM m k d)).cf.at 0)))::(32, .s (SF.ptr ((CU.agg (fQM m k d)).cf.at 1)))::(33, .s ((fNat (k.natAbs)).toSF))::(34, .s (SF.pb b (CU.agg (fQM m k d)).cf))::(35, .s (SF.ptr (CU.agg (fQM m k d)).cf))::(36, .s (SF.ptr ((CU.agg (fQM m k d)).cf.at 0)))::(37, .s (SF.ptr ((CU.agg (fQM m k d)).cf.at 2)))::(38, .s ((fLV (m) (d)).toSF))::(39, .s ((fTup2 (fNat (k.natAbs / Nat.gcd k.natAbs d)) (fNat (d / Nat.gcd k.natAbs d))).toSF))::(25, .u (fTup2 (fNat (k.natAbs / Nat.gcd k.natAbs d)) (fNat (d / Nat.gcd k.natAbs d)))):: []) hmix s (by kernel_rfl)
  (oc (ok_move (fun _ _ _ h=>h.1))<|oc (ok_move (fun _ _ _ h=>h.1))<|oc ok_move<|oc (ok_nil (C:=(CU.agg (fQM m k d)).cf))<|oc (ok_fld (C:=(CU.agg (fQM m k d)).cf) 0 (by kernel_rfl))<|oc (ok_fldn (C:=(CU.agg (fQM m k d)).cf) 0 0 (by kernel_rfl))<|oc (ok_fldn (C:=(CU.agg (fQM m k d)).cf) 0 1 (by kernel_rfl))<|oc (ok_ld (C:=(CU.agg (fQM m k d)).cf) (k:=1) (by kernel_rfl) (h:=qm_abs))<|oc ok_move<|oc (ok_nil (C:=(CU.agg (fQM m k d)).cf))<|oc (ok_fld (C:=(CU.agg (fQM m k d)).cf) 0 (by kernel_rfl))<|oc (ok_fldn (C:=(CU.agg (fQM m k d)).cf) 0 2 (by kernel_rfl))<|oc (ok_ld (C:=(CU.agg (fQM m k d)).cf) (k:=2) (by kernel_rfl) (h:=qm_den))<|oc (ok_call2 wide_wide en_188 (fun u0 u1 W hb (h0:NatV W u0 (k.natAbs)) (h1:LV W (m) u1 (d))=>hred W u0 u1 (hT.bls hh (qv_bool hc) (s.gr.trans hb)) (NatV.lv h0 bk) h1))<|oc ok_move<|obs_nil) fun Q' hQ a w4 s=> ?_
 refine t_gd (fNat (k.natAbs / Nat.gcd k.natAbs d)) rfl s (by kernel_rfl) (ok_ext20 (A:=(fNat (k.natAbs / Nat.gcd k.natAbs d)).toSF) (B:=(fNat (d / Nat.gcd k.natAbs d)).toSF) iiz) (by kernel_rfl) fun a w s=> ?_
 refine t_gd (fNat (d / Nat.gcd k.natAbs d)) rfl s (by kernel_rfl) (ok_ext21 (A:=(fNat (k.natAbs / Nat.gcd k.natAbs d)).toSF) (B:=(fNat (d / Nat.gcd k.natAbs d)).toSF) iiz) (by kernel_rfl) fun a w s=> ?_
 refine t_gd (UF.eq (.pointer (some ⟨b,0,none⟩))) rfl s (by kernel_rfl) (ok_nilE (a:=⟨b,0,none⟩) iiz) (by kernel_rfl) fun a w s=> ?_
 refine t_gd (UF.eq (.pointer (some ⟨b,0,none⟩))) rfl s (by kernel_rfl) (ok_fldE (b:=b) (o:=0) 0 (by kernel_rfl) iiz) (by kernel_rfl) fun a w s=> ?_
 refine t_gd (UF.eq (.pointer (some ⟨b,0,none⟩))) rfl s (by kernel_rfl) (ok_fldE (b:=b) (o:=0) 0 (by kernel_rfl) iiz) (by kernel_rfl) fun a w s=> ?_
 refine t_gd (UF.eq (.pointer (some ⟨b,1,none⟩))) rfl s (by kernel_rfl) (ok_fldE (b:=b) (o:=0) 1 (by kernel_rfl) iiz) (by kernel_rfl) fun a w s=> ?_
 refine t_storeP (c:=0) (o:=1) (kk:=1) (CU.agg (fQA m (decide (k<0)) (k.natAbs / Nat.gcd k.natAbs d) d)) ((fNat (k.natAbs / Nat.gcd k.natAbs d)).toSF) rfl s (by kernel_rfl) rfl rfl iiz iiz (sp_abs) fun a w s=> ?_
 refine t_gd (UF.eq (.pointer (some ⟨b,0,none⟩))) rfl s (by kernel_rfl) (ok_nilE (a:=⟨b,0,none⟩) iiz) (by kernel_rfl) fun a w s=> ?_
 refine t_gd (UF.eq (.pointer (some ⟨b,0,none⟩))) rfl s (by kernel_rfl) (ok_fldE (b:=b) (o:=0) 0 (by kernel_rfl) iiz) (by kernel_rfl) fun a w s=> ?_
 refine t_gd (UF.eq (.pointer (some ⟨b,2,none⟩))) rfl s (by kernel_rfl) (ok_fldE (b:=b) (o:=0) 2 (by kernel_rfl) iiz) (by kernel_rfl) fun a w s=> ?_
 refine t_storeP (c:=0) (o:=2) (kk:=1) (CU.agg (fQN (mkRat k d))) ((fNat (d / Nat.gcd k.natAbs d)).toSF) rfl s (by kernel_rfl) rfl rfl iiz iiz (sp_den (mkRat_neg_iff k d hd0).symm (mkRat_num_abs k d hd0).symm (mkRat_den_eq k d hd0).symm) fun a w s=> ?_
 refine tail_end rfl (hQ _ _ ?_)
 refine wpIn_seq ?_
 replace s:=s.drop [2]
 refine region_go 1 ((2, .u (UF.eq (.bool true))):: []) hmix s (by kernel_rfl)
  (oc (ok_assign)<|obs_nil) fun a w5 s=> ?_
 refine tail_end rfl ?_
 refine wpIn_ret ?_
 exact StS.resS1 s (c:=0) (C:=CU.agg (fQN (mkRat k d))) rfl rfl rfl rfl iiz
theorem rnorm_any {W:World} {b m:Nat} {k:Int} {d:Nat} {cs:List Value} (hh:W.heap[b]?=some (.cells cs.toArray 160 (0,0))) (hc:QVp m k d (.agg cs.toArray) W) (hm:m≤2000) (hT:Tab W):Calls Tryz.prog 168 #[.pointer (some ⟨b,0,none⟩)] W (RetS W b 160 (CU.agg (fQN (mkRat k d))) (UF.eq (.bool (decide (0<d)))).toSF):=by
 rcases Nat.eq_zero_or_pos d with h|h
 ·have:=rnorm_z hh hc hm h
  rw [h,Rat.mkRat_zero,decide_eq_false (by omega)]
  exact this
 ·rw [decide_eq_true h]
  exact rnorm_p hh hc hm h hT
end Go.Proofs.Wd

namespace Go.Proofs.Wd
set_option maxRecDepth 100000
open Go.RowKit Lb
theorem rof_r {W:World} {m:Nat} {v:Value} {k:Int} {d:Nat} (h:QVp m k d v W) (hm:m≤2000) (hT:Tab W):Calls Tryz.prog 141 #[v] W (Ret W (SF.newBox W 160 (CU.agg (fQN (mkRat k d))))):=by
 refine run_st [(fQV m k d).toSF] Tryz.func141 rfl (by kernel_rfl) ⟨h,trivial⟩ fun a s=> ?_
 refine wpIn_seq ?_
 refine region_go 0 [] hmix s (by kernel_rfl)
  obs_nil fun a w1 s=> ?_
 refine t_box (CU.agg (fQV (m) (k) (d))) rfl s (by kernel_rfl) (fun v W h=>qv_box h) fun b1 a w s=> ?_
 refine t_set (UF.eq (.pointer none)) rfl s (by kernel_rfl) iiz fun a w s=> ?_
 refine tail_end rfl ?_
 refine wpIn_seq ?_
 refine region_go 2 ((4, .s ((fQV (m) (k) (d)).toSF))::(5, .u (fQV (m) (k) (d))):: []) hmix s (by kernel_rfl)
  (oc (ok_ldW (f:=fQV (m) (k) (d)) 3 (by kernel_rfl) (hz:=qv_len _ _ _))<|oc (ok_build1 (fun u W (hu:QVp m k d u W)=>b_numV hu))<|obs_nil) fun a w2 s=> ?_
 refine t_box (CU.agg (fQV (m) (k) (d))) rfl s (by kernel_rfl) (fun v W h=>qv_box h) fun b6 a w s=> ?_
 refine t_ren rfl s (by kernel_rfl) fun a w s=> ?_
 refine tail_end rfl ?_
 refine wpIn_seq ?_
 refine region_go 1 ((7, .u (UF.eq (.pointer (some ⟨b6,0,none⟩)))):: []) hmix s (by kernel_rfl)
  (oc (ok_move (fun _ _ _ h=>h.1))<|obs_nil) fun a w3 s=> ?_
 refine t_callS1 (c:=3) (CU.agg (fQN (mkRat k d))) (UF.any) rfl wide_wide en_168 s (by kernel_rfl) rfl rfl iiz (fun cs h1 h2=> ?_) fun a w s=> ?_
 ·exact (rnorm_any h1 h2 hm (hT.below s.gr.below)).mono fun e w' ⟨v,g1,_,g2⟩=>⟨v,g1,trivial,g2⟩
 refine tail_end rfl ?_
 refine wpIn_seq ?_
 replace s:=s.drop [2]
 refine region_go 2 ((9, .s (SF.pb b6 (CU.agg (fQN (mkRat k d))).cf))::(2, .u (UF.eq (.pointer (some ⟨b6,0,none⟩)))):: []) hmix s (by kernel_rfl)
  (oc ok_move<|oc (ok_assign (fun _ _ _ h=>h.1))<|obs_nil) fun a w4 s=> ?_
 refine tail_end rfl ?_
 refine wpIn_ret ?_
 exact StS.resNew s (t:=2) (c:=3) rfl rfl rfl iiz
theorem numadd_r {W:World} {b b' m m':Nat} {q q':Rat} {cs cs':List Value} (hh:W.heap[b]?=some (.cells cs.toArray 160 (0,0))) (hc:QNp q (.agg cs.toArray) W) (hh':W.heap[b']?=some (.cells cs'.toArray 160 (0,0))) (hc':QNp q' (.agg cs'.toArray) W) (hne:b'≠b) (hq:QB q m) (hq':QB q' m') (hm:m+m'+1≤2000) (hT:Tab W):Calls Tryz.prog 146 #[.pointer (some ⟨b,0,none⟩), .pointer (some ⟨b',0,none⟩)] W (RetS W b 160 (CU.agg (fQN (q+q'))) SF.any):=by
 have bk:Bd (((q).num*(((q').den:Nat):Int))+((q').num*(((q).den:Nat):Int))) (m+m'+1):=hq.num_add hq'
 rw [Rat.add_def']
 refine run_stS b [(0,UF.eq (.pointer (some ⟨b,0,none⟩))),(1,UF.eq (.pointer (some ⟨b',0,none⟩)))] [⟨0,160,CU.agg (fQN q),b,false⟩,⟨1,160,CU.agg (fQN q'),b',true⟩] Tryz.func146 rfl (by kernel_rfl) (fun x hx=>by simp at hx;rcases hx with rfl|rfl<;>exact ⟨by simp,rfl⟩) ⟨⟨cs,rfl, .inr (.inr rfl),hh,hc,qv_noLimb (qn_qv hc hq),fun y hy=>by simp at hy;subst hy;exact .inl hne⟩,⟨cs',rfl, .inl rfl,hh',hc',qv_noLimb (qn_qv hc' hq'),fun y hy=>by cases hy⟩,trivial⟩ (fun x hx=>by simp at hx;rcases hx with rfl|rfl<;>simp) fun a s=> ?_
 refine wpIn_seq ?_
 refine region_goP [0,1,6,14,19] 32 ((4, .s ((UF.eq (.pointer (some ⟨b,0,none⟩))).toSF))::(5, .s (SF.pb b (CU.agg (fQN (q))).cf))::(6, .s (SF.ptr (CU.agg (fQN (q))).cf))::(7, .s (SF.ptr ((CU.agg (fQN (q))).cf.at 0)))::(8, .s (SF.ptr ((CU.agg (fQN (q))).cf.at 0)))::(9, .s ((fNV ((q).num)).toSF))::(10, .s (SF.pb b' (CU.agg (fQN (q'))).cf))::(11, .s (SF.ptr (CU.agg (fQN (q'))).cf))::(12, .s (SF.ptr ((CU.agg (fQN (q'))).cf.at 0)))::(13, .s (SF.ptr ((CU.agg (fQN (q'))).cf.at 2)))::(14, .s ((fNat ((q').den)).toSF))::(15, .s ((fNV ((((q').den:Nat):Int))).toSF))::(16, .s (fISV ((m+m')) [(q).num,(((q').den:Nat):Int)]))::(17, .s ((fNV (((q).num*(((q').den:Nat):Int)))).toSF))::(18, .s (SF.pb b' (CU.agg (fQN (q'))).cf))::(19, .s (SF.ptr (CU.agg (fQN (q'))).cf))::(20, .s (SF.ptr ((CU.agg (fQN (q'))).cf.at 0)))::(21, .s (SF.ptr ((CU.agg (fQN (q'))).cf.at 0)))::(22, .s ((fNV ((q').num)).toSF))::(23, .s (SF.pb b (CU.agg (fQN (q))).cf))::(24, .s (SF.ptr (CU.agg (fQN (q))).cf))::(25, .s (SF.ptr ((CU.agg (fQN (q))).cf.at 0)))::(26, .s (SF.ptr ((CU.agg (fQN (q))).cf.at 2)))::(27, .s ((fNat ((q).den)).toSF))::(28, .s ((fNV ((((q).den:Nat):Int))).toSF))::(29, .s (fISV ((m+m')) [(q').num,(((q).den:Nat):Int)]))::(30, .s ((fNV (((q').num*(((q).den:Nat):Int)))).toSF))::(31, .s (fISV ((m+m')) [((q).num*(((q').den:Nat):Int)),((q').num*(((q).den:Nat):Int))]))::(32, .u (fNV ((((q).num*(((q').den:Nat):Int))+((q').num*(((q).den:Nat):Int))))))::(33, .s ((UF.eq (.pointer (some ⟨b,0,none⟩))).toSF))::(34, .s ((UF.eq (.pointer (some ⟨b,0,none⟩))).toSF))::(35, .u (UF.eq (.pointer (some ⟨b,0,none⟩)))):: []) hmix s (by kernel_rfl)
  (oc (ok_move (fun _ _ _ h=>h.1))<|oc ok_move<|oc (ok_nil (C:=(CU.agg (fQN (q))).cf))<|oc (ok_fld (C:=(CU.agg (fQN (q))).cf) 0 (by kernel_rfl))<|oc (ok_fldn (C:=(CU.agg (fQN (q))).cf) 0 0 (by kernel_rfl))<|oc (ok_ldA (C:=(CU.agg (fQN (q))).cf) (k:=0) 2 (by kernel_rfl) (h:=qn_num))<|oc ok_move<|oc (ok_nil (C:=(CU.agg (fQN (q'))).cf))<|oc (ok_fld (C:=(CU.agg (fQN (q'))).cf) 0 (by kernel_rfl))<|oc (ok_fldn (C:=(CU.agg (fQN (q'))).cf) 0 2 (by kernel_rfl))<|oc (ok_ld (C:=(CU.agg (fQN (q'))).cf) (k:=2) (by kernel_rfl) (h:=qn_den))<|oc (ok_call1 wide_wide en_164 (fun u0 W hb (h0:NatV W u0 ((q').den))=>whole_v h0))<|oc (ok_slice2 (fun u v W (hu:NV W u ((q).num)) (hv:NV W v ((((q').den:Nat):Int)))=>sl_int2 (NV.uv' hu (Bd.mono (hq).1 (m':=(m+m')) (by first|omega|decide))) (NV.uv' hv (Bd.mono (bd_nat hq'.2) (m':=(m+m')) (by first|omega|decide)))))<|oc (ok_call1 wide_wide en_163 (fun u0 W hb (h0:ISV W ((m+m')) u0 [(q).num,(((q').den:Nat):Int)])=>mul_w (k:=((q).num*(((q').den:Nat):Int))) h0 (by show (m+m')*2+(m+m')+1≤40000;omega) (by simp) (by simp)))<|oc ok_move<|oc (ok_nil (C:=(CU.agg (fQN (q'))).cf))<|oc (ok_fld (C:=(CU.agg (fQN (q'))).cf) 0 (by kernel_rfl))<|oc (ok_fldn (C:=(CU.agg (fQN (q'))).cf) 0 0 (by kernel_rfl))<|oc (ok_ldA (C:=(CU.agg (fQN (q'))).cf) (k:=0) 2 (by kernel_rfl) (h:=qn_num))<|oc ok_move<|oc (ok_nil (C:=(CU.agg (fQN (q))).cf))<|oc (ok_fld (C:=(CU.agg (fQN (q))).cf) 0 (by kernel_rfl))<|oc (ok_fldn (C:=(CU.agg (fQN (q))).cf) 0 2 (by kernel_rfl))<|oc (ok_ld (C:=(CU.agg (fQN (q))).cf) (k:=2) (by kernel_rfl) (h:=qn_den))<|oc (ok_call1 wide_wide en_164 (fun u0 W hb (h0:NatV W u0 ((q).den))=>whole_v h0))<|oc (ok_slice2 (fun u v W (hu:NV W u ((q').num)) (hv:NV W v ((((q).den:Nat):Int)))=>sl_int2 (NV.uv' hu (Bd.mono (hq').1 (m':=(m+m')) (by first|omega|decide))) (NV.uv' hv (Bd.mono (bd_nat hq.2) (m':=(m+m')) (by first|omega|decide)))))<|oc (ok_call1 wide_wide en_163 (fun u0 W hb (h0:ISV W ((m+m')) u0 [(q').num,(((q).den:Nat):Int)])=>mul_w (k:=((q').num*(((q).den:Nat):Int))) h0 (by show (m+m')*2+(m+m')+1≤40000;omega) (by simp) (by simp)))<|oc (ok_slice2 (fun u v W (hu:NV W u (((q).num*(((q').den:Nat):Int)))) (hv:NV W v (((q').num*(((q).den:Nat):Int))))=>sl_int2 (NV.uv' hu (Bd.mono (Bd.mul (hq).1 (bd_nat hq'.2)) (by omega))) (NV.uv' hv (Bd.mono (Bd.mul (hq').1 (bd_nat hq.2)) (by omega)))))<|oc (ok_call1 wide_wide en_171 (fun u0 W hb (h0:ISV W ((m+m')) u0 [((q).num*(((q').den:Nat):Int)),((q').num*(((q).den:Nat):Int))])=>add_w (k:=(((q).num*(((q').den:Nat):Int))+((q').num*(((q).den:Nat):Int)))) h0 (by omega) (by simp) (by simp)))<|oc (ok_nilE (a:=⟨b,0,none⟩) iiz)<|oc (ok_fldE (b:=b) (o:=0) 0 (by kernel_rfl) iiz)<|oc (ok_fldE (b:=b) (o:=0) 0 (by kernel_rfl) iiz)<|obs_nil) fun Q' hQ a w1 s=> ?_
 refine t_storeP (c:=0) (o:=0) (kk:=2) (CU.agg (fQK ((((q).num*(((q').den:Nat):Int))+((q').num*(((q).den:Nat):Int)))) ((q).den))) ((fNV ((((q).num*(((q').den:Nat):Int))+((q').num*(((q).den:Nat):Int))))).toSF) rfl s (by kernel_rfl) rfl rfl iiz iiz (sp_numK (k0:=q.num) (d:=q.den)) fun a w s=> ?_
 refine tail_end rfl (hQ _ _ ?_)
 refine wpIn_seq ?_
 refine region_goP [0,1,6] 15 ((36, .s ((UF.eq (.pointer (some ⟨b,0,none⟩))).toSF))::(37, .s (SF.pb b (CU.agg (fQK ((((q).num*(((q').den:Nat):Int))+((q').num*(((q).den:Nat):Int)))) ((q).den))).cf))::(38, .s (SF.ptr (CU.agg (fQK ((((q).num*(((q').den:Nat):Int))+((q').num*(((q).den:Nat):Int)))) ((q).den))).cf))::(39, .s (SF.ptr ((CU.agg (fQK ((((q).num*(((q').den:Nat):Int))+((q').num*(((q).den:Nat):Int)))) ((q).den))).cf.at 0)))::(40, .s (SF.ptr ((CU.agg (fQK ((((q).num*(((q').den:Nat):Int))+((q').num*(((q).den:Nat):Int)))) ((q).den))).cf.at 2)))::(41, .s ((fNat ((q).den)).toSF))::(42, .s (SF.pb b' (CU.agg (fQN (q'))).cf))::(43, .s (SF.ptr (CU.agg (fQN (q'))).cf))::(44, .s (SF.ptr ((CU.agg (fQN (q'))).cf.at 0)))::(45, .s (SF.ptr ((CU.agg (fQN (q'))).cf.at 2)))::(46, .s ((fNat ((q').den)).toSF))::(47, .u (fNat (((q).den)*((q').den))))::(48, .s ((UF.eq (.pointer (some ⟨b,0,none⟩))).toSF))::(49, .s ((UF.eq (.pointer (some ⟨b,0,none⟩))).toSF))::(50, .u (UF.eq (.pointer (some ⟨b,2,none⟩)))):: []) hmix s (by kernel_rfl)
  (oc (ok_move (fun _ _ _ h=>h.1))<|oc ok_move<|oc (ok_nil (C:=(CU.agg (fQK ((((q).num*(((q').den:Nat):Int))+((q').num*(((q).den:Nat):Int)))) ((q).den))).cf))<|oc (ok_fld (C:=(CU.agg (fQK ((((q).num*(((q').den:Nat):Int))+((q').num*(((q).den:Nat):Int)))) ((q).den))).cf) 0 (by kernel_rfl))<|oc (ok_fldn (C:=(CU.agg (fQK ((((q).num*(((q').den:Nat):Int))+((q').num*(((q).den:Nat):Int)))) ((q).den))).cf) 0 2 (by kernel_rfl))<|oc (ok_ld (C:=(CU.agg (fQK ((((q).num*(((q').den:Nat):Int))+((q').num*(((q).den:Nat):Int)))) ((q).den))).cf) (k:=2) (by kernel_rfl) (h:=qk_den))<|oc ok_move<|oc (ok_nil (C:=(CU.agg (fQN (q'))).cf))<|oc (ok_fld (C:=(CU.agg (fQN (q'))).cf) 0 (by kernel_rfl))<|oc (ok_fldn (C:=(CU.agg (fQN (q'))).cf) 0 2 (by kernel_rfl))<|oc (ok_ld (C:=(CU.agg (fQN (q'))).cf) (k:=2) (by kernel_rfl) (h:=qn_den))<|oc (ok_call2 wide_wide en_172 (fun u0 u1 W hb (h0:NatV W u0 ((q).den)) (h1:NatV W u1 ((q').den))=>mul_v (LV.mono (NatV.lv h0 hq.2) (m':=(m+m')) (by omega)) (LV.mono (NatV.lv h1 hq'.2) (m':=(m+m')) (by omega)) (by omega)))<|oc (ok_nilE (a:=⟨b,0,none⟩) iiz)<|oc (ok_fldE (b:=b) (o:=0) 0 (by kernel_rfl) iiz)<|oc (ok_fldE (b:=b) (o:=0) 2 (by kernel_rfl) iiz)<|obs_nil) fun Q' hQ a w2 s=> ?_
 refine t_storeP (c:=0) (o:=2) (kk:=1) (CU.agg (fQK ((((q).num*(((q').den:Nat):Int))+((q').num*(((q).den:Nat):Int)))) (((q).den)*((q').den)))) ((fNat (((q).den)*((q').den))).toSF) rfl s (by kernel_rfl) rfl rfl iiz iiz (sp_denK) fun a w s=> ?_
 refine tail_end rfl (hQ _ _ ?_)
 refine region_go 1 ((51, .u (UF.eq (.pointer (some ⟨b,0,none⟩)))):: []) hmix s (by kernel_rfl)
  (oc (ok_move (fun _ _ _ h=>h.1))<|obs_nil) fun a w3 s=> ?_
 refine t_callS1 (c:=0) (CU.agg (fQN (mkRat (((q).num*(((q').den:Nat):Int))+((q').num*(((q).den:Nat):Int))) ((q).den*(q').den)))) (UF.any) rfl wide_wide en_168 s (by kernel_rfl) rfl rfl iiz (fun cs h1 h2=> ?_) fun a w s=> ?_
 ·exact (rnorm_any (m:=m+m'+1) h1 (qk_qv h2 bk (Nat.lt_of_lt_of_le (hq.den_mul hq') (Nat.pow_le_pow_right BB_pos (by omega)))) (by omega) (hT.bls hh (qv_bool (qn_qv hc hq)) s.gr)).mono fun e w' ⟨v,g1,_,g2⟩=>⟨v,g1,trivial,g2⟩
 refine tail_end rfl ?_
 exact StS.resS0 s (c:=0) (C:=CU.agg (fQN (mkRat (((q).num*(((q').den:Nat):Int))+((q').num*(((q).den:Nat):Int))) ((q).den*(q').den)))) rfl rfl rfl rfl (fun _=>trivial)
theorem nummul_r {W:World} {b b' m m':Nat} {q q':Rat} {cs cs':List Value} (hh:W.heap[b]?=some (.cells cs.toArray 160 (0,0))) (hc:QNp q (.agg cs.toArray) W) (hh':W.heap[b']?=some (.cells cs'.toArray 160 (0,0))) (hc':QNp q' (.agg cs'.toArray) W) (hne:b'≠b) (hq:QB q m) (hq':QB q' m') (hm:m+m'+1≤2000) (hT:Tab W):Calls Tryz.prog 169 #[.pointer (some ⟨b,0,none⟩), .pointer (some ⟨b',0,none⟩)] W (RetS W b 160 (CU.agg (fQN (q*q'))) SF.any):=by
 have bk:Bd ((q).num*(q').num) (m+m'+1):=(hq.1.mul hq'.1).mono (by omega)
 rw [Rat.mul_def']
 refine run_stS b [(0,UF.eq (.pointer (some ⟨b,0,none⟩))),(1,UF.eq (.pointer (some ⟨b',0,none⟩)))] [⟨0,160,CU.agg (fQN q),b,false⟩,⟨1,160,CU.agg (fQN q'),b',true⟩] Tryz.func169 rfl (by kernel_rfl) (fun x hx=>by simp at hx;rcases hx with rfl|rfl<;>exact ⟨by simp,rfl⟩) ⟨⟨cs,rfl, .inr (.inr rfl),hh,hc,qv_noLimb (qn_qv hc hq),fun y hy=>by simp at hy;subst hy;exact .inl hne⟩,⟨cs',rfl, .inl rfl,hh',hc',qv_noLimb (qn_qv hc' hq'),fun y hy=>by cases hy⟩,trivial⟩ (fun x hx=>by simp at hx;rcases hx with rfl|rfl<;>simp) fun a s=> ?_
 refine wpIn_seq ?_
 refine region_goP [0,1,2,7,14,19] 28 ((4, .s ((UF.eq (.pointer (some ⟨b,0,none⟩))).toSF))::(5, .u (UF.eq (.pointer (some ⟨b,0,none⟩))))::(6, .s (SF.pb b (CU.agg (fQN (q))).cf))::(7, .s (SF.ptr (CU.agg (fQN (q))).cf))::(8, .s (SF.ptr ((CU.agg (fQN (q))).cf.at 0)))::(9, .s (SF.ptr ((CU.agg (fQN (q))).cf.at 0)))::(10, .s ((fNV ((q).num)).toSF))::(11, .s (SF.pb b' (CU.agg (fQN (q'))).cf))::(12, .s (SF.ptr (CU.agg (fQN (q'))).cf))::(13, .s (SF.ptr ((CU.agg (fQN (q'))).cf.at 0)))::(14, .s (SF.ptr ((CU.agg (fQN (q'))).cf.at 0)))::(15, .s ((fNV ((q').num)).toSF))::(16, .s (fISV ((m+m')) [(q).num,(q').num]))::(17, .u (fNV (((q).num*(q').num))))::(18, .s (SF.pb b (CU.agg (fQN (q))).cf))::(19, .s (SF.ptr (CU.agg (fQN (q))).cf))::(20, .s (SF.ptr ((CU.agg (fQN (q))).cf.at 0)))::(21, .s (SF.ptr ((CU.agg (fQN (q))).cf.at 2)))::(22, .s ((fNat ((q).den)).toSF))::(23, .s (SF.pb b' (CU.agg (fQN (q'))).cf))::(24, .s (SF.ptr (CU.agg (fQN (q'))).cf))::(25, .s (SF.ptr ((CU.agg (fQN (q'))).cf.at 0)))::(26, .s (SF.ptr ((CU.agg (fQN (q'))).cf.at 2)))::(27, .s ((fNat ((q').den)).toSF))::(28, .u (fNat (((q).den)*((q').den))))::(29, .s ((UF.eq (.pointer (some ⟨b,0,none⟩))).toSF))::(30, .s ((UF.eq (.pointer (some ⟨b,0,none⟩))).toSF))::(31, .u (UF.eq (.pointer (some ⟨b,0,none⟩)))):: []) hmix s (by kernel_rfl)
  (oc (ok_move (fun _ _ _ h=>h.1))<|oc (ok_move (fun _ _ _ h=>h.1))<|oc ok_move<|oc (ok_nil (C:=(CU.agg (fQN (q))).cf))<|oc (ok_fld (C:=(CU.agg (fQN (q))).cf) 0 (by kernel_rfl))<|oc (ok_fldn (C:=(CU.agg (fQN (q))).cf) 0 0 (by kernel_rfl))<|oc (ok_ldA (C:=(CU.agg (fQN (q))).cf) (k:=0) 2 (by kernel_rfl) (h:=qn_num))<|oc ok_move<|oc (ok_nil (C:=(CU.agg (fQN (q'))).cf))<|oc (ok_fld (C:=(CU.agg (fQN (q'))).cf) 0 (by kernel_rfl))<|oc (ok_fldn (C:=(CU.agg (fQN (q'))).cf) 0 0 (by kernel_rfl))<|oc (ok_ldA (C:=(CU.agg (fQN (q'))).cf) (k:=0) 2 (by kernel_rfl) (h:=qn_num))<|oc (ok_slice2 (fun u v W (hu:NV W u ((q).num)) (hv:NV W v ((q').num))=>sl_int2 (NV.uv' hu (Bd.mono (hq).1 (m':=(m+m')) (by first|omega|decide))) (NV.uv' hv (Bd.mono (hq').1 (m':=(m+m')) (by first|omega|decide)))))<|oc (ok_call1 wide_wide en_163 (fun u0 W hb (h0:ISV W ((m+m')) u0 [(q).num,(q').num])=>mul_w (k:=((q).num*(q').num)) h0 (by show (m+m')*2+(m+m')+1≤40000;omega) (by simp) (by simp)))<|oc ok_move<|oc (ok_nil (C:=(CU.agg (fQN (q))).cf))<|oc (ok_fld (C:=(CU.agg (fQN (q))).cf) 0 (by kernel_rfl))<|oc (ok_fldn (C:=(CU.agg (fQN (q))).cf) 0 2 (by kernel_rfl))<|oc (ok_ld (C:=(CU.agg (fQN (q))).cf) (k:=2) (by kernel_rfl) (h:=qn_den))<|oc ok_move<|oc (ok_nil (C:=(CU.agg (fQN (q'))).cf))<|oc (ok_fld (C:=(CU.agg (fQN (q'))).cf) 0 (by kernel_rfl))<|oc (ok_fldn (C:=(CU.agg (fQN (q'))).cf) 0 2 (by kernel_rfl))<|oc (ok_ld (C:=(CU.agg (fQN (q'))).cf) (k:=2) (by kernel_rfl) (h:=qn_den))<|oc (ok_call2 wide_wide en_172 (fun u0 u1 W hb (h0:NatV W u0 ((q).den)) (h1:NatV W u1 ((q').den))=>mul_v (LV.mono (NatV.lv h0 hq.2) (m':=(m+m')) (by omega)) (LV.mono (NatV.lv h1 hq'.2) (m':=(m+m')) (by omega)) (by omega)))<|oc (ok_nilE (a:=⟨b,0,none⟩) iiz)<|oc (ok_fldE (b:=b) (o:=0) 0 (by kernel_rfl) iiz)<|oc (ok_fldE (b:=b) (o:=0) 0 (by kernel_rfl) iiz)<|obs_nil) fun Q' hQ a w1 s=> ?_
 refine t_storeP (c:=0) (o:=0) (kk:=2) (CU.agg (fQK (((q).num*(q').num)) ((q).den))) ((fNV (((q).num*(q').num))).toSF) rfl s (by kernel_rfl) rfl rfl iiz iiz (sp_numK (k0:=q.num) (d:=q.den)) fun a w s=> ?_
 refine t_gd (UF.eq (.pointer (some ⟨b,0,none⟩))) rfl s (by kernel_rfl) (ok_nilE (a:=⟨b,0,none⟩) iiz) (by kernel_rfl) fun a w s=> ?_
 refine t_gd (UF.eq (.pointer (some ⟨b,0,none⟩))) rfl s (by kernel_rfl) (ok_fldE (b:=b) (o:=0) 0 (by kernel_rfl) iiz) (by kernel_rfl) fun a w s=> ?_
 refine t_gd (UF.eq (.pointer (some ⟨b,2,none⟩))) rfl s (by kernel_rfl) (ok_fldE (b:=b) (o:=0) 2 (by kernel_rfl) iiz) (by kernel_rfl) fun a w s=> ?_
 refine t_storeP (c:=0) (o:=2) (kk:=1) (CU.agg (fQK (((q).num*(q').num)) (((q).den)*((q').den)))) ((fNat (((q).den)*((q').den))).toSF) rfl s (by kernel_rfl) rfl rfl iiz iiz (sp_denK) fun a w s=> ?_
 refine tail_end rfl (hQ _ _ ?_)
 refine region_go 1 ((35, .u (UF.eq (.pointer (some ⟨b,0,none⟩)))):: []) hmix s (by kernel_rfl)
  (oc (ok_move (fun _ _ _ h=>h.1))<|obs_nil) fun a w2 s=> ?_
 refine t_callS1 (c:=0) (CU.agg (fQN (mkRat ((q).num*(q').num) ((q).den*(q').den)))) (UF.any) rfl wide_wide en_168 s (by kernel_rfl) rfl rfl iiz (fun cs h1 h2=> ?_) fun a w s=> ?_
 ·exact (rnorm_any (m:=m+m'+1) h1 (qk_qv h2 bk (Nat.lt_of_lt_of_le (hq.den_mul hq') (Nat.pow_le_pow_right BB_pos (by omega)))) (by omega) (hT.bls hh (qv_bool (qn_qv hc hq)) s.gr)).mono fun e w' ⟨v,g1,_,g2⟩=>⟨v,g1,trivial,g2⟩
 refine tail_end rfl ?_
 exact StS.resS0 s (c:=0) (C:=CU.agg (fQN (mkRat ((q).num*(q').num) ((q).den*(q').den)))) rfl rfl rfl rfl (fun _=>trivial)
end Go.Proofs.Wd

namespace Go.Proofs.Wd
set_option maxRecDepth 100000
open Go.RowKit Lb
theorem rof_q {W:World} {m:Nat} {v:Value} {q:Rat} (h:RVp m q v W) (hm:m≤2000) (hT:Tab W):Calls Tryz.prog 141 #[v] W (Ret W (SF.newBox W 160 (CU.agg (fQN q)))):=by
 obtain ⟨k,d,h1,rfl⟩:=h
 exact rof_r h1 hm hT
theorem rSign_q {W:World} {m:Nat} {v:Value} {q:Rat} (h:RVp m q v W) (hm:m≤2000) (hm0:0<m) (hT:Tab W):Calls Tryz.prog 108 #[v] W (Ret W (fI q.num.sign).toSF):=by
 have hq:QB q m:=h.qb hm0
 refine run_st [(fRV m q).toSF] Tryz.func108 rfl (by kernel_rfl) ⟨h,trivial⟩ fun a s=> ?_
 refine wpIn_seq ?_
 refine region_go 0 [] hmix s (by kernel_rfl)
  obs_nil fun a w1 s=> ?_
 refine t_box (CU.agg (fRV (m) (q))) rfl s (by kernel_rfl) (fun v W h=>rv_box h) fun b1 a w s=> ?_
 refine t_set (UF.eq (.int .i64 (0))) rfl s (by kernel_rfl) iiz fun a w s=> ?_
 refine tail_end rfl ?_
 refine wpIn_seq ?_
 replace s:=s.drop [2]
 refine region_go 8 ((3, .s ((fRV (m) (q)).toSF))::(4, .s (SF.newBox w 160 (CU.agg (fQN (q)))))::(5, .s (SF.ptr (CU.agg (fQN (q))).cf))::(6, .s (SF.ptr ((CU.agg (fQN (q))).cf.at 0)))::(7, .s (SF.ptr ((CU.agg (fQN (q))).cf.at 0)))::(8, .s ((fNV ((q).num)).toSF))::(9, .s ((UF.eq (.int .i64 (q.num.sign))).toSF))::(2, .u (UF.eq (.int .i64 (q.num.sign)))):: []) hmix s (by kernel_rfl)
  (oc (ok_ldW (f:=fRV (m) (q)) 3 (by kernel_rfl) (hz:=rv_len _ _))<|oc (ok_call1 wide_wide en_141 (fun u0 W hb (h0:RVp (m) (q) u0 W)=>(rof_q h0 (by omega) (hT.below (s.up hb))).mono (Ret.to (newBox_old hb.size))))<|oc (ok_nil (C:=(CU.agg (fQN (q))).cf) newBox_ptr)<|oc (ok_fld (C:=(CU.agg (fQN (q))).cf) 0 (by kernel_rfl))<|oc (ok_fldn (C:=(CU.agg (fQN (q))).cf) 0 0 (by kernel_rfl))<|oc (ok_ldA (C:=(CU.agg (fQN (q))).cf) (k:=0) 2 (by kernel_rfl) (h:=qn_num))<|oc (ok_call1 wide_wide en_140 (fun u0 W hb (h0:NV W u0 ((q).num))=>calls_eq (sign_v (NV.uv' h0 (hq).1) (by omega))))<|oc (ok_assign)<|obs_nil) fun a w2 s=> ?_
 refine tail_end rfl ?_
 refine wpIn_ret ?_
 exact StS.res1 s (t:=2) rfl iiz
theorem rNeg_q {W:World} {m:Nat} {v:Value} {q:Rat} (h:RVp m q v W) (hm:m≤2000) (hm0:0<m) (hT:Tab W):Calls Tryz.prog 165 #[v] W (Ret W (fQN (-q)).toSF):=by
 have hq:QB q m:=h.qb hm0
 refine run_st [(fRV m q).toSF] Tryz.func165 rfl (by kernel_rfl) ⟨h,trivial⟩ fun a s=> ?_
 refine wpIn_seq ?_
 refine region_go 0 [] hmix s (by kernel_rfl)
  obs_nil fun a w1 s=> ?_
 refine t_box (CU.agg (fRV (m) (q))) rfl s (by kernel_rfl) (fun v W h=>rv_box h) fun b1 a w s=> ?_
 refine t_alloc (CU.len 3) (cs:= [.bool false, .slice none 0 0, .slice none 0 0]) (by kernel_rfl) rfl s (by kernel_rfl) (fun W=>rfl) rfl fun b2 a w s=> ?_
 refine tail_end rfl ?_
 refine wpIn_seq ?_
 have so:=s.old;have sg:=s.gr
 refine region_goN 3 ((4, .s ((fRV (m) (q)).toSF))::(5, .s (SF.newBox w 160 (CU.agg (fQN (q)))))::(3, .s (SF.newBox w 160 (CU.agg (fQN (q))))):: []) hmix s (by kernel_rfl)
  (oc (ok_ldW (f:=fRV (m) (q)) 3 (by kernel_rfl) (hz:=rv_len _ _))<|oc (ok_call1 wide_wide en_141 (fun u0 W hb (h0:RVp (m) (q) u0 W)=>(rof_q h0 (by omega) (hT.below (s.up hb))).mono (Ret.to (newBox_old hb.size))))<|oc (ok_assign)<|obs_nil) fun a w2 s hr=> ?_
 obtain ⟨b3,_,s⟩:=s.adopt false 3 (hr (_,_) mz2) sg (fun y hy=> .inl (so y hy))
 refine tail_end rfl ?_
 refine wpIn_seq ?_
 refine region_go 10 ((6, .s ((UF.eq (.pointer (some ⟨b3,0,none⟩))).toSF))::(7, .s (SF.pb b3 (CU.agg (fQN (q))).cf))::(8, .s (SF.ptr (CU.agg (fQN (q))).cf))::(9, .s (SF.ptr ((CU.agg (fQN (q))).cf.at 0)))::(10, .s (SF.ptr ((CU.agg (fQN (q))).cf.at 0)))::(11, .s ((fNV ((q).num)).toSF))::(12, .u (fNV ((-(q).num))))::(13, .s ((UF.eq (.pointer (some ⟨b3,0,none⟩))).toSF))::(14, .s ((UF.eq (.pointer (some ⟨b3,0,none⟩))).toSF))::(15, .u (UF.eq (.pointer (some ⟨b3,0,none⟩)))):: []) hmix s (by kernel_rfl)
  (oc (ok_move (fun _ _ _ h=>h.1))<|oc ok_move<|oc (ok_nil (C:=(CU.agg (fQN (q))).cf))<|oc (ok_fld (C:=(CU.agg (fQN (q))).cf) 0 (by kernel_rfl))<|oc (ok_fldn (C:=(CU.agg (fQN (q))).cf) 0 0 (by kernel_rfl))<|oc (ok_ldA (C:=(CU.agg (fQN (q))).cf) (k:=0) 2 (by kernel_rfl) (h:=qn_num))<|oc (ok_call1 wide_wide en_184 (fun u0 W hb (h0:NV W u0 ((q).num))=>neg_v (NV.uv' h0 (hq).1) (by omega)))<|oc (ok_nilE (a:=⟨b3,0,none⟩) iiz)<|oc (ok_fldE (b:=b3) (o:=0) 0 (by kernel_rfl) iiz)<|oc (ok_fldE (b:=b3) (o:=0) 0 (by kernel_rfl) iiz)<|obs_nil) fun a w3 s=> ?_
 refine t_storeP (c:=3) (o:=0) (kk:=2) (CU.agg (fQN (-q))) ((fNV ((-(q).num))).toSF) rfl s (by kernel_rfl) rfl rfl iiz iiz (sp_numK (k0:=q.num) (d:=q.den)) fun a w s=> ?_
 refine tail_end rfl ?_
 refine wpIn_seq ?_
 refine region_go 4 ((16, .s (SF.pb b3 (CU.agg (fQN (-q))).cf))::(17, .s (SF.ptr (CU.agg (fQN (-q))).cf))::(18, .s (SF.ptr ((CU.agg (fQN (-q))).cf.at 0)))::(19, .u (fQN (-q))):: []) hmix s (by kernel_rfl)
  (oc ok_move<|oc (ok_nil (C:=(CU.agg (fQN (-q))).cf))<|oc (ok_fld (C:=(CU.agg (fQN (-q))).cf) 0 (by kernel_rfl))<|oc (ok_ldA (C:=(CU.agg (fQN (-q))).cf) (k:=0) 3 (by kernel_rfl) (h:=qn_whole))<|obs_nil) fun a w4 s=> ?_
 refine t_store (CU.agg (fQN (-q))) ((fQN (-q)).toSF) rfl s (by kernel_rfl) rfl rfl rfl iiz iiz (qn_store) fun a w s=> ?_
 refine tail_end rfl ?_
 refine wpIn_ret ?_
 exact StS.resC s (CU.agg (fQN (-q))) rfl (by kernel_rfl) rfl rfl (qn_len _) (fun cs W h=>h)
end Go.Proofs.Wd

namespace Go.Proofs.Wd
set_option maxRecDepth 100000
set_option maxHeartbeats 1000000
open Go.RowKit Lb
attribute [local go_sem] Oper.semAt_some wide_fn wide_depth
structure QRd (m:Nat) (w:World) (A:Option Addr) (n:Nat) (qs:List Rat):Prop where
 len:qs.length=n
 cells: ∀i,i<n→ ∃b o c0 c1 c2 q,A=some ⟨b,o,none⟩∧w.cell? ⟨b,o+i*3,none⟩=some c0∧w.cell? ⟨b,o+i*3+1,none⟩=some c1∧w.cell? ⟨b,o+i*3+2,none⟩=some c2∧qs[i]?=some q∧RVp m q (.agg #[c0,c1,c2]) w
theorem RVp.keep {m:Nat} {q:Rat} {v:Value} {w w':World} (h:RVp m q v w) (hk: ∀p:Addr,p.block<w.heap.size→w'.cell? p=w.cell? p):RVp m q v w':=by
 obtain ⟨k,d,⟨b,s,t,e,⟨sg,A,n,c,l,e1,h1,h2⟩,A',n',c',l',e2,h1',h2'⟩,h3⟩:=h
 exact ⟨k,d,⟨b,s,t,e,⟨sg,A,n,c,l,e1,h1.keep hk,h2⟩,A',n',c',l',e2,h1'.keep hk,h2'⟩,h3⟩
theorem QRd.keep {m:Nat} {w w':World} {A:Option Addr} {n:Nat} {qs:List Rat} (h:QRd m w A n qs) (hk: ∀p:Addr,p.block<w.heap.size→w'.cell? p=w.cell? p):QRd m w' A n qs:=
 ⟨h.len,fun i hi=>by
  obtain ⟨b,o,c0,c1,c2,q,e,g0,g1,g2,h1,h2⟩:=h.cells i hi
  exact ⟨b,o,c0,c1,c2,q,e,(hk _ (World.block_lt_of_cell? w _ g0)).trans g0,(hk _ (World.block_lt_of_cell? w _ g1)).trans g1,(hk _ (World.block_lt_of_cell? w _ g2)).trans g2,h1,h2.keep hk⟩⟩
theorem QRd.below {m:Nat} {w w':World} {A:Option Addr} {n:Nat} {qs:List Rat} (h:QRd m w A n qs) (hb:Below w.heap.size w w'):QRd m w' A n qs:=h.keep fun _ hp=>hb.cell hp
theorem RVp.below {m:Nat} {q:Rat} {v:Value} {w w':World} (h:RVp m q v w) (hb:Below w.heap.size w w'):RVp m q v w':=h.keep fun _ hp=>hb.cell hp
def qAt (qs:List Rat) (k:Nat):Rat:=(qs[k]?).getD 0
def NumQ (W:World) (B:Nat) (q:Rat):Prop:= ∃cs:List Value,W.heap[B]?=some (.cells cs.toArray 160 (0,0))∧QNp q (.agg cs.toArray) W
theorem QNp.keepU {q:Rat} {v:Value} {w w':World} (h:QNp q v w) (hk:KeepU w w'):QNp q v w':=(fQN q).us _ _ _ h hk
def AllQ (N0:Nat) (qs:List Rat) (k:Nat) (xs:Array Value) (W:World):Prop:= ∃B,xs=#[.pointer (some ⟨B,0,none⟩)]∧N0≤B∧NumQ W B (qAt qs k)
theorem qall_any (A:Option Addr) (n c:Nat) (w:World):
  Calls Tryz.prog 145 #[.slice A n c] w fun e w'=>e= .returned (.func (.func 170) #[] #[.pointer (some ⟨w.heap.size,0,none⟩)])∧w'=w.alloc (.cells #[.slice A n c] 110):=by
 go_enter Tryz.func145,Tryz.ntmps145
 go_wp2
 go_ret
 exact ⟨rfl,rfl⟩
theorem rof_n {W:World} {m:Nat} {c0 c1 c2:Value} {q:Rat} (h:RVp m q (.agg #[c0,c1,c2]) W) (hm:m≤2000) (hT:Tab W):Calls Tryz.prog 141 #[.agg #[c0,c1,c2]] W fun e w'=> ∃B,e= .returned (.pointer (some ⟨B,0,none⟩))∧W.heap.size≤B∧NumQ w' B q∧Below W.heap.size W w':=
 (rof_q h hm hT).mono fun _ _ ⟨_,e1,⟨B,cs,e2,h1,h2,h3,_⟩,hb⟩=>⟨B,by rw [e1,e2],h1,⟨cs,h2,h3⟩,hb⟩
theorem qall1_iter (m:Nat) (hm:m≤2000) (A:Option Addr) (n c:Nat) (qs:List Rat) (b1:Nat) (w w0:World) (h:QRd m w A n qs) (hT:Tab w) (hw0:Below w.heap.size w w0) (hn:n≤c) (hc:c≤9223372036854775807)
  (hc1:w0.cell? ⟨b1,0,none⟩=some (.slice A n c)) {S:Nat→Prop} (hS: ∀b,S b→b<w0.heap.size) (_hS1:S b1) (hSA: ∀b,b<w.heap.size→S b):
  IterE Tryz.prog 170 #[.pointer (some ⟨b1,0,none⟩)] (AllQ w0.heap.size qs) n (KeepZ S) Mk (fun _=>True) w0:=by
 intro lp J W hW hJ hY h0
 have hl1:=lt_of_cell hc1
 have hw1:=(hW.cell (p:=⟨b1,0,none⟩) hl1).trans hc1
 refine calls_in Tryz.func170 rfl ?_
 simp only [Tryz.ntmps170,List.size_toArray,List.length_cons,List.length_nil,Nat.reduceAdd,Nat.reduceSub,Array.replicate_succ,Array.replicate_zero,List.push_toArray,List.append_toArray,List.nil_append,List.cons_append]
 gi_wp2
 gi_loopw [7] (fun i wr=> ∃k:Nat,k≤n∧i= .int .i64 k∧J k wr∧KeepS S w0 wr∧w0.heap.size≤wr.heap.size) (fun i _=>n - (intOf i).toNat)
 case atStart=>exact ⟨0,Nat.zero_le _,rfl,h0,KeepS.of_below hW hS,hW.size⟩
 case round=>
  obtain ⟨k,hk,rfl,hj,hb,hz⟩:=hrel
  by_cases hkn:k<n
  ·have hkeep: ∀p:Addr,p.block<w.heap.size→wr.cell? p=w.cell? p:=fun p hp=>(hb.cell (hSA _ hp)).trans (hw0.cell hp)
   obtain ⟨b,o,c0,c1,c2,q,rfl,p0,p1,p2,hi,hr⟩:=(h.keep (w':=wr) hkeep).cells k hkn
   have hTr:Tab wr:=fun j hj=>(hkeep ⟨0,j,none⟩ (lt_of_cell (hT j hj))).trans (hT j hj)
   have hid1:qAt qs k=q:=by simp [qAt,hi]
   have hjk:=hJ k wr
   have hHI:=hid hi
   clear hi
   obtain ⟨sg,A1,n1,d1,A2,n2,d2,rfl,rfl,rfl⟩: ∃sg A1 n1 d1 A2 n2 d2,c0= .bool sg∧c1= .slice A1 n1 d1∧c2= .slice A2 n2 d2:=by
    obtain ⟨k',d',hq,_⟩:=hr
    obtain ⟨sg,A1,n1,d1,A2,n2,d2,e⟩:=qv_form hq
    have:=congrArg Array.toList (agg_inj e)
    simp at this
    exact ⟨sg,A1,n1,d1,A2,n2,d2,this.1,this.2.1,this.2.2⟩
   gi_wp2_with (first|(gi_at_call 141;refine CallsIn.mono (callsIn_wide.2 (rof_n (hr.below (alloc_b _ _)) hm (hTr.below (alloc_b _ _)))) ?_;rintro e w2 ⟨B2,rfl,hB2,hn2,hb2⟩;have hmk:Mk wr w2:=((Below.refl _ wr).alloc (Nat.le_refl _) _).trans (hb2.mono (by simp));obtain ⟨fn,tmps,assign,body,hy,hR⟩:=hY k w2 #[.pointer (some ⟨B2,0,none⟩)] hkn (hjk _ hj hmk) ⟨B2,rfl,Nat.le_trans hz (Nat.le_trans (by simp) hB2),by rw [hid1];exact hn2⟩)|(refine hR.mono ?_;rintro e W3 ⟨rfl,hJ3,hk3⟩))
   refine ⟨⟨k+1,by omega,rfl,hJ3,(hb.trans (KeepS.of_below hmk fun b hb=>Nat.lt_of_lt_of_le (hS b hb) hz)).trans hk3.1,Nat.le_trans hz (Nat.le_trans hmk.size hk3.2)⟩, ?_⟩
   simp [intOf]
   omega
  ·obtain rfl:k=n:=by omega
   gi_wp2
   go_end0
   exact ⟨⟨_,rfl⟩,hj,trivial⟩
def qsum (qs:List Rat):Nat→Rat
 |0=>0
 |k+1=>qsum qs k+qAt qs k
def qprod (qs:List Rat):Nat→Rat
 |0=>1
 |k+1=>qprod qs k*qAt qs k
def SaddQ (w:World) (B0 P:Nat) (f:Nat→Rat) (k:Nat) (W:World):Prop:=
 NumQ W B0 (f k)∧Boxed W P 161 (.pointer (some ⟨B0,0,none⟩))∧BoxN W w.heap.size 29 #[.bool false, .slice none 0 0, .slice none 0 0]∧Below w.heap.size w W∧P+2≤W.heap.size∧w.heap.size<B0
theorem NumQ.abide {W W':World} {B C:Nat} {q:Rat} {row:Option Nat} (h:NumQ W B q) (hg:W.grownBy W' row) (hr: ∀r,row=some r→C≤r∧ ∃o,W.heap[r]?=some o∧o.isCells=false):NumQ W' B q:=by
 obtain ⟨cs,h1,h2⟩:=h
 have hk:KeepU W W':=fun p x hp=>cell_abide hp hg hr
 refine ⟨cs,(hg.block _ (Array.getElem?_eq_some_iff.1 h1).1 fun e=> ?_).trans h1,h2.keepU hk⟩
 obtain ⟨_,o,ho,hc⟩:=hr _ e.symm
 rw [h1] at ho
 cases ho
 cases hc
theorem saddQ_own (w:World) (B0 P:Nat) (f:Nat→Rat) {C:Nat} (hC:w.heap.size≤C):OwnFrom C (SaddQ w B0 P f):=by
 rintro k W W' row ⟨h1,h2,h3,h4,h5,h6⟩ hg hr
 exact ⟨h1.abide hg hr,boxed_abide h2 hg hr,h3.abide hg hr,below_abide h4 hg (Nat.le_refl _) hC hr,Nat.le_trans h5 hg.size,h6⟩
theorem rAdd_any (m M:Nat) (A:Option Addr) (n c:Nat) (qs:List Rat) (w:World) (h:QRd m w A n qs) (hn:n≤c) (hc:c≤9223372036854775807) (hm:m≤2000) (hm0:0<m) (hM:M+m+1≤2000) (hp: ∀k,k≤n→QB (qsum qs k) M) (hT:Tab w):
  Calls Tryz.prog 112 #[.slice A n c] w (Ret w (fQN (qsum qs n)).toSF):=by
 refine calls_marks Tryz.func112 rfl ?_
 simp only [Tryz.ntmps112,List.size_toArray,List.length_cons,List.length_nil,Nat.reduceAdd,Nat.reduceSub,Array.replicate_succ,Array.replicate_zero,List.push_toArray,List.append_toArray,List.nil_append,List.cons_append]
 go_wp2_with (first|(go_at_call 135;refine (rof_v 0 (by decide)).mono ?_;rintro e w1 ⟨v1,rfl,hv1,hb1⟩;obtain ⟨A1,n1,c1,A2,n2,c2,rfl⟩:=qn_form hv1)|(go_at_call 145;refine (qall_any A n c _).mono ?_;rintro e w3 ⟨rfl,rfl⟩))
 have hv2:QNp 0 (.agg #[.bool false, .slice A1 n1 c1, .slice A2 n2 c2]) w1:=hv1
 obtain ⟨W0,hW0⟩: ∃W0,(((w1.alloc (.cells #[.bool false, .slice A1 n1 c1, .slice A2 n2 c2] 160)).alloc (.cells #[.pointer (some ⟨w1.heap.size,0,none⟩)] 161)).alloc (.cells #[.slice A n c] 110))=W0:=⟨_,rfl⟩
 have hsz:W0.heap.size=w1.heap.size+3:=by rw [←hW0];simp
 have hbw1:Below w.heap.size w w1:=((Below.refl _ w).alloc (Nat.le_refl _) _).trans (hb1.mono (by simp))
 have hsz1:w.heap.size<w1.heap.size:=Nat.lt_of_lt_of_le (by simp) hb1.size
 have hb01:Below w1.heap.size w1 W0:=by rw [←hW0];exact (((Below.refl _ w1).alloc (Nat.le_refl _) _).alloc (by simp) _).alloc (by simp;omega) _
 have hB1:Below w.heap.size w W0:=hbw1.trans (hb01.mono hbw1.size)
 have x0:NumQ W0 w1.heap.size 0:=⟨[_,_,_],(by rw [←hW0];exact ((BoxN.new w1 _ #[.bool false, .slice A1 n1 c1, .slice A2 n2 c2]).alloc _).alloc _),hv2.keepU (keepU_below hb01)⟩
 have x1:Boxed W0 (w1.heap.size+1) 161 (.pointer (some ⟨w1.heap.size,0,none⟩)):=by rw [←hW0];exact (boxed_at _ _ _ (by simp)).alloc _
 have x2:Boxed W0 (w1.heap.size+1+1) 110 (.slice A n c):=by rw [←hW0];exact boxed_at _ _ _ (by simp)
 have x3:BoxN W0 w.heap.size 29 #[.bool false, .slice none 0 0, .slice none 0 0]:=(BoxN.kept (BoxN.kept (BoxN.new w _ _) hb1) hb01)
 rw [hW0]
 clear hW0
 have hSb: ∀b,(b<w.heap.size∨b=w1.heap.size+1+1)→b<W0.heap.size:=fun b hb=>by have:=hbw1.size;omega
 refine wp_rangeE (gf:=170) rfl (enters_of Tryz.func170 (by kernel_rfl) rfl) (qall1_iter m hm A n c qs (w1.heap.size+1+1) w W0 h hT hB1 hn hc x2.cell (S:=fun b=>b<w.heap.size∨b=w1.heap.size+1+1) hSb (.inr rfl) (fun b hb=> .inl hb)) ?hE ?hps KeepZ.trans (keepZ_b hSb)
  (SaddQ w w1.heap.size (w1.heap.size+1) (qsum qs)) (saddQ_own w _ _ _ hB1.size) (abide_mk (saddQ_own w _ _ _ (Nat.le_refl _))) Mk.keeps (fun _ _ _ _ _ _ _ _=>trivial) ⟨x0,x1,x3,hB1,by omega,hsz1⟩
  (fun xs=>{ tmps:=#[.slice A n c,undef, .pointer (some ⟨w.heap.size,0,none⟩), .pointer (some ⟨w1.heap.size+1,0,none⟩),xs.getD 0 undef, .agg #[.bool false, .slice A1 n1 c1, .slice A2 n2 c2], .agg #[.bool false, .slice A1 n1 c1, .slice A2 n2 c2], .pointer (some ⟨w1.heap.size,0,none⟩), .slice A n c, .func (.func 170) #[] #[.pointer (some ⟨w1.heap.size+1+1,0,none⟩)],xs.getD 0 undef,undef,undef,undef,undef,undef,undef,undef],defers:= [] }) ?assign ?body ?done
 case hE=>
  rintro k xs W l o o' ⟨B,rfl,h1,h2⟩ ho hc
  exact ⟨B,rfl,h1,h2.abide (C:=0) (grownBy_putObj' W l o') (fun r e=>by cases e;exact ⟨Nat.zero_le _,o,ho,hc⟩)⟩
 case hps=>
  rintro k xs W ⟨B,rfl,_⟩
  rfl
 case assign=>
  rintro lp k xs W K ⟨B,rfl,h1,h2⟩ hK
  gi_wp2
  exact hK
 case body=>
  rintro lp k xs W hk ⟨h1,h2,h3,h4,h5,h6⟩ ⟨B,rfl,hB,hnb⟩
  have hc2:=h2.cell
  have hne:B≠w1.heap.size:=by omega
  have hbd:=hp k (Nat.le_of_lt hk)
  have hbd2:QB (qAt qs k) m:=by
   obtain ⟨_,_,_,_,_,q,_,_,_,_,e,hr⟩:=h.cells k hk
   rw [show qAt qs k=q from by simp [qAt,e]]
   exact hr.qb hm0
  have hTW:Tab W:=hT.below h4
  gi_wp2_with (gi_at_call 146;refine CallsIn.mono (callsIn_wide.2 (by
   obtain ⟨cs,g1,g2⟩:=h1
   obtain ⟨cs',g1',g2'⟩:=hnb
   exact numadd_r g1 g2 g1' g2' hne hbd hbd2 (by omega) hTW)) ?_;rintro e w3 ⟨u,rfl,_,hg3,cs3,hh3,hc3,_⟩)
  refine ⟨(KeepsOthers.of_grownBy hg3 (fun j o e ho=>by cases e;obtain ⟨cs,g1,_⟩:=h1;rw [g1] at ho;cases ho;rfl)).from _,⟨(KeepS.refl _ _).grown hg3 (fun b hb=>⟨by have:=h4.size;rcases hb with hb|hb<;>omega,fun e=>by have:=Option.some.inj e;omega⟩),hg3.size⟩,⟨cs3,hh3,hc3⟩,h2.kept hg3 (fun e=>by have:=Option.some.inj e;omega),(hg3.block _ h3.lt (fun e=>by have:=Option.some.inj e;omega)).trans h3,below_grown h4 hg3 h4.size (by omega),Nat.le_trans h5 hg3.size,h6⟩
 case done=>
  rintro D W hD ⟨h1,h2,h3,h4,h5,h6⟩ _ hd
  obtain ⟨cs,hh,hq⟩:=h1
  obtain ⟨A3,n3,c3,A4,n4,c4,ecs⟩:=qn_form hq
  have ecs:=congrArg Array.toList (agg_inj ecs)
  simp at ecs
  subst ecs
  obtain ⟨g0,g1,g2⟩:W.cell? ⟨w1.heap.size,0,none⟩=some (.bool (decide ((qsum qs n).num<0)))∧W.cell? ⟨w1.heap.size,0+1,none⟩=some (.slice A3 n3 c3)∧W.cell? ⟨w1.heap.size,0+2,none⟩=some (.slice A4 n4 c4):=⟨mem_block hh 0 _ rfl,mem_block hh 1 _ rfl,mem_block hh 2 _ rfl⟩
  simp only [Nat.zero_add] at g1 g2
  have hc2:=h2.cell
  have q0:W.cell? ⟨w.heap.size,0,none⟩=some (.bool false):=h3.cell 0
  have q1:W.cell? ⟨w.heap.size,1,none⟩=some (.slice none 0 0):=h3.cell 1
  have q2:W.cell? ⟨w.heap.size,2,none⟩=some (.slice none 0 0):=h3.cell 2
  have q3:=h3.frozen 0;have q4:=h3.frozen 1;have q5:=h3.frozen 2
  go_wp2
  have hb5:BoxN (((W.setCell ⟨w.heap.size,0,none⟩ (.bool (decide ((qsum qs n).num<0)))).setCell ⟨w.heap.size,1,none⟩ (.slice A3 n3 c3)).setCell ⟨w.heap.size,2,none⟩ (.slice A4 n4 c4)) w.heap.size 29 #[.bool (decide ((qsum qs n).num<0)), .slice A3 n3 c3, .slice A4 n4 c4]:=((h3.set 0 _).set 1 _).set 2 _
  have hM2:Marks w.heap.size (((W.setCell ⟨w.heap.size,0,none⟩ (.bool (decide ((qsum qs n).num<0)))).setCell ⟨w.heap.size,1,none⟩ (.slice A3 n3 c3)).setCell ⟨w.heap.size,2,none⟩ (.slice A4 n4 c4)) [mark D] [D]:=((Marks.nil w.heap.size W).more (D:=D) (by simp) (by have:=hB1.size;omega) hd).others (((KeepsOthers.setCell _ _ _).trans (KeepsOthers.setCell _ _ _)).trans (KeepsOthers.setCell _ _ _))
  have hrow: ∀(W':World) (i:Nat) (v u:Value),W'.cell? ⟨w.heap.size,i,none⟩=some u→noLimb u=true→KeepU W' (W'.setCell ⟨w.heap.size,i,none⟩ v):=fun W' i v u hu hn p x hp=>(World.cell?_setCell_other _ _ _ _ (fun e=>by rw [←e] at hp;rw [hu] at hp;cases hp;cases hn)).trans hp
  have hk3:KeepU W (((W.setCell ⟨w.heap.size,0,none⟩ (.bool (decide ((qsum qs n).num<0)))).setCell ⟨w.heap.size,1,none⟩ (.slice A3 n3 c3)).setCell ⟨w.heap.size,2,none⟩ (.slice A4 n4 c4)):=((hrow _ _ _ _ q0 rfl).trans (hrow _ _ _ _ ((h3.set 0 _).cell 1) rfl)).trans (hrow _ _ _ _ (((h3.set 0 _).set 1 _).cell 2) rfl)
  have hq3:=hq.keepU hk3
  have hb3:Below w.heap.size w (((W.setCell ⟨w.heap.size,0,none⟩ (.bool (decide ((qsum qs n).num<0)))).setCell ⟨w.heap.size,1,none⟩ (.slice A3 n3 c3)).setCell ⟨w.heap.size,2,none⟩ (.slice A4 n4 c4)):=((h4.setCell (Nat.le_refl _) _).setCell (Nat.le_refl _) _).setCell (Nat.le_refl _) _
  generalize ((W.setCell ⟨w.heap.size,0,none⟩ (.bool (decide ((qsum qs n).num<0)))).setCell ⟨w.heap.size,1,none⟩ (.slice A3 n3 c3)).setCell ⟨w.heap.size,2,none⟩ (.slice A4 n4 c4)=W9 at*
  refine leaves_marks _ (v:= .agg #[.bool (decide ((qsum qs n).num<0)), .slice A3 n3 c3, .slice A4 n4 c4]) (fun w' ho'=> ?_) [D] _ _ hM2 (Oth.refl _ _) ?_
  ·have h7:=hb5.oth ho'
   have:=run_cell (P:=Tryz.prog) (w:=w') (t:=29) (k:=3) (by kernel_rfl) (vs:= [.bool (decide ((qsum qs n).num<0)), .slice A3 n3 c3, .slice A4 n4 c4]) rfl h7
   simp [results,Tryz.results112,asAddr,this]
  ·intro w' ho
   exact ⟨_,rfl,hq3.keepU (fun p x hp=>(ho.cell p).trans hp),below_oth hb3 ho (Nat.le_refl _)⟩
theorem rMul_any (m M:Nat) (A:Option Addr) (n c:Nat) (qs:List Rat) (w:World) (h:QRd m w A n qs) (hn:n≤c) (hc:c≤9223372036854775807) (hm:m≤2000) (hm0:0<m) (hM:M+m+1≤2000) (hp: ∀k,k≤n→QB (qprod qs k) M) (hT:Tab w):
  Calls Tryz.prog 142 #[.slice A n c] w (Ret w (fQN (qprod qs n)).toSF):=by
 refine calls_marks Tryz.func142 rfl ?_
 simp only [Tryz.ntmps142,List.size_toArray,List.length_cons,List.length_nil,Nat.reduceAdd,Nat.reduceSub,Array.replicate_succ,Array.replicate_zero,List.push_toArray,List.append_toArray,List.nil_append,List.cons_append]
 go_wp2_with (first|(go_at_call 135;refine (rof_v 1 (by decide)).mono ?_;rintro e w1 ⟨v1,rfl,hv1,hb1⟩;obtain ⟨A1,n1,c1,A2,n2,c2,rfl⟩:=qn_form hv1)|(go_at_call 145;refine (qall_any A n c _).mono ?_;rintro e w3 ⟨rfl,rfl⟩))
 have hv2:QNp 1 (.agg #[.bool false, .slice A1 n1 c1, .slice A2 n2 c2]) w1:=hv1
 obtain ⟨W0,hW0⟩: ∃W0,(((w1.alloc (.cells #[.bool false, .slice A1 n1 c1, .slice A2 n2 c2] 160)).alloc (.cells #[.pointer (some ⟨w1.heap.size,0,none⟩)] 161)).alloc (.cells #[.slice A n c] 110))=W0:=⟨_,rfl⟩
 have hsz:W0.heap.size=w1.heap.size+3:=by rw [←hW0];simp
 have hbw1:Below w.heap.size w w1:=((Below.refl _ w).alloc (Nat.le_refl _) _).trans (hb1.mono (by simp))
 have hsz1:w.heap.size<w1.heap.size:=Nat.lt_of_lt_of_le (by simp) hb1.size
 have hb01:Below w1.heap.size w1 W0:=by rw [←hW0];exact (((Below.refl _ w1).alloc (Nat.le_refl _) _).alloc (by simp) _).alloc (by simp;omega) _
 have hB1:Below w.heap.size w W0:=hbw1.trans (hb01.mono hbw1.size)
 have x0:NumQ W0 w1.heap.size 1:=⟨[_,_,_],(by rw [←hW0];exact ((BoxN.new w1 _ #[.bool false, .slice A1 n1 c1, .slice A2 n2 c2]).alloc _).alloc _),hv2.keepU (keepU_below hb01)⟩
 have x1:Boxed W0 (w1.heap.size+1) 161 (.pointer (some ⟨w1.heap.size,0,none⟩)):=by rw [←hW0];exact (boxed_at _ _ _ (by simp)).alloc _
 have x2:Boxed W0 (w1.heap.size+1+1) 110 (.slice A n c):=by rw [←hW0];exact boxed_at _ _ _ (by simp)
 have x3:BoxN W0 w.heap.size 29 #[.bool false, .slice none 0 0, .slice none 0 0]:=(BoxN.kept (BoxN.kept (BoxN.new w _ _) hb1) hb01)
 rw [hW0]
 clear hW0
 have hSb: ∀b,(b<w.heap.size∨b=w1.heap.size+1+1)→b<W0.heap.size:=fun b hb=>by have:=hbw1.size;omega
 refine wp_rangeE (gf:=170) rfl (enters_of Tryz.func170 (by kernel_rfl) rfl) (qall1_iter m hm A n c qs (w1.heap.size+1+1) w W0 h hT hB1 hn hc x2.cell (S:=fun b=>b<w.heap.size∨b=w1.heap.size+1+1) hSb (.inr rfl) (fun b hb=> .inl hb)) ?hE ?hps KeepZ.trans (keepZ_b hSb)
  (SaddQ w w1.heap.size (w1.heap.size+1) (qprod qs)) (saddQ_own w _ _ _ hB1.size) (abide_mk (saddQ_own w _ _ _ (Nat.le_refl _))) Mk.keeps (fun _ _ _ _ _ _ _ _=>trivial) ⟨x0,x1,x3,hB1,by omega,hsz1⟩
  (fun xs=>{ tmps:=#[.slice A n c,undef, .pointer (some ⟨w.heap.size,0,none⟩), .pointer (some ⟨w1.heap.size+1,0,none⟩),xs.getD 0 undef, .agg #[.bool false, .slice A1 n1 c1, .slice A2 n2 c2], .agg #[.bool false, .slice A1 n1 c1, .slice A2 n2 c2], .pointer (some ⟨w1.heap.size,0,none⟩), .slice A n c, .func (.func 170) #[] #[.pointer (some ⟨w1.heap.size+1+1,0,none⟩)],xs.getD 0 undef,undef,undef,undef,undef,undef,undef,undef],defers:= [] }) ?assign ?body ?done
 case hE=>
  rintro k xs W l o o' ⟨B,rfl,h1,h2⟩ ho hc
  exact ⟨B,rfl,h1,h2.abide (C:=0) (grownBy_putObj' W l o') (fun r e=>by cases e;exact ⟨Nat.zero_le _,o,ho,hc⟩)⟩
 case hps=>
  rintro k xs W ⟨B,rfl,_⟩
  rfl
 case assign=>
  rintro lp k xs W K ⟨B,rfl,h1,h2⟩ hK
  gi_wp2
  exact hK
 case body=>
  rintro lp k xs W hk ⟨h1,h2,h3,h4,h5,h6⟩ ⟨B,rfl,hB,hnb⟩
  have hc2:=h2.cell
  have hne:B≠w1.heap.size:=by omega
  have hbd:=hp k (Nat.le_of_lt hk)
  have hbd2:QB (qAt qs k) m:=by
   obtain ⟨_,_,_,_,_,q,_,_,_,_,e,hr⟩:=h.cells k hk
   rw [show qAt qs k=q from by simp [qAt,e]]
   exact hr.qb hm0
  have hTW:Tab W:=hT.below h4
  gi_wp2_with (gi_at_call 169;refine CallsIn.mono (callsIn_wide.2 (by
   obtain ⟨cs,g1,g2⟩:=h1
   obtain ⟨cs',g1',g2'⟩:=hnb
   exact nummul_r g1 g2 g1' g2' hne hbd hbd2 (by omega) hTW)) ?_;rintro e w3 ⟨u,rfl,_,hg3,cs3,hh3,hc3,_⟩)
  refine ⟨(KeepsOthers.of_grownBy hg3 (fun j o e ho=>by cases e;obtain ⟨cs,g1,_⟩:=h1;rw [g1] at ho;cases ho;rfl)).from _,⟨(KeepS.refl _ _).grown hg3 (fun b hb=>⟨by have:=h4.size;rcases hb with hb|hb<;>omega,fun e=>by have:=Option.some.inj e;omega⟩),hg3.size⟩,⟨cs3,hh3,hc3⟩,h2.kept hg3 (fun e=>by have:=Option.some.inj e;omega),(hg3.block _ h3.lt (fun e=>by have:=Option.some.inj e;omega)).trans h3,below_grown h4 hg3 h4.size (by omega),Nat.le_trans h5 hg3.size,h6⟩
 case done=>
  rintro D W hD ⟨h1,h2,h3,h4,h5,h6⟩ _ hd
  obtain ⟨cs,hh,hq⟩:=h1
  obtain ⟨A3,n3,c3,A4,n4,c4,ecs⟩:=qn_form hq
  have ecs:=congrArg Array.toList (agg_inj ecs)
  simp at ecs
  subst ecs
  obtain ⟨g0,g1,g2⟩:W.cell? ⟨w1.heap.size,0,none⟩=some (.bool (decide ((qprod qs n).num<0)))∧W.cell? ⟨w1.heap.size,0+1,none⟩=some (.slice A3 n3 c3)∧W.cell? ⟨w1.heap.size,0+2,none⟩=some (.slice A4 n4 c4):=⟨mem_block hh 0 _ rfl,mem_block hh 1 _ rfl,mem_block hh 2 _ rfl⟩
  simp only [Nat.zero_add] at g1 g2
  have hc2:=h2.cell
  have q0:W.cell? ⟨w.heap.size,0,none⟩=some (.bool false):=h3.cell 0
  have q1:W.cell? ⟨w.heap.size,1,none⟩=some (.slice none 0 0):=h3.cell 1
  have q2:W.cell? ⟨w.heap.size,2,none⟩=some (.slice none 0 0):=h3.cell 2
  have q3:=h3.frozen 0;have q4:=h3.frozen 1;have q5:=h3.frozen 2
  go_wp2
  have hb5:BoxN (((W.setCell ⟨w.heap.size,0,none⟩ (.bool (decide ((qprod qs n).num<0)))).setCell ⟨w.heap.size,1,none⟩ (.slice A3 n3 c3)).setCell ⟨w.heap.size,2,none⟩ (.slice A4 n4 c4)) w.heap.size 29 #[.bool (decide ((qprod qs n).num<0)), .slice A3 n3 c3, .slice A4 n4 c4]:=((h3.set 0 _).set 1 _).set 2 _
  have hM2:Marks w.heap.size (((W.setCell ⟨w.heap.size,0,none⟩ (.bool (decide ((qprod qs n).num<0)))).setCell ⟨w.heap.size,1,none⟩ (.slice A3 n3 c3)).setCell ⟨w.heap.size,2,none⟩ (.slice A4 n4 c4)) [mark D] [D]:=((Marks.nil w.heap.size W).more (D:=D) (by simp) (by have:=hB1.size;omega) hd).others (((KeepsOthers.setCell _ _ _).trans (KeepsOthers.setCell _ _ _)).trans (KeepsOthers.setCell _ _ _))
  have hrow: ∀(W':World) (i:Nat) (v u:Value),W'.cell? ⟨w.heap.size,i,none⟩=some u→noLimb u=true→KeepU W' (W'.setCell ⟨w.heap.size,i,none⟩ v):=fun W' i v u hu hn p x hp=>(World.cell?_setCell_other _ _ _ _ (fun e=>by rw [←e] at hp;rw [hu] at hp;cases hp;cases hn)).trans hp
  have hk3:KeepU W (((W.setCell ⟨w.heap.size,0,none⟩ (.bool (decide ((qprod qs n).num<0)))).setCell ⟨w.heap.size,1,none⟩ (.slice A3 n3 c3)).setCell ⟨w.heap.size,2,none⟩ (.slice A4 n4 c4)):=((hrow _ _ _ _ q0 rfl).trans (hrow _ _ _ _ ((h3.set 0 _).cell 1) rfl)).trans (hrow _ _ _ _ (((h3.set 0 _).set 1 _).cell 2) rfl)
  have hq3:=hq.keepU hk3
  have hb3:Below w.heap.size w (((W.setCell ⟨w.heap.size,0,none⟩ (.bool (decide ((qprod qs n).num<0)))).setCell ⟨w.heap.size,1,none⟩ (.slice A3 n3 c3)).setCell ⟨w.heap.size,2,none⟩ (.slice A4 n4 c4)):=((h4.setCell (Nat.le_refl _) _).setCell (Nat.le_refl _) _).setCell (Nat.le_refl _) _
  generalize ((W.setCell ⟨w.heap.size,0,none⟩ (.bool (decide ((qprod qs n).num<0)))).setCell ⟨w.heap.size,1,none⟩ (.slice A3 n3 c3)).setCell ⟨w.heap.size,2,none⟩ (.slice A4 n4 c4)=W9 at*
  refine leaves_marks _ (v:= .agg #[.bool (decide ((qprod qs n).num<0)), .slice A3 n3 c3, .slice A4 n4 c4]) (fun w' ho'=> ?_) [D] _ _ hM2 (Oth.refl _ _) ?_
  ·have h7:=hb5.oth ho'
   have:=run_cell (P:=Tryz.prog) (w:=w') (t:=29) (k:=3) (by kernel_rfl) (vs:= [.bool (decide ((qprod qs n).num<0)), .slice A3 n3 c3, .slice A4 n4 c4]) rfl h7
   simp [results,Tryz.results142,asAddr,this]
  ·intro w' ho
   exact ⟨_,rfl,hq3.keepU (fun p x hp=>(ho.cell p).trans hp),below_oth hb3 ho (Nat.le_refl _)⟩
def fQS (m:Nat) (qs:List Rat):SF:=⟨fun v W=> ∃A c,v= .slice A qs.length c∧qs.length≤c∧c≤9223372036854775807∧QRd m W A qs.length qs,fun _ _ _ ⟨A,c,h1,h2,h3,h4⟩ hb=>⟨A,c,h1,h2,h3,h4.below hb⟩⟩
theorem s_rat2 (s s':Bool) (A A' D D':Option Addr) (n n' c c' i i' j j':Nat):sliceCells Tryz.prog 110 2 [(0, .agg #[.bool s, .slice A n c, .slice D i j]),(1, .agg #[.bool s', .slice A' n' c', .slice D' i' j'])]=some (29,#[.bool s, .slice A n c, .slice D i j, .bool s', .slice A' n' c', .slice D' i' j']):=by kernel_rfl
theorem sl_rat2 {u v:Value} {W:World} {m:Nat} {p q:Rat} (hu:RVp m p u W) (hv:RVp m q v W): ∃e cs,sliceCells Tryz.prog 110 2 [(0,u),(1,v)]=some (e,cs)∧(fQS m [p,q]).p (.slice (some ⟨W.heap.size,0,none⟩) 2 2) (W.alloc (.cells cs e)):=by
 obtain ⟨k,d,h1,h2⟩:=id hu
 obtain ⟨k',d',h1',h2'⟩:=id hv
 obtain ⟨s,A,n,c,D,i,j,rfl⟩:=qv_form h1
 obtain ⟨s',A',n',c',D',i',j',rfl⟩:=qv_form h1'
 refine ⟨_,_,s_rat2 s s' A A' D D' n n' c c' i i' j j',some ⟨W.heap.size,0,none⟩,2,rfl,Nat.le_refl _,by decide,rfl,fun x hx=> ?_⟩
 have hb:=alloc_b W (.cells #[.bool s, .slice A n c, .slice D i j, .bool s', .slice A' n' c', .slice D' i' j'] 29)
 rcases (by simp at hx;omega:x=0∨x=1) with rfl|rfl
 ·exact ⟨_,0,_,_,_,p,rfl,mem_new W _ _ 0 _ rfl,mem_new W _ _ 1 _ rfl,mem_new W _ _ 2 _ rfl,rfl,hu.below hb⟩
 ·exact ⟨_,0,_,_,_,q,rfl,mem_new W _ _ 3 _ rfl,mem_new W _ _ 4 _ rfl,mem_new W _ _ 5 _ rfl,rfl,hv.below hb⟩
theorem radd_w {W:World} {m:Nat} {v:Value} {qs:List Rat} (M:Nat) (h:(fQS m qs).p v W) (hm0:0<m) (hM:M+m+1≤2000) (hp: ∀k,k≤qs.length→QB (qsum qs k) M) (hT:Tab W):Calls Tryz.prog 112 #[v] W (Ret W (fQN (qsum qs qs.length)).toSF):=by
 obtain ⟨A,c,rfl,h1,h2,h3⟩:=h
 exact rAdd_any m M A qs.length c qs W h3 h1 h2 (by omega) hm0 hM hp hT
theorem rmulq_w {W:World} {m:Nat} {v:Value} {qs:List Rat} (M:Nat) (h:(fQS m qs).p v W) (hm0:0<m) (hM:M+m+1≤2000) (hp: ∀k,k≤qs.length→QB (qprod qs k) M) (hT:Tab W):Calls Tryz.prog 142 #[v] W (Ret W (fQN (qprod qs qs.length)).toSF):=by
 obtain ⟨A,c,rfl,h1,h2,h3⟩:=h
 exact rMul_any m M A qs.length c qs W h3 h1 h2 (by omega) hm0 hM hp hT
theorem QB.zero {m:Nat} (hm:0<m):QB 0 m:=⟨Nat.pow_pos BB_pos,one_lt_BB hm⟩
theorem QB.one {m:Nat} (hm:0<m):QB 1 m:=⟨one_lt_BB hm,one_lt_BB hm⟩
theorem qsum2 (p q:Rat):qsum [p,q] 2=p+q:=by
 show (0+p)+q=_
 rw [Rat.zero_add]
theorem qprod2 (p q:Rat):qprod [p,q] 2=p*q:=by
 show (1*p)*q=_
 rw [Rat.one_mul]
theorem radd2_w {W:World} {m:Nat} {v:Value} {p q:Rat} (h:(fQS m [p,q]).p v W) (hp:QB p m) (hq:QB q m) (hm:3*m+2≤2000) (hT:Tab W):Calls Tryz.prog 112 #[v] W (Ret W (fQN (p+q)).toSF):=by
 have:=radd_w (m+m+1) h hp.pos (by omega) (fun k hk=>by
  rcases (by simp at hk;omega:k=0∨k=1∨k=2) with rfl|rfl|rfl
  ·exact QB.zero (by omega)
  ·show QB (0+p) _
   rw [Rat.zero_add]
   exact hp.mono (by omega)
  ·rw [qsum2]
   exact hp.add hq) hT
 rw [show ([p,q]:List Rat).length=2 from rfl,qsum2] at this
 exact this
theorem rmul2_w {W:World} {m:Nat} {v:Value} {p q:Rat} (h:(fQS m [p,q]).p v W) (hp:QB p m) (hq:QB q m) (hm:3*m+2≤2000) (hT:Tab W):Calls Tryz.prog 142 #[v] W (Ret W (fQN (p*q)).toSF):=by
 have:=rmulq_w (m+m) h hp.pos (by omega) (fun k hk=>by
  have:=hp.pos
  rcases (by simp at hk;omega:k=0∨k=1∨k=2) with rfl|rfl|rfl
  ·exact QB.one (by omega)
  ·show QB (1*p) _
   rw [Rat.one_mul]
   exact hp.mono (by omega)
  ·rw [qprod2]
   exact hp.mul hq) hT
 rw [show ([p,q]:List Rat).length=2 from rfl,qprod2] at this
 exact this
end Go.Proofs.Wd

namespace Go.Proofs.Wd
set_option maxRecDepth 100000
open Go.RowKit Lb
theorem rat_quo (p q:Rat):mkRat ((p).num*(if decide ((q).num<0) then -(((q).den:Nat):Int) else (((q).den:Nat):Int))) ((p).den*(q).num.natAbs)=p / q:=by
 have hp:p=(p.num:Rat) / (p.den:Rat):=by
  have:=Rat.mkRat_self p
  rw [Rat.mkRat_eq_div] at this
  exact this.symm
 have hq:q⁻¹=mkRat (if decide (q.num<0) then -((q.den:Nat):Int) else ((q.den:Nat):Int)) q.num.natAbs:=by
  rw [Rat.inv_def]
  by_cases h:q.num<0
  ·rw [decide_eq_true h,if_pos rfl, ←Rat.divInt_ofNat, ←Rat.divInt_neg']
   congr 1
   omega
  ·rw [decide_eq_false h,if_neg (by decide), ←Rat.divInt_ofNat]
   congr 1
   omega
 rw [Rat.div_def,hq]
 conv=>rhs;rw [←Rat.mkRat_self p]
 rw [Rat.mkRat_mul_mkRat]
theorem rSub_q {W:World} {m:Nat} {v v':Value} {q q':Rat} (h:RVp m q v W) (h':RVp m q' v' W) (hm:m≤650) (hm0:0<m) (hT:Tab W):Calls Tryz.prog 138 #[v,v'] W (Ret W (fQN (q - q')).toSF):=by
 have hq:QB q m:=h.qb hm0
 have hq':QB q' m:=h'.qb hm0
 refine run_st [(fRV m q).toSF,(fRV m q').toSF] Tryz.func138 rfl (by kernel_rfl) ⟨h,h',trivial⟩ fun a s=> ?_
 refine wpIn_seq ?_
 refine region_go 0 [] hmix s (by kernel_rfl)
  obs_nil fun a w1 s=> ?_
 refine t_box (CU.agg (fRV (m) (q))) rfl s (by kernel_rfl) (fun v W h=>rv_box h) fun b2 a w s=> ?_
 refine t_box (CU.agg (fRV (m) (q'))) rfl s (by kernel_rfl) (fun v W h=>rv_box h) fun b3 a w s=> ?_
 refine t_alloc (CU.len 3) (cs:= [.bool false, .slice none 0 0, .slice none 0 0]) (by kernel_rfl) rfl s (by kernel_rfl) (fun W=>rfl) rfl fun b4 a w s=> ?_
 refine tail_end rfl ?_
 refine wpIn_seq ?_
 refine region_goP [] 5 ((5, .s ((fRV (m) (q)).toSF))::(6, .s ((fRV (m) (q')).toSF))::(7, .s ((fQN ((-q'))).toSF))::(8, .s (fQS m [q,(-q')]))::(9, .u (fQN ((q+ -q')))):: []) hmix s (by kernel_rfl)
  (oc (ok_ldW (f:=fRV (m) (q)) 3 (by kernel_rfl) (hz:=rv_len _ _))<|oc (ok_ldW (f:=fRV (m) (q')) 3 (by kernel_rfl) (hz:=rv_len _ _))<|oc (ok_call1 wide_wide en_165 (fun u0 W hb (h0:RVp (m) (q') u0 W)=>rNeg_q h0 (by omega) hm0 (hT.below (s.up hb))))<|oc (ok_slice2 (fun u v W (hu:RVp (m) (q) u W) (hv:QNp ((-q')) v W)=>sl_rat2 hu (QNp.rv hv hq'.neg)))<|oc (ok_call1 wide_wide en_112 (fun u0 W hb (h0:(fQS m [q,(-q')]).p u0 W)=>radd2_w h0 hq hq'.neg (by omega) (hT.below (s.up hb))))<|obs_nil) fun Q' hQ a w2 s=> ?_
 refine t_store (CU.agg (fQN ((q+ -q')))) ((fQN ((q+ -q'))).toSF) rfl s (by kernel_rfl) rfl rfl rfl iiz iiz (qn_store) fun a w s=> ?_
 refine tail_end rfl (hQ _ _ ?_)
 refine wpIn_ret ?_
 exact StS.resC s (CU.agg (fQN (q+ -q'))) rfl (by kernel_rfl) rfl rfl (qn_len _) (fun cs W h=>by rw [Rat.sub_eq_add_neg];exact h)
end Go.Proofs.Wd

namespace Go.Proofs.Wd
open Go.RowKit Lb
def UVx (n:Nat) (k:Int) (v:Value) (w:World):Prop:= ∃s A c l,v= .agg #[.bool s, .slice A n c]∧Rd w A n c l∧Lt l∧iv s l=k
def LVx (n x:Nat) (v:Value) (w:World):Prop:= ∃A c l,v= .slice A n c∧Rd w A n c l∧Lt l∧val l=x
def QXp (n n':Nat) (k:Int) (d:Nat) (v:Value) (w:World):Prop:= ∃b s t,v= .agg #[b,s,t]∧UVx n k (.agg #[b,s]) w∧LVx n' d t w
def fQX (n n':Nat) (k:Int) (d:Nat):UF:= .mk' (QXp n n' k d) fun _ _ _ ⟨b,s,t,e,⟨sg,A,c,l,e1,h1,h2⟩,A',c',l',e2,h1',h2'⟩ u=>⟨b,s,t,e,⟨sg,A,c,l,e1,h1.keepU u,h2⟩,A',c',l',e2,h1'.keepU u,h2'⟩
theorem qx_qv {n n' m:Nat} {k:Int} {d:Nat} {v:Value} {W:World} (h:QXp n n' k d v W) (h1:n≤m) (h2:n'≤m):QVp m k d v W:=by
 obtain ⟨b,s,t,e,⟨sg,A,c,l,e1,g1,g2,g3⟩,A',c',l',e2,g1',g2',g3'⟩:=h
 exact ⟨b,s,t,e,⟨sg,A,n,c,l,e1,g1,g2,h1,g3⟩,A',n',c',l',e2,g1',g2',h2,g3'⟩
theorem qx_abs {n n':Nat} {k:Int} {d:Nat} (cs:List Value) (W:World) (h:(CU.agg (fQX n n' k d)).p cs W): ∃u,cs[1]?=some u∧ ∃A c,u= .slice A n c:=by
 obtain ⟨b,s,t,e,⟨sg,A,c,l,e1,_⟩,_⟩:=h
 rw [cells3 e]
 have:=congrArg Array.toList (agg_inj e1)
 simp at this
 exact ⟨s,rfl,A,c,this.2⟩
theorem qx_den {n n':Nat} {k:Int} {d:Nat} (cs:List Value) (W:World) (h:(CU.agg (fQX n n' k d)).p cs W): ∃u,cs[2]?=some u∧ ∃A c,u= .slice A n' c:=by
 obtain ⟨b,s,t,e,_,A,c,l,e1,_⟩:=h
 rw [cells3 e]
 exact ⟨t,rfl,A,c,e1⟩
def fSl (n:Nat):UF:= .mk' (fun v _=> ∃A c,v= .slice A n c) fun _ _ _ h _=>h
end Go.Proofs.Wd

namespace Go.Proofs.Wd
open Go.RowKit Lb
structure QX where
 n:Nat
 n':Nat
 k:Int
 d:Nat
abbrev QX.cu (x:QX):CU:=CU.agg (fQX x.n x.n' x.k x.d)
def qlens (L:List QX) (k:Nat):Nat:=((L.take k).map fun x=>min (x.n+x.n') 1000).sum
def gq (L:List QX):Bool:=decide ((((L.map QX.cu).length:Nat):Int)>60)||decide (((qlens L (min (L.map QX.cu).length 61):Nat):Int)>40)
theorem wrap64 (u:Int) (r:Nat) (h:u=r) (hr:r<9223372036854775808):IntKind.i64.wrap u=r:=by
 subst h
 rw [IntKind.wrap_i64]
 omega
end Go.Proofs.Wd

namespace Go.Proofs.Wd
set_option maxRecDepth 100000
set_option maxHeartbeats 1000000
open Go.RowKit Lb
def T2 (m:Nat) (op:Rat→Rat→Rat) (xs:Array Value) (W:World) (R:SF):Prop:= ∃u v p q,xs=#[u,v]∧RVp m p u W∧RVp m q v W∧Tab W∧R=(fQN (op p q)).toSF
def T3 (m:Nat) (op:Rat→Rat→Rat) (xs:Array Value) (W:World) (R:SF):Prop:= ∃u v, ∃p q:V2,xs=#[u,v]∧(fPV m p).p u W∧(fPV m q).p v W∧Tab W∧R=(fPN (op p.1 q.1,op p.2 q.2)).toSF
def G1 (g:FuncId) (m:Nat) (op:Rat→Rat→Rat):Prop:= ∀(W:World) (s:Value) (p q:Rat),(fQS m [p,q]).p s W→QB p m→QB q m→Tab W→Calls Tryz.prog g #[s] W (Ret W (fQN (op p q)).toSF)
theorem is_get {u:Value}: ∀cs W,(CU.is [u]).p cs W→ ∃x,cs[0]?=some x∧(UF.eq u).p x W:=fun cs W h=>by
 obtain rfl:cs= [u]:=h
 exact ⟨u,rfl,rfl⟩
theorem is_box {u v:Value} {W:World} (h:v=u) (hu:u.cells=#[u]) (hn:noLimb u=true:=by rfl):(CU.is [u]).p v.cells.toList W∧v.cells.toList.all noLimb=true:=by
 subst h
 rw [hu]
 exact ⟨rfl,by simp [hn]⟩
section
variable {F:Fence} {m:Nat} {P:Program} {w0:World} {ops:Array Oper} {G:Nat→SF} {d:Tmp} {ty:TypeId} {pos:String} {aft:Array Edge}
theorem ok_callK {y:Operand} {g:FuncId} {xs:Array Operand} {ats:Array TypeId} (hF:Wide F m P) (he:Enters P g) (hy: ∀v W,(fct G y).p v W→v= .func (.func g) #[] #[])
  (h: ∀(b:Act) (W:World),Below w0.heap.size w0 W→(∀x,x∈xs.toList→(fct G x).p (b.eval x) W)→Calls P g (xs.map b.eval) W (Ret W (G d))):
  GdOK F m P w0 ops G ⟨some d, .call ⟨.value y,xs,ats⟩,ty,pos,aft,none⟩:=
 ok_fnN (fun args W R=>Calls P g args W (Ret W R)) hF (fun v W hv=>by rw [hy v W hv];exact ⟨g,#[],rfl,he,fun W' _ args R h=>by simpa using h⟩) h
theorem ok_callK1 {y x:Operand} {g:FuncId} {ats:Array TypeId} (hF:Wide F m P) (he:Enters P g) (hy: ∀v W,(fct G y).p v W→v= .func (.func g) #[] #[]) (h: ∀u W,Below w0.heap.size w0 W→(fct G x).p u W→Calls P g #[u] W (Ret W (G d))):GdOK F m P w0 ops G ⟨some d, .call ⟨.value y,#[x],ats⟩,ty,pos,aft,none⟩:=
 ok_callK hF he hy fun b W hb hh=>by simpa using h _ W hb (hh x (by simp))
end
theorem g1_add {m:Nat} (hm:m≤650):G1 112 m (·+·):=fun _ _ _ _ h hp hq hT=>radd2_w h hp hq (by omega) hT
theorem fn_sub {m:Nat} (hm:m≤650) (hm0:0<m) (W:World):(SF.fn Tryz.prog (T2 m (· - ·))).p (.func (.func 138) #[] #[]) W:=
 fn_one (enters_of Tryz.func138 (by kernel_rfl) rfl) fun W' _ args R ⟨u,v,p,q,e,h1,h2,hT,hR⟩=>by
  subst e hR
  simpa using rSub_q h1 h2 hm hm0 hT
theorem two1_v {g:FuncId} {m:Nat} {op:Rat→Rat→Rat} (eg:Enters Tryz.prog g) (hg:G1 g m op) (hm0:0<m) {W:World} {u v b:Value} {p q:Rat} (h1:RVp m p u W) (h2:RVp m q v W) (hb:(SF.ptr (CU.is [.func (.func g) #[] #[]]).cf).p b W) (hT:Tab W):Calls Tryz.prog 144 #[u,v,b] W (Ret W (fQN (op p q)).toSF):=by
 have hp:=h1.qb hm0
 have hq:=h2.qb hm0
 refine run_st [(fRV m p).toSF,(fRV m q).toSF,SF.ptr (CU.is [.func (.func g) #[] #[]]).cf] Tryz.func144 rfl (by kernel_rfl) ⟨h1,h2,hb,trivial⟩ fun a s=> ?_
 refine wpIn_seq ?_
 refine region_go 0 [] hmix s (by kernel_rfl)
  obs_nil fun a w1 s=> ?_
 refine t_box (CU.agg (fRV (m) (p))) rfl s (by kernel_rfl) (fun v W h=>rv_box h) fun b3 a w s=> ?_
 refine t_box (CU.agg (fRV (m) (q))) rfl s (by kernel_rfl) (fun v W h=>rv_box h) fun b4 a w s=> ?_
 refine t_alloc (CU.len 3) (cs:= [.bool false, .slice none 0 0, .slice none 0 0]) (by kernel_rfl) rfl s (by kernel_rfl) (fun W=>rfl) rfl fun b5 a w s=> ?_
 refine tail_end rfl ?_
 refine wpIn_seq ?_
 refine region_go 5 ((6, .s ((UF.eq (.func (.func g) #[] #[])).toSF))::(7, .s ((fRV (m) (p)).toSF))::(8, .s ((fRV (m) (q)).toSF))::(9, .s (fQS m [p,q]))::(10, .u (fQN ((op p q)))):: []) hmix s (by kernel_rfl)
  (oc (ok_load1 (C:=(CU.is [.func (.func g) #[] #[]]).cf) (by kernel_rfl) iiz (is_get))<|oc (ok_ldW (f:=fRV (m) (p)) 3 (by kernel_rfl) (hz:=rv_len _ _))<|oc (ok_ldW (f:=fRV (m) (q)) 3 (by kernel_rfl) (hz:=rv_len _ _))<|oc (ok_slice2 (fun u v W (hu:RVp (m) (p) u W) (hv:RVp (m) (q) v W)=>sl_rat2 hu hv))<|oc (ok_callK1 wide_wide eg iiz (fun u W hb (h:(fQS m [p,q]).p u W)=>hg W u p q h hp hq (hT.below (s.up hb))))<|obs_nil) fun a w2 s=> ?_
 refine t_store (CU.agg (fQN ((op p q)))) ((fQN ((op p q))).toSF) rfl s (by kernel_rfl) rfl rfl rfl iiz iiz (qn_store) fun a w s=> ?_
 refine tail_end rfl ?_
 refine wpIn_ret ?_
 exact StS.resC s (CU.agg (fQN (op p q))) rfl (by kernel_rfl) rfl rfl (qn_len _) (fun cs W h=>h)
theorem two_v {g:FuncId} {m:Nat} {op:Rat→Rat→Rat} (eg:Enters Tryz.prog g) (hg:G1 g m op) (hm0:0<m) {W:World} {u:Value} (h:u= .func (.func g) #[] #[]):Calls Tryz.prog 111 #[u] W (Ret W (SF.fn Tryz.prog (T2 m op))):=by
 refine run_st [(UF.eq (.func (.func g) #[] #[])).toSF] Tryz.func111 rfl (by kernel_rfl) ⟨h,trivial⟩ fun a s=> ?_
 refine wpIn_seq ?_
 refine region_go 0 [] hmix s (by kernel_rfl)
  obs_nil fun a w1 s=> ?_
 refine t_box (CU.is [.func (.func g) #[] #[]]) rfl s (by kernel_rfl) (fun v W h=>is_box h (by rfl)) fun b1 a w s=> ?_
 refine t_set (UF.eq (.nilFunc)) rfl s (by kernel_rfl) iiz fun a w s=> ?_
 refine tail_end rfl ?_
 refine wpIn_seq ?_
 replace s:=s.drop [2]
 refine region_goN 2 ((3, .s (SF.fn Tryz.prog (T2 m op)))::(2, .s (SF.fn Tryz.prog (T2 m op))):: []) hmix s (by kernel_rfl)
  (oc (ok_mkfn1 (fun u W hb (h:(SF.pb b1 (CU.is [.func (.func g) #[] #[]]).cf).p u W)=>fn_one (enters_of Tryz.func144 (by kernel_rfl) rfl) (fun W' hb' args R ⟨u1,v1,p,q,e,h1,h2,hT,hR⟩=>by subst e hR;simpa using two1_v eg hg hm0 h1 h2 ((SF.ptr (CU.is [.func (.func g) #[] #[]]).cf).st _ _ _ h.2 hb') hT)))<|oc (ok_assign)<|obs_nil) fun a w2 s hr=> ?_
 refine tail_end rfl ?_
 refine wpIn_ret ?_
 exact StS.resN s (Below.refl _ _) rfl (hr (_,_) mz1)
theorem ok_fnB {F:Fence} {m:Nat} {P:Program} {w0:World} {ops:Array Oper} {G:Nat→SF} {d:Tmp} {ty:TypeId} {pos:String} {aft:Array Edge} {y x x':Operand} {ats:Array TypeId} (T:Array Value→World→SF→Prop) (hF:Wide F m P) (hy: ∀v W,Below w0.heap.size w0 W→(fct G y).p v W→(SF.fn P T).p v W) (h: ∀u v W,Below w0.heap.size w0 W→(fct G x).p u W→(fct G x').p v W→T #[u,v] W (G d)):GdOK F m P w0 ops G ⟨some d, .call ⟨.value y,#[x,x'],ats⟩,ty,pos,aft,none⟩:=
 ok_fnN' T hF hy fun b W hb hh=>by simpa using h _ _ W hb (hh x (by simp)) (hh x' (by simp))
theorem parts1_v {m:Nat} {op:Rat→Rat→Rat} {W:World} {u v b f:Value} {p q:V2} (h1:(fPV m p).p u W) (h2:(fPV m q).p v W) (hb:(SF.ptr (CU.is [f]).cf).p b W) (hf:(SF.fn Tryz.prog (T2 m op)).p f W) (hT:Tab W):Calls Tryz.prog 143 #[u,v,b] W (Ret W (fPN (op p.1 q.1,op p.2 q.2)).toSF):=by
 refine run_st [(fPV m p).toSF,(fPV m q).toSF,SF.ptr (CU.is [f]).cf] Tryz.func143 rfl (by kernel_rfl) ⟨h1,h2,hb,trivial⟩ fun a s=> ?_
 refine wpIn_seq ?_
 refine region_go 0 [] hmix s (by kernel_rfl)
  obs_nil fun a w1 s=> ?_
 refine t_box (CU.agg (fPV (m) (p))) rfl s (by kernel_rfl) (fun v W h=>pt_box h) fun b3 a w s=> ?_
 refine t_box (CU.agg (fPV (m) (q))) rfl s (by kernel_rfl) (fun v W h=>pt_box h) fun b4 a w s=> ?_
 refine t_alloc (CU.len 6) (cs:= [.bool false, .slice none 0 0, .slice none 0 0, .bool false, .slice none 0 0, .slice none 0 0]) (by kernel_rfl) rfl s (by kernel_rfl) (fun W=>rfl) rfl fun b5 a w s=> ?_
 refine tail_end rfl ?_
 refine wpIn_seq ?_
 refine region_goP [] 13 ((6, .s ((UF.eq f).toSF))::(7, .s (SF.ptr ((CU.agg (fPV (m) (p))).cf.at 0)))::(8, .s ((fRV (m) ((p).1)).toSF))::(9, .s (SF.ptr ((CU.agg (fPV (m) (q))).cf.at 0)))::(10, .s ((fRV (m) ((q).1)).toSF))::(11, .s ((fQN ((op (p).1 (q).1))).toSF))::(12, .s ((UF.eq f).toSF))::(13, .s (SF.ptr ((CU.agg (fPV (m) (p))).cf.at 3)))::(14, .s ((fRV (m) ((p).2)).toSF))::(15, .s (SF.ptr ((CU.agg (fPV (m) (q))).cf.at 3)))::(16, .s ((fRV (m) ((q).2)).toSF))::(17, .s ((fQN ((op (p).2 (q).2))).toSF))::(18, .u (fPN ((op p.1 q.1,op p.2 q.2)))):: []) hmix s (by kernel_rfl)
  (oc (ok_load1 (C:=(CU.is [f]).cf) (by kernel_rfl) iiz (is_get))<|oc (ok_fld (C:=(CU.agg (fPV (m) (p))).cf) 0 (by kernel_rfl))<|oc (ok_ldA (C:=(CU.agg (fPV (m) (p))).cf) (k:=0) 3 (by kernel_rfl) (h:=pt_x))<|oc (ok_fld (C:=(CU.agg (fPV (m) (q))).cf) 0 (by kernel_rfl))<|oc (ok_ldA (C:=(CU.agg (fPV (m) (q))).cf) (k:=0) 3 (by kernel_rfl) (h:=pt_x))<|oc (ok_fnB (T2 m op) wide_wide (fun v W hb h=>by rw [show v=f from h];exact (SF.fn Tryz.prog (T2 m op)).st _ _ _ hf (s.up hb)) (fun u v W hb (h1:RVp (m) ((p).1) u W) (h2:RVp (m) ((q).1) v W)=>⟨u,v,_,_,rfl,h1,h2,hT.below (s.up hb),rfl⟩))<|oc (ok_load1 (C:=(CU.is [f]).cf) (by kernel_rfl) iiz (is_get))<|oc (ok_fld (C:=(CU.agg (fPV (m) (p))).cf) 3 (by kernel_rfl))<|oc (ok_ldA (C:=(CU.agg (fPV (m) (p))).cf) (k:=3) 3 (by kernel_rfl) (h:=pt_y))<|oc (ok_fld (C:=(CU.agg (fPV (m) (q))).cf) 3 (by kernel_rfl))<|oc (ok_ldA (C:=(CU.agg (fPV (m) (q))).cf) (k:=3) 3 (by kernel_rfl) (h:=pt_y))<|oc (ok_fnB (T2 m op) wide_wide (fun v W hb h=>by rw [show v=f from h];exact (SF.fn Tryz.prog (T2 m op)).st _ _ _ hf (s.up hb)) (fun u v W hb (h1:RVp (m) ((p).2) u W) (h2:RVp (m) ((q).2) v W)=>⟨u,v,_,_,rfl,h1,h2,hT.below (s.up hb),rfl⟩))<|oc (ok_build2 (fun u v W (hu:QNp (op (p).1 (q).1) u W) (hv:QNp (op (p).2 (q).2) v W)=>b_pt (ratU_qn _) (ratU_qn _) hu hv))<|obs_nil) fun Q' hQ a w2 s=> ?_
 refine t_store (CU.agg (fPN ((op p.1 q.1,op p.2 q.2)))) ((fPN ((op p.1 q.1,op p.2 q.2))).toSF) rfl s (by kernel_rfl) rfl rfl rfl iiz iiz (pt_store) fun a w s=> ?_
 refine tail_end rfl (hQ _ _ ?_)
 refine wpIn_ret ?_
 exact StS.resC s (CU.agg (fPN (op p.1 q.1,op p.2 q.2))) rfl (by kernel_rfl) rfl rfl (pt_len _ _) (fun cs W h=>h)
theorem parts_v {m:Nat} {op:Rat→Rat→Rat} {W:World} {f:Value} (hf:(SF.fn Tryz.prog (T2 m op)).p f W):Calls Tryz.prog 110 #[f] W (Ret W (SF.fn Tryz.prog (T3 m op))):=by
 have hfc:f.cells=#[f]∧noLimb f=true:=by obtain ⟨g,caps,rfl,_⟩:=hf;exact ⟨rfl,rfl⟩
 refine run_st [(UF.eq f).toSF] Tryz.func110 rfl (by kernel_rfl) ⟨rfl,trivial⟩ fun a s=> ?_
 refine wpIn_seq ?_
 refine region_go 0 [] hmix s (by kernel_rfl)
  obs_nil fun a w1 s=> ?_
 refine t_box (CU.is [f]) rfl s (by kernel_rfl) (fun v W h=>is_box h hfc.1 hfc.2) fun b1 a w s=> ?_
 refine t_set (UF.eq (.nilFunc)) rfl s (by kernel_rfl) iiz fun a w s=> ?_
 refine tail_end rfl ?_
 refine wpIn_seq ?_
 replace s:=s.drop [2]
 refine region_goN 2 ((3, .s (SF.fn Tryz.prog (T3 m op)))::(2, .s (SF.fn Tryz.prog (T3 m op))):: []) hmix s (by kernel_rfl)
  (oc (ok_mkfn1 (fun u W hb (h:(SF.pb b1 (CU.is [f]).cf).p u W)=>fn_one (enters_of Tryz.func143 (by kernel_rfl) rfl) (fun W' hb' args R ⟨u1,v1,p,q,e,h1,h2,hT,hR⟩=>by subst e hR;simpa using parts1_v h1 h2 ((SF.ptr (CU.is [f]).cf).st _ _ _ h.2 hb') ((SF.fn Tryz.prog (T2 m op)).st _ _ _ ((SF.fn Tryz.prog (T2 m op)).st _ _ _ hf (s.up hb)) hb') hT)))<|oc (ok_assign)<|obs_nil) fun a w2 s hr=> ?_
 refine tail_end rfl ?_
 refine wpIn_ret ?_
 exact StS.resN s (Below.refl _ _) rfl (hr (_,_) mz1)
theorem vSub_p {m:Nat} {W:World} {u v:Value} {p q:V2} (h1:(fPV m p).p u W) (h2:(fPV m q).p v W) (hm:m≤650) (hm0:0<m) (hT:Tab W):Calls Tryz.prog 102 #[u,v] W (Ret W (fPN (p.1 - q.1,p.2 - q.2)).toSF):=by
 refine run_st [(fPV m p).toSF,(fPV m q).toSF] Tryz.func102 rfl (by kernel_rfl) ⟨h1,h2,trivial⟩ fun a s=> ?_
 refine wpIn_seq ?_
 refine region_go 0 [] hmix s (by kernel_rfl)
  obs_nil fun a w1 s=> ?_
 refine t_box (CU.agg (fPV (m) (p))) rfl s (by kernel_rfl) (fun v W h=>pt_box h) fun b2 a w s=> ?_
 refine t_box (CU.agg (fPV (m) (q))) rfl s (by kernel_rfl) (fun v W h=>pt_box h) fun b3 a w s=> ?_
 refine t_alloc (CU.len 6) (cs:= [.bool false, .slice none 0 0, .slice none 0 0, .bool false, .slice none 0 0, .slice none 0 0]) (by kernel_rfl) rfl s (by kernel_rfl) (fun W=>rfl) rfl fun b4 a w s=> ?_
 refine tail_end rfl ?_
 refine wpIn_seq ?_
 refine region_goP [] 4 ((5, .s (SF.fn Tryz.prog (T3 m (· - ·))))::(6, .s ((fPV (m) (p)).toSF))::(7, .s ((fPV (m) (q)).toSF))::(8, .u (fPN ((p.1 - q.1,p.2 - q.2)))):: []) hmix s (by kernel_rfl)
  (oc (ok_call1 wide_wide en_110 (fun u0 W hb h0=>by rw [show u0=_ from h0];exact parts_v (fn_sub hm hm0 W)))<|oc (ok_ldW (f:=fPV (m) (p)) 6 (by kernel_rfl) (hz:=pt_len _ _))<|oc (ok_ldW (f:=fPV (m) (q)) 6 (by kernel_rfl) (hz:=pt_len _ _))<|oc (ok_fn2 (T3 m (· - ·)) wide_wide iiz (fun u v W hb (h1:(fPV (m) (p)).p u W) (h2:(fPV (m) (q)).p v W)=>⟨u,v,p,q,rfl,h1,h2,hT.below (s.up hb),rfl⟩))<|obs_nil) fun Q' hQ a w2 s=> ?_
 refine t_store (CU.agg (fPN ((p.1 - q.1,p.2 - q.2)))) ((fPN ((p.1 - q.1,p.2 - q.2))).toSF) rfl s (by kernel_rfl) rfl rfl rfl iiz iiz (pt_store) fun a w s=> ?_
 refine tail_end rfl (hQ _ _ ?_)
 refine wpIn_ret ?_
 exact StS.resC s (CU.agg (fPN (p.1 - q.1,p.2 - q.2))) rfl (by kernel_rfl) rfl rfl (pt_len _ _) (fun cs W h=>h)
theorem vAdd_p {m:Nat} {W:World} {u v:Value} {p q:V2} (h1:(fPV m p).p u W) (h2:(fPV m q).p v W) (hm:m≤650) (hm0:0<m) (hT:Tab W):Calls Tryz.prog 65 #[u,v] W (Ret W (fPN (p.1+q.1,p.2+q.2)).toSF):=by
 refine run_st [(fPV m p).toSF,(fPV m q).toSF] Tryz.func65 rfl (by kernel_rfl) ⟨h1,h2,trivial⟩ fun a s=> ?_
 refine wpIn_seq ?_
 refine region_go 0 [] hmix s (by kernel_rfl)
  obs_nil fun a w1 s=> ?_
 refine t_box (CU.agg (fPV (m) (p))) rfl s (by kernel_rfl) (fun v W h=>pt_box h) fun b2 a w s=> ?_
 refine t_box (CU.agg (fPV (m) (q))) rfl s (by kernel_rfl) (fun v W h=>pt_box h) fun b3 a w s=> ?_
 refine t_alloc (CU.len 6) (cs:= [.bool false, .slice none 0 0, .slice none 0 0, .bool false, .slice none 0 0, .slice none 0 0]) (by kernel_rfl) rfl s (by kernel_rfl) (fun W=>rfl) rfl fun b4 a w s=> ?_
 refine tail_end rfl ?_
 refine wpIn_seq ?_
 refine region_goP [] 5 ((5, .s (SF.fn Tryz.prog (T2 m (·+·))))::(6, .s (SF.fn Tryz.prog (T3 m (·+·))))::(7, .s ((fPV (m) (p)).toSF))::(8, .s ((fPV (m) (q)).toSF))::(9, .u (fPN ((p.1+q.1,p.2+q.2)))):: []) hmix s (by kernel_rfl)
  (oc (ok_call1 wide_wide en_111 (fun u0 W hb h0=>two_v (enters_of Tryz.func112 (by kernel_rfl) rfl) (g1_add hm) hm0 h0))<|oc (ok_call1 wide_wide en_110 (fun u0 W hb (h0:(SF.fn Tryz.prog (T2 m (·+·))).p u0 W)=>parts_v h0))<|oc (ok_ldW (f:=fPV (m) (p)) 6 (by kernel_rfl) (hz:=pt_len _ _))<|oc (ok_ldW (f:=fPV (m) (q)) 6 (by kernel_rfl) (hz:=pt_len _ _))<|oc (ok_fn2 (T3 m (·+·)) wide_wide iiz (fun u v W hb (h1:(fPV (m) (p)).p u W) (h2:(fPV (m) (q)).p v W)=>⟨u,v,p,q,rfl,h1,h2,hT.below (s.up hb),rfl⟩))<|obs_nil) fun Q' hQ a w2 s=> ?_
 refine t_store (CU.agg (fPN ((p.1+q.1,p.2+q.2)))) ((fPN ((p.1+q.1,p.2+q.2))).toSF) rfl s (by kernel_rfl) rfl rfl rfl iiz iiz (pt_store) fun a w s=> ?_
 refine tail_end rfl (hQ _ _ ?_)
 refine wpIn_ret ?_
 exact StS.resC s (CU.agg (fPN (p.1+q.1,p.2+q.2))) rfl (by kernel_rfl) rfl rfl (pt_len _ _) (fun cs W h=>h)
theorem vCross_p {m:Nat} {W:World} {u v:Value} {p q:V2} (h1:(fPV m p).p u W) (h2:(fPV m q).p v W) (hp:QB p.1 m∧QB p.2 m) (hq:QB q.1 m∧QB q.2 m) (hm:m≤320) (hm0:0<m) (hT:Tab W):Calls Tryz.prog 109 #[u,v] W (Ret W (fQN (p.1*q.2 - p.2*q.1)).toSF):=by
 refine run_st [(fPV m p).toSF,(fPV m q).toSF] Tryz.func109 rfl (by kernel_rfl) ⟨h1,h2,trivial⟩ fun a s=> ?_
 refine wpIn_seq ?_
 refine region_go 0 [] hmix s (by kernel_rfl)
  obs_nil fun a w1 s=> ?_
 refine t_box (CU.agg (fPV (m) (p))) rfl s (by kernel_rfl) (fun v W h=>pt_box h) fun b2 a w s=> ?_
 refine t_box (CU.agg (fPV (m) (q))) rfl s (by kernel_rfl) (fun v W h=>pt_box h) fun b3 a w s=> ?_
 refine t_alloc (CU.len 3) (cs:= [.bool false, .slice none 0 0, .slice none 0 0]) (by kernel_rfl) rfl s (by kernel_rfl) (fun W=>rfl) rfl fun b4 a w s=> ?_
 refine tail_end rfl ?_
 refine wpIn_seq ?_
 refine region_goP [] 13 ((5, .s (SF.ptr ((CU.agg (fPV (m) (p))).cf.at 0)))::(6, .s ((fRV (m) ((p).1)).toSF))::(7, .s (SF.ptr ((CU.agg (fPV (m) (q))).cf.at 3)))::(8, .s ((fRV (m) ((q).2)).toSF))::(9, .s (fQS (m) [(p).1,(q).2]))::(10, .s ((fQN (((p).1*(q).2))).toSF))::(11, .s (SF.ptr ((CU.agg (fPV (m) (p))).cf.at 3)))::(12, .s ((fRV (m) ((p).2)).toSF))::(13, .s (SF.ptr ((CU.agg (fPV (m) (q))).cf.at 0)))::(14, .s ((fRV (m) ((q).1)).toSF))::(15, .s (fQS (m) [(p).2,(q).1]))::(16, .s ((fQN (((p).2*(q).1))).toSF))::(17, .u (fQN (((p).1*(q).2 - (p).2*(q).1)))):: []) hmix s (by kernel_rfl)
  (oc (ok_fld (C:=(CU.agg (fPV (m) (p))).cf) 0 (by kernel_rfl))<|oc (ok_ldA (C:=(CU.agg (fPV (m) (p))).cf) (k:=0) 3 (by kernel_rfl) (h:=pt_x))<|oc (ok_fld (C:=(CU.agg (fPV (m) (q))).cf) 3 (by kernel_rfl))<|oc (ok_ldA (C:=(CU.agg (fPV (m) (q))).cf) (k:=3) 3 (by kernel_rfl) (h:=pt_y))<|oc (ok_slice2 (fun u v W (hu:RVp (m) ((p).1) u W) (hv:RVp (m) ((q).2) v W)=>sl_rat2 hu hv))<|oc (ok_call1 wide_wide en_142 (fun u0 W hb (h0:(fQS (m) [(p).1,(q).2]).p u0 W)=>rmul2_w h0 hp.1 hq.2 (by omega) (hT.below (s.up hb))))<|oc (ok_fld (C:=(CU.agg (fPV (m) (p))).cf) 3 (by kernel_rfl))<|oc (ok_ldA (C:=(CU.agg (fPV (m) (p))).cf) (k:=3) 3 (by kernel_rfl) (h:=pt_y))<|oc (ok_fld (C:=(CU.agg (fPV (m) (q))).cf) 0 (by kernel_rfl))<|oc (ok_ldA (C:=(CU.agg (fPV (m) (q))).cf) (k:=0) 3 (by kernel_rfl) (h:=pt_x))<|oc (ok_slice2 (fun u v W (hu:RVp (m) ((p).2) u W) (hv:RVp (m) ((q).1) v W)=>sl_rat2 hu hv))<|oc (ok_call1 wide_wide en_142 (fun u0 W hb (h0:(fQS (m) [(p).2,(q).1]).p u0 W)=>rmul2_w h0 hp.2 hq.1 (by omega) (hT.below (s.up hb))))<|oc (ok_call2 wide_wide en_138 (fun u0 u1 W hb (h0:QNp (((p).1*(q).2)) u0 W) (h1:QNp (((p).2*(q).1)) u1 W)=>rSub_q (QNp.rv h0 (hp.1.mul hq.2)) (QNp.rv h1 (hp.2.mul hq.1)) (by omega) (by omega) (hT.below (s.up hb))))<|obs_nil) fun Q' hQ a w2 s=> ?_
 refine t_store (CU.agg (fQN (((p).1*(q).2 - (p).2*(q).1)))) ((fQN (((p).1*(q).2 - (p).2*(q).1))).toSF) rfl s (by kernel_rfl) rfl rfl rfl iiz iiz (qn_store) fun a w s=> ?_
 refine tail_end rfl (hQ _ _ ?_)
 refine wpIn_ret ?_
 exact StS.resC s (CU.agg (fQN (p.1*q.2 - p.2*q.1))) rfl (by kernel_rfl) rfl rfl (qn_len _) (fun cs W h=>h)
end Go.Proofs.Wd

namespace Lb
set_option maxHeartbeats 1000000
theorem tz_val {l:List Nat} (ht:Lt l) {j s x:Nat} (hj:j<l.length) (hz: ∀i,i<j→lm l i=0) (hx:lm l j=2^s*x) (ho:x % 2=1):TZ (val l) (32*j+s)∧s<32:=by
 have hb:=lm_BB ht j
 have hs:s<32:=by
  have h1:2^s*1≤2^s*x:=Nat.mul_le_mul_left _ (by omega)
  rw [Nat.mul_one, ←hx] at h1
  exact (Nat.pow_lt_pow_iff_right (by decide)).1 (Nat.lt_of_le_of_lt h1 (by rw [BB_eq] at hb;simpa using hb))
 refine ⟨?_,hs⟩
 have e0:val (l.take j)=0:=by
  rw [val_take (by omega)]
  have:sm (lm l) j=sm (lm l) 0:=sm_ext (Nat.zero_le _) fun i _ hi=>hz i hi
  rw [this];rfl
 have e1:=val_take_drop l j (by omega)
 rw [e0,Nat.zero_add,val_drop hj,hx,BB_pow] at e1
 obtain ⟨y,hy⟩: ∃y,val (l.drop (j+1))=y:=⟨_,rfl⟩
 rw [hy,show BB=2^s*(2*2^(31 - s)) from by rw [←Nat.pow_succ', ←Nat.pow_add,show s+(31 - s+1)=32 from by omega];rfl,Nat.mul_assoc, ←Nat.mul_add, ←Nat.mul_assoc, ←Nat.pow_add] at e1
 refine ⟨x / 2+2^(31 - s)*y, ?_⟩
 rw [e1]
 congr 1
 rw [Nat.mul_add, ←Nat.mul_assoc]
 omega
end Lb
namespace Go.Proofs.Wd
open Go.RowKit Lb
theorem twos_any (A:Option Addr) (n c:Nat) (l:List Nat) (w:World) (h:Rd w A n c l) (ht:Lt l) (h0:0<val l) (hn:n≤2000):
  ∃q t:Nat,TZ (val l) (32*q+t)∧t≤31∧q<n∧Calls Tryz.prog 148 #[.slice A n c] w fun e w'=>e= .returned (.int .i64 ((32*q+t:Nat):Int))∧w'=w:=by
 obtain ⟨j,hjn,hjz,hj0⟩: ∃j,j<n∧(∀i,i<j→lm l i=0)∧lm l j≠0:=by
  have hex: ∃j,lm l j≠0:=by
   refine Classical.byContradiction fun hc=> ?_
   have hz: ∀i,lm l i=0:=fun i=>Classical.byContradiction fun e=>hc ⟨i,e⟩
   have:sm (lm l) l.length=sm (lm l) 0:=sm_ext (Nat.zero_le _) fun i _ _=>hz i
   have e:val l=sm (lm l) l.length:=rfl
   rw [e,this] at h0
   simp [sm] at h0
  have hmin: ∀k,(∃j,j≤k∧lm l j≠0)→ ∃j,(∀i,i<j→lm l i=0)∧lm l j≠0:=by
   intro k
   induction k with
   |zero=>rintro ⟨j,hj,e⟩;exact ⟨j,fun i hi=>by omega,e⟩
   |succ k ih=>
    rintro ⟨j,hj,e⟩
    by_cases hk: ∃j,j≤k∧lm l j≠0
    ·exact ih hk
    ·exact ⟨j,fun i hi=>Classical.byContradiction fun e'=>hk ⟨i,by omega,e'⟩,e⟩
  obtain ⟨j0,hj0⟩:=hex
  obtain ⟨j,h1,h2⟩:=hmin j0 ⟨j0,Nat.le_refl _,hj0⟩
  refine ⟨j, ?_,h1,h2⟩
  rw [←h.len]
  exact Nat.lt_of_not_le fun e=>h2 (lm_ge e)
 obtain ⟨s,hs⟩:=TZ.exists (lm l j) (by omega)
 obtain ⟨m,hm⟩:=hs
 obtain ⟨htz,hs32⟩:=tz_val ht (s:=s) (x:=2*m+1) (by rw [h.len];exact hjn) hjz hm (by omega)
 refine ⟨j,s,htz,by omega,hjn, ?_⟩
 have hb:=lm_BB ht j
 have hle:=h.le;have hcap:=h.cap
 have HJZ:=hid hjz;have HM:=hid hm;have HB:=hid hb
 obtain ⟨d,hd⟩: ∃d:Nat→Nat,d=fun i=>2^(s - i)*(2*m+1):=⟨_,rfl⟩
 have hd0:d 0=lm l j:=by rw [hd,hm];rfl
 have hds:d s % 2=1:=by rw [hd];simp
 have hdi: ∀i,i<s→d i % 2=0∧d i / 2=d (i+1):=fun i hi=>by
  rw [hd]
  show 2^(s - i)*(2*m+1) % 2=0∧2^(s - i)*(2*m+1) / 2=2^(s - (i+1))*(2*m+1)
  rw [show s - i=(s - (i+1))+1 from by omega,Nat.pow_succ',Nat.mul_assoc]
  omega
 have hdl: ∀i,d i≤d 0:=fun i=>by
  rw [hd]
  exact Nat.mul_le_mul_right _ (Nat.pow_le_pow_right (by omega) (by omega))
 have HD0:=hid hd0;have HDS:=hid hds;have HDI:=hid hdi;have HDL:=hid hdl
 clear hd hd0 hds hdi hdl
 have HL:Hid (∀i,lm l i<4294967296):=hid fun i=>lm_BB ht i
 clear hjz hm htz hb h0
 go_enter Tryz.func148,Tryz.ntmps148
 go_wp2
 go_loopw [3,4] (fun t i wr=> ∃k:Nat,k≤j∧i= .int .i64 k∧t= .int .i64 ((32*k:Nat):Int)∧wr=w) (fun _ i _=>j - (intOf i).toNat)
 case atStart=>exact ⟨0,Nat.zero_le _,rfl,rfl,rfl⟩
 case round=>
  obtain ⟨k,hk,rfl,rfl,rfl⟩:=hrel
  obtain ⟨b,o,rfl,hc⟩:=h.cells k (by omega)
  by_cases hkj:k<j
  ·have hz:=HJZ.out k hkj
   rw [hz] at hc
   clear hz
   go_wp2
   go_roundw
   case rel=>exact ⟨k+1,by omega,by go_num,by go_num,trivial⟩
   case measure=>simp [intOf];omega
  ·obtain rfl:k=j:=by omega
   have hlk:=HL.out k
   obtain ⟨x,hx⟩: ∃x,lm l k=x:=⟨_,rfl⟩
   rw [hx] at hc hj0 hlk
   have HX:=hid hx
   clear hx
   have e1:((32*k:Nat):Int).tdiv 32=(k:Int):=by rw [Int.tdiv_eq_ediv_of_nonneg (by omega)];omega
   have e2:(((32*k:Nat):Int) / 32)=(k:Int):=by omega
   have hx2:((x:Int)==0)=false:=by simpa using hj0
   go_wp2
   go_loopw [3,5] (fun t y wr2=> ∃i:Nat,i≤s∧t= .int .i64 ((32*k+i:Nat):Int)∧y= .int .u32 (d i:Nat)∧wr2=wr) (fun t _ _=>32*k+s - (intOf t).toNat)
   case atStart=>exact ⟨0,Nat.zero_le _,rfl,by rw [HD0.out,HX.out],rfl⟩
   case round=>
    obtain ⟨i,hi,rfl,rfl,rfl⟩:=hrel
    have hdx:=HDL.out i
    rw [HD0.out,HX.out] at hdx
    by_cases his:i<s
    ·obtain ⟨q1,q2⟩:=HDI.out i his
     obtain ⟨y,hy⟩: ∃y,d i=y:=⟨_,rfl⟩
     rw [hy] at q1 q2 hdx ⊢
     have HY:=hid q2
     clear q2 hy
     go_wp2
     go_roundw
     case rel=>exact ⟨i+1,by omega,by go_num,by rw [←HY.out];go_num,trivial⟩
     case measure=>simp [intOf];omega
    ·obtain rfl:i=s:=by omega
     have q1:=HDS.out
     obtain ⟨y,hy⟩: ∃y,d i=y:=⟨_,rfl⟩
     rw [hy] at q1 hdx ⊢
     clear hy
     go_wp2
     go_ret
     exact ⟨rfl,rfl⟩
end Go.Proofs.Wd

namespace Go.Proofs.Wd
open Go.RowKit Lb
theorem rmul_v {W:World} {m:Nat} {v v':Value} {a b:Nat} (h:LV W m v a) (h':LV W m v' b) (hm:m≤100000):Calls Tryz.prog 73 #[v,v'] W (RetN W (a*b)):=by
 obtain ⟨A,n,c,l,rfl,h1,h2,h3,rfl⟩:=h
 obtain ⟨A',n',c',l',rfl,h1',h2',h3',rfl⟩:=h'
 exact (rmul_any A n c l A' n' c' l' W h1 h1' h2 h2' (by omega) (by omega)).mono fun _ _=>RetNat.v
theorem rtrim_v {W:World} {m:Nat} {v:Value} {a:Nat} (h:LV W m v a) (hm:m≤100000):Calls Tryz.prog 85 #[v] W (RetN W a):=by
 obtain ⟨A,n,c,l,rfl,h1,h2,h3,rfl⟩:=h
 exact (rtrim_any A n c l W h1 h2 (by omega)).mono fun _ _=>RetNat.v
theorem NatV.open {W:World} {v:Value} {x:Nat} (h:NatV W v x): ∃A n c,v= .slice A n c∧(x=0→n=0)∧(0<x→0<n)∧n≤c∧c≤9223372036854775807∧NatV W (.slice A n c) x:=by
 obtain ⟨A,n,c,l,rfl,h1,h2⟩:=h
 have h3:=h1.zero_iff;have h4:=h1.pos_iff
 rw [h2.len] at h3 h4
 exact ⟨A,n,c,rfl,h3.1,h4.1,h2.le,h2.cap,⟨A,n,c,l,rfl,h1,h2⟩⟩
end Go.Proofs.Wd

namespace Lb
set_option maxHeartbeats 2000000
theorem odd_of {x k:Nat} (h:TZ x k):x / 2^k % 2=1∧x / 2^k≤x∧0<x / 2^k:=by
 have:=h.part.2
 exact ⟨this,Nat.div_le_self _ _,Nat.pos_of_ne_zero fun e=>by rw [e] at this;simp at this⟩
def Bin (G x y:Nat):Prop:=0<y∧(x=0→y=G)∧ ∀i j,TZ x i→TZ y j→Nat.gcd (x / 2^i) (y / 2^j)=G
theorem Bin.start {a b i j:Nat} (hi:TZ a i) (hj:TZ b j):Bin (Nat.gcd (a / 2^i) (b / 2^j)) a b:=
 ⟨hj.pos,fun e=>by have:=hi.pos;omega,fun i' j' h1 h2=>by rw [h1.unique hi,h2.unique hj]⟩
theorem Bin.turn {G x y:Nat} (hx:x % 2=1) (hy:y % 2=1) (hg:Nat.gcd x y=G) (hle:y≤x):Bin G (x - y) y:=by
 refine ⟨by omega,fun e=> ?_,fun i j h1 h2=> ?_⟩
 ·have:x=y:=by omega
  rw [←hg,this,Nat.gcd_self]
 ·have hj:j=0:=h2.unique (TZ.odd hy)
  rw [hj,Nat.pow_zero,Nat.div_one,Nat.gcd_comm,TZ.gcd_odd hy h1,Nat.gcd_comm,gcd_less hle,hg]
end Lb
namespace Go.Proofs.Wd
open Go.RowKit Lb
theorem rdown_v {W:World} {m:Nat} {A:Option Addr} {n c:Nat} {x q t:Nat} (h:NatV W (.slice A n c) x) (hx:x<BB^m) (hm:m≤2000) (htt:t≤31) (hq:q<n):Calls Tryz.prog 149 #[.slice A n c, .int .i64 ((32*q+t:Nat):Int)] W (RetN W (x / 2^(32*q+t))):=by
 obtain ⟨A1,n1,c1,l1,e1,h1,h2⟩:=h
 cases e1
 have hn:n≤m:=is_len h1 h2 hx
 have:=rdown_any A n c l1 q t W h2 h1.lt htt (by omega) (by omega) (by omega)
 rw [h1.val] at this
 exact this.mono fun _ _=>RetNat.v
theorem rup_v {W:World} {m:Nat} {A:Option Addr} {n c:Nat} {x q t:Nat} (h:LV W m (.slice A n c) x) (hm:m≤2000) (htt:t≤31) (hq:q≤2000):Calls Tryz.prog 152 #[.slice A n c, .int .i64 ((32*q+t:Nat):Int)] W (RetN W (x*2^(32*q+t))):=by
 obtain ⟨A1,n1,c1,l1,e1,h1,h2,h3,rfl⟩:=h
 cases e1
 exact (rup_any A n c l1 q t W h1 h2 htt (by omega) (by omega)).mono fun _ _=>RetNat.v
def RetSb (w:World) (x:Nat):Ending→World→Prop:=fun e w'=> ∃v,e= .returned (.tuple #[v, .int .i64 0])∧NatV w' v x∧Below w.heap.size w w'
theorem rsub_v {W:World} {m:Nat} {v v':Value} {a b:Nat} (h:LV W m v a) (h':LV W m v' b) (hm:m≤2000) (hab:b≤a):Calls Tryz.prog 151 #[v,v'] W (RetSb W (a - b)):=by
 obtain ⟨A,n,c,l,rfl,h1,h2,h3,rfl⟩:=h
 obtain ⟨A',n',c',l',rfl,h1',h2',h3',rfl⟩:=h'
 refine (rsub_any A n c l A' n' c' l' W h1 h1' h2 h2' hab (by omega)).mono ?_
 rintro e w' ⟨A1,n1,c1,l1,rfl,i1,r1,hb⟩
 exact ⟨_,rfl,⟨A1,n1,c1,l1,rfl,i1,r1⟩,hb⟩
theorem twos_v {W:World} {m:Nat} {A:Option Addr} {n c:Nat} {x:Nat} (h:NatV W (.slice A n c) x) (hx:x<BB^m) (hm:m≤2000) (h0:0<x):
  ∃q t:Nat,TZ x (32*q+t)∧t≤31∧q<n∧n≤m∧Calls Tryz.prog 148 #[.slice A n c] W fun e w'=>e= .returned (.int .i64 ((32*q+t:Nat):Int))∧w'=W:=by
 obtain ⟨A1,n1,c1,l1,e1,h1,h2⟩:=h
 cases e1
 have hn:n≤m:=is_len h1 h2 hx
 obtain ⟨q,t,k1,k2,k3,k4⟩:=twos_any A n c l1 W h2 h1.lt (by rw [h1.val];exact h0) (by omega)
 rw [h1.val] at k1
 exact ⟨q,t,k1,k2,k3,hn,k4⟩
theorem NatV.rdv {W:World} {v:Value} {x:Nat} (h:NatV W v x):rdv W v=x:=by
 obtain ⟨A1,n1,c1,l1,rfl,h1,h2⟩:=h
 exact h2.rdv h1
def RgI (w:World) (m G:Nat) (u v:Value) (W:World):Prop:= ∃A n c A' n' c' x y,u= .slice A n c∧v= .slice A' n' c'∧NatV W (.slice A n c) x∧NatV W (.slice A' n' c') y∧x<BB^m∧y<BB^m∧Bin G x y∧Below w.heap.size w W
theorem r4gcd_v {W:World} {m:Nat} {v v':Value} {a b:Nat} (h:LV W m v a) (h':LV W m v' b) (hm:m≤2000):Calls Tryz.prog 118 #[v,v'] W (RetN W (Nat.gcd a b)):=by
 have hla:=h.bound;have hlb:=h'.bound
 obtain ⟨A0,n0,c0,rfl,-,k1,k2,h⟩:=h.open
 obtain ⟨B0,m0,d0,rfl,-,k3,k4,h'⟩:=h'.open
 go_enter Tryz.func118,Tryz.ntmps118
 go_wp2_with fail
 refine (rtrim_v h (by omega)).mono ?_
 rintro e w1 ⟨va,rfl,ha,b1⟩
 obtain ⟨A,n,c,rfl,za,pa,ia,ja,ha⟩:=ha.open
 go_wp2_with fail
 refine (rtrim_v (h'.below b1) (by omega)).mono ?_
 rintro e w2 ⟨vb,rfl,hb,b2⟩
 obtain ⟨A',n',c',rfl,zb,pb,ib,jb,hb⟩:=hb.open
 have b02:=b1.trans (b2.mono b1.size)
 have ha2:=ha.below b2
 clear h h' ha b1 b2 k1 k2 k3 k4
 by_cases h0:a=0∨b=0
 ·have hg:Nat.gcd a b=a+b:=by
   rcases h0 with e|e
   ·rw [e];simp
   ·rw [e];simp
  have h00:n=0∨(0<n∧n'=0):=by
   rcases Nat.eq_zero_or_pos n with e|e
   ·exact .inl e
   ·refine .inr ⟨e,zb (h0.resolve_left fun e'=> ?_)⟩
    have:=za e';omega
  have HG:=hid hg
  clear za pa zb pb h0 hg
  have ad:=radd2_v (ha2.lv hla) (hb.lv hlb) (by omega) 25
  have bS:Below w2.heap.size w2 (w2.alloc (.cells #[.slice A n c, .slice A' n' c'] 25)):=(Below.refl _ w2).alloc (Nat.le_refl _) _
  have HLA:=hid hla;have HLB:=hid hlb
  clear hla hlb
  rcases h00 with rfl|⟨e1,rfl⟩
  all_goals
   go_wp2_with fail
   refine ad.mono ?_
   rintro e w4 ⟨vs,rfl,hs,b4⟩
   go_wp2_with fail
   go_ret
   exact ⟨vs,rfl,by rw [HG.out];exact hs,b02.trans ((bS.trans (b4.mono bS.size)).mono b02.size)⟩
 ·have hn0:0<n:=pa (by omega)
  have hn0':0<n':=pb (by omega)
  have hnb:((n:Int)==0)=false:=by simp;omega
  have hnb':((n':Int)==0)=false:=by simp;omega
  obtain ⟨q,t,hz,ht,hq,hnm,htw⟩:=twos_v ha2 hla hm (by omega)
  obtain ⟨q',t',hz',ht',hq',hnm',htw'⟩:=twos_v hb hlb hm (by omega)
  have hgcd:=hz.gcd hz'
  have hbin:=Bin.start hz hz'
  have hG0:Nat.gcd (a / 2^(32*q+t)) (b / 2^(32*q'+t'))<BB^m:=gcd_lt (Nat.lt_of_le_of_lt (Nat.div_le_self _ _) hla) (Nat.lt_of_le_of_lt (Nat.div_le_self _ _) hlb)
  obtain ⟨G,hG⟩: ∃G,Nat.gcd (a / 2^(32*q+t)) (b / 2^(32*q'+t'))=G:=⟨_,rfl⟩
  rw [hG] at hgcd hbin hG0
  obtain ⟨p,s,hs,hps,hpq⟩: ∃p s:Nat,s≤31∧p≤2000∧min (32*q+t) (32*q'+t')=32*p+s:=by
   rcases Nat.le_total (32*q+t) (32*q'+t') with e|e
   ·exact ⟨q,t,ht,by omega,by omega⟩
   ·exact ⟨q',t',ht',by omega,by omega⟩
  rw [hpq] at hgcd
  have hmin:min (((32*q+t:Nat):Int)) (((32*q'+t':Nat):Int))=((32*p+s:Nat):Int):=by omega
  have HGC:=hid hgcd;have HBI:=hid hbin;have HG0:=hid hG0
  obtain ⟨k,hk⟩: ∃k,32*q+t=k:=⟨_,rfl⟩
  obtain ⟨k',hk'⟩: ∃k,32*q'+t'=k:=⟨_,rfl⟩
  rw [hk] at htw hmin
  rw [hk'] at htw' hmin
  obtain ⟨K,hK⟩: ∃K,32*p+s=K:=⟨_,rfl⟩
  rw [hK] at hmin
  have HK:=hid hK
  have hK2:K≤64500:=by omega
  have hk2:k≤64500:=by omega
  have hk2':k'≤64500:=by omega
  have HLA:=hid hla;have HLB:=hid hlb
  clear hgcd hbin hG0 hz hz' hG hpq hk hk' hK za pa zb pb hq hq' ht ht' hnm hnm' h0 hla hlb
  go_wp2_with fail
  refine htw.mono ?_
  rintro e w3 ⟨rfl,rfl⟩
  go_wp2_with fail
  refine htw'.mono ?_
  rintro e w3 ⟨rfl,rfl⟩
  go_wp2
  go_loopw [0,1] (RgI W m G) (fun u v wr=>rdv wr u+rdv wr v)
  case atStart=>exact ⟨A,n,c,A',n',c',a,b,rfl,rfl,ha2,hb,HLA.out,HLB.out,HBI.out,b02⟩
  case round=>
   clear ha2 hb b02 hn0 hn0' hnb hnb' htw htw' ia ja ib jb hmin
   obtain ⟨A1,n1,c1,A2,n2,c2,x,y,rfl,rfl,hx,hy,hxl,hyl,hbn,hB⟩:=hrel
   obtain ⟨_,_,_,e1,zx,px,ix,jx,_⟩:=hx.open
   cases e1
   obtain ⟨_,_,_,e1,zy,py,iy,jy,_⟩:=hy.open
   cases e1
   have hy0:=hbn.1
   have HBN:=hid hbn
   have HXL:=hid hxl;have HYL:=hid hyl
   rcases Nat.eq_zero_or_pos n1 with h0|h0
   ·have hx0:x=0:=by
     rcases Nat.eq_zero_or_pos x with e|e
     ·exact e
     ·have:=px e;omega
    have hyG:=hbn.2.1 hx0
    have HYG:=hid hyG
    have hup:=rup_v (q:=p) (t:=s) (hy.lv hyl) hm hs hps
    rw [HK.out] at hup
    subst h0
    clear hbn hxl hyl hx0 hyG zx px zy py
    go_wp2_with fail
    refine hup.mono ?_
    rintro e w5 ⟨v5,rfl,hv5,hb5⟩
    go_wp2_with fail
    go_ret
    exact ⟨v5,rfl,by rw [HGC.out,HK.out, ←HYG.out,Nat.mul_comm];exact hv5,hB.trans (hb5.mono hB.size)⟩
   ·have hx0:0<x:=Nat.pos_of_ne_zero fun e=>by have:=zx e;omega
    obtain ⟨q1,t1,z1,ht1,hq1,hnm1,htw1⟩:=twos_v hx hxl hm hx0
    have hd1:=rdown_v hx hxl hm ht1 hq1
    obtain ⟨o1,o2,o3⟩:=odd_of z1
    obtain ⟨k1,hk1⟩: ∃k,32*q1+t1=k:=⟨_,rfl⟩
    have hk1l:k1≤64500:=by omega
    rw [hk1] at htw1 hd1 z1 o1 o2 o3
    have Z1:=hid z1
    obtain ⟨X,hX⟩: ∃X,x / 2^k1=X:=⟨_,rfl⟩
    have HX:=hid hX
    rw [hX] at hd1 o1 o2 o3
    clear z1 hX hk1 ht1 hq1 hnm1 hbn zx px zy py
    have HO1:=hid o1
    have hrx:=hx.rdv;have hry:=hy.rdv
    have HRX:=hid hrx;have HRY:=hid hry
    clear hrx hry o1
    go_wp2_with fail
    refine htw1.mono ?_
    rintro e w5 ⟨rfl,rfl⟩
    go_wp2_with fail
    refine hd1.mono ?_
    rintro e w6 ⟨v6,rfl,h6,b6⟩
    obtain ⟨A6,n6,c6,rfl,z6,p6,i6,j6,h6⟩:=h6.open
    have hy6:=hy.below b6
    obtain ⟨q2,t2,z2,ht2,hq2,hnm2,htw2⟩:=twos_v hy6 hyl hm hy0
    have hd2:=rdown_v hy6 hyl hm ht2 hq2
    obtain ⟨o4,o5,o6⟩:=odd_of z2
    obtain ⟨k2,hk2⟩: ∃k,32*q2+t2=k:=⟨_,rfl⟩
    have hk2l:k2≤64500:=by omega
    rw [hk2] at htw2 hd2 z2 o4 o5 o6
    have Z2:=hid z2
    obtain ⟨Y,hY⟩: ∃Y,y / 2^k2=Y:=⟨_,rfl⟩
    have HY:=hid hY
    rw [hY] at hd2 o4 o5 o6
    clear z2 hY hk2 ht2 hq2 hnm2 htw1 hd1 z6 p6
    have HO4:=hid o4
    clear o4
    go_wp2_with fail
    refine htw2.mono ?_
    rintro e w7 ⟨rfl,rfl⟩
    go_wp2_with fail
    refine hd2.mono ?_
    rintro e w8 ⟨v8,rfl,h8,b8⟩
    obtain ⟨A8,n8,c8,rfl,z8,p8,i8,j8,h8⟩:=h8.open
    have h68:=h6.below b8
    have b68:=b6.trans (b8.mono b6.size)
    have hB8:=hB.trans (b68.mono hB.size)
    have hXl:X<BB^m:=Nat.lt_of_le_of_lt o2 HXL.out
    have hYl:Y<BB^m:=Nat.lt_of_le_of_lt o5 HYL.out
    have hXY:Nat.gcd X Y=G:=by rw [←HX.out, ←HY.out];exact HBN.out.2.2 _ _ Z1.out Z2.out
    have HXY:=hid hXY
    obtain ⟨cz,hcz⟩: ∃cz,cmpOf X Y=cz:=⟨_,rfl⟩
    have hc1:=rcmp_v (h68.lv hXl) (h8.lv hYl)
    have hcl:cz<0↔X<Y:=by
     rw [←hcz]
     unfold cmpOf
     split
     ·exact ⟨fun _=>by assumption,fun _=>by omega⟩
     ·split
      ·exact ⟨fun h=>by omega,fun h=>by omega⟩
      ·exact ⟨fun h=>by omega,fun h=>by omega⟩
    rw [hcz] at hc1
    clear htw2 hd2 z8 p8 h6 hy6 hx hy hXY hcz hxl hyl
    have HXl:=hid hXl;have HYl:=hid hYl
    clear hXl hYl
    rcases Nat.lt_or_ge X Y with hlt|hge
    ·have hcz:cz<0:=hcl.2 hlt
     have hsb:=rsub_v (h8.lv HYl.out) (h68.lv HXl.out) hm (Nat.le_of_lt hlt)
     have hbt:=Bin.turn (G:=G) HO4.out HO1.out (by rw [Nat.gcd_comm];exact HXY.out) (Nat.le_of_lt hlt)
     have HBT:=hid hbt
     clear hbt hcl
     go_wp2_with fail
     refine hc1.mono ?_
     rintro e w9 ⟨rfl,rfl⟩
     go_wp2_with fail
     refine hsb.mono ?_
     rintro e w10 ⟨v10,rfl,h10,b10⟩
     obtain ⟨A10,n10,c10,rfl,z10,p10,i10,j10,h10⟩:=h10.open
     clear z10 p10
     go_wp2_with fail
     refine ⟨⟨A10,n10,c10,A6,n6,c6,Y - X,X,rfl,rfl,h10,h68.below b10,Nat.lt_of_le_of_lt (Nat.sub_le _ _) HYl.out,HXl.out,HBT.out,hB8.trans (b10.mono hB8.size)⟩, ?_⟩
     show rdv _ _+rdv _ _<rdv _ _+rdv _ _
     rw [h10.rdv,(h68.below b10).rdv,HRX.out,HRY.out]
     omega
    ·have hcz: ¬cz<0:=fun e=>by have:=hcl.1 e;omega
     have hsb:=rsub_v (h68.lv HXl.out) (h8.lv HYl.out) hm hge
     have hbt:=Bin.turn (G:=G) HO1.out HO4.out HXY.out hge
     have HBT:=hid hbt
     clear hbt hcl
     go_wp2_with fail
     refine hc1.mono ?_
     rintro e w9 ⟨rfl,rfl⟩
     go_wp2_with fail
     refine hsb.mono ?_
     rintro e w10 ⟨v10,rfl,h10,b10⟩
     obtain ⟨A10,n10,c10,rfl,z10,p10,i10,j10,h10⟩:=h10.open
     clear z10 p10
     go_wp2_with fail
     refine ⟨⟨A10,n10,c10,A8,n8,c8,X - Y,Y,rfl,rfl,h10,h8.below b10,Nat.lt_of_le_of_lt (Nat.sub_le _ _) HXl.out,HYl.out,HBT.out,hB8.trans (b10.mono hB8.size)⟩, ?_⟩
     show rdv _ _+rdv _ _<rdv _ _+rdv _ _
     rw [h10.rdv,(h8.below b10).rdv,HRX.out,HRY.out]
     omega
end Go.Proofs.Wd

namespace Go.Proofs.Wd
open Go.RowKit Lb
theorem r5of_w {W:World} {u:Value} (k:Int) (hu:u= .int .i64 k) (h: -9223372036854775808≤k∧k≤9223372036854775807):Calls Tryz.prog 74 #[u] W (RetV W k):=by
 subst hu
 exact r5of_v k h
end Go.Proofs.Wd

namespace Go.Proofs.Wd
set_option maxRecDepth 100000
open Go.RowKit Lb
def far7:Nat:=10000
theorem lt_far {x:Nat} (h:x<18446744073709551616) (m:Nat) (hm:2≤m):x<BB^m:=Nat.lt_of_lt_of_le h (Nat.le_trans (show 18446744073709551616≤BB^2 by decide) (Nat.pow_le_pow_right BB_pos hm))
theorem r1small_v {W:World} {m:Nat} {v:Value} {x:Nat} (h:LV W m v x) (hm:m≤100000):Calls Tryz.prog 115 #[v] W (Ret W (fTup2 (UF.eq (.int .u64 ((smallOf x:Nat):Int))) (fB (isSmall x))).toSF):=by
 obtain ⟨A,n,c,l,rfl,h1,h2,h3,rfl⟩:=h
 refine (rsmall_any A n c l W h1 h2 (by omega)).mono ?_
 rintro e w' ⟨rfl,hb⟩
 exact ⟨_,rfl,⟨_,_,rfl,rfl,rfl⟩,hb⟩
theorem r1of_v {W:World} {v:Value} (x:Nat) (hx:x<18446744073709551616) (hv:v= .int .u64 (x:Int)):Calls Tryz.prog 117 #[v] W (Ret W (fNat x).toSF):=by
 subst hv
 exact (rof_any x hx W).mono fun _ _ h=>RetNat.v h
theorem smallOf_lt (x:Nat):smallOf x<18446744073709551616:=by unfold smallOf;split<;>omega
theorem ok_quoI {F:Fence} {m:Nat} {P:Program} {w0:World} {ops:Array Oper} {G:Nat→SF} {d:Tmp} {ty:TypeId} {pos:String} {aft:Array Edge} {t:TypeId} {x y:Operand} {t':TypeId} (k:IntKind) (u v r:Int) (hx: ∀q W,(fct G x).p q W→q= .int k u) (hy: ∀q W,(fct G y).p q W→q= .int k v) (hv:v≠0) (hr:k.wrap (u.tdiv v)=r) (hd: ∀W,(G d).p (.int k r) W:=by exact fun _=>rfl):GdOK F m P w0 ops G ⟨some d, .binOp .quo t x y t',ty,pos,aft,none⟩:=
 ok_bin (.int k u) (.int k v) (.int k r) hx hy (fun W=>by simp [eqGuard]) (fun W=>by simp [binOp,Op.intDiv,hv,hr]) hd
theorem wrapU (u:Int) (r:Nat) (h:u=r) (hr:r<18446744073709551616):IntKind.u64.wrap u=r:=by
 subst h
 rw [IntKind.wrap_u64]
 omega
theorem over_v {W:World} {v:Value} {x:Nat} (h:NatV W v x):Calls Tryz.prog 88 #[v] W (Ret W (fNV ((x:Int))).toSF):=by
 refine run_st [(fNat (x)).toSF] Tryz.func88 rfl (by kernel_rfl) ⟨h,trivial⟩ fun a s=> ?_
 refine wpIn_seq ?_
 refine region_go 0 [] hmix s (by kernel_rfl)
  obs_nil fun a w1 s=> ?_
 refine t_alloc (CU.len 2) (cs:= [.bool false, .slice none 0 0]) (by kernel_rfl) rfl s (by kernel_rfl) (fun W=>rfl) rfl fun b2 a w s=> ?_
 refine tail_end rfl ?_
 refine wpIn_seq ?_
 refine region_go 2 ((3, .s ((fNat (x)).toSF))::(4, .u (fNV ((x:Int)))):: []) hmix s (by kernel_rfl)
  (oc ok_move<|oc (ok_build1 (fun u W (hu:NatV W u (x))=>b_whole hu))<|obs_nil) fun a w2 s=> ?_
 refine t_store (CU.agg (fNV ((x:Int)))) ((fNV ((x:Int))).toSF) rfl s (by kernel_rfl) rfl rfl rfl iiz iiz (nv_store) fun a w s=> ?_
 refine tail_end rfl ?_
 refine wpIn_ret ?_
 exact StS.resC s (CU.agg (fNV ((x:Int)))) rfl (by kernel_rfl) rfl rfl (nv_len _) (fun cs W h=>h)
theorem r7of_w {W:World} {v:Value} (z:Int) (hv:v= .int .i64 z) (hz: -9223372036854775808≤z∧z≤9223372036854775807):Calls Tryz.prog 27 #[v] W (Ret W (fQN (z:Rat)).toSF):=by
 refine run_st [(fI z).toSF] Tryz.func27 rfl (by kernel_rfl) ⟨hv,trivial⟩ fun a s=> ?_
 refine wpIn_seq ?_
 refine region_go 0 [] hmix s (by kernel_rfl)
  obs_nil fun a w1 s=> ?_
 refine t_alloc (CU.len 3) (cs:= [.bool false, .slice none 0 0, .slice none 0 0]) (by kernel_rfl) rfl s (by kernel_rfl) (fun W=>rfl) rfl fun b2 a w s=> ?_
 refine tail_end rfl ?_
 refine wpIn_seq ?_
 refine region_go 4 ((3, .s ((UF.eq (.int .i64 (z))).toSF))::(4, .s ((fNV (z)).toSF))::(5, .s ((fNat (1)).toSF))::(6, .u (fQN ((z:Rat)))):: []) hmix s (by kernel_rfl)
  (oc ok_move<|oc (ok_call1 wide_wide en_74 (fun u0 W hb (h0:u0= .int .i64 (z))=>r5of_w z h0 hz))<|oc (ok_slice1 (fun u W (hu:u= .int .u32 1)=>sl_one hu))<|oc (ok_build2 (fun u v W (hu:NV W u z) (hv:NatV W v 1)=>b_ratN (q:=(z:Rat)) hu hv))<|obs_nil) fun a w2 s=> ?_
 refine t_store (CU.agg (fQN ((z:Rat)))) ((fQN ((z:Rat))).toSF) rfl s (by kernel_rfl) rfl rfl rfl iiz iiz (qn_store) fun a w s=> ?_
 refine tail_end rfl ?_
 refine wpIn_ret ?_
 exact StS.resC s (CU.agg (fQN (z:Rat))) rfl (by kernel_rfl) rfl rfl (qn_len _) (fun cs W h=>h)
theorem mkRat_num_if (k:Int) (d:Nat) (h:0<d):(if decide (k<0) then -((k.natAbs / Nat.gcd k.natAbs d:Nat):Int) else ((k.natAbs / Nat.gcd k.natAbs d:Nat):Int))=(mkRat k d).num:=by
 have h1:=mkRat_num_abs k d h
 have h2:=mkRat_neg_iff k d h
 rw [←h1, ←h2]
 by_cases hs:(mkRat k d).num<0
 ·rw [decide_eq_true hs,if_pos rfl]
  omega
 ·rw [decide_eq_false hs,if_neg (by decide)]
  omega
theorem r7new_z {W:World} {m:Nat} {v v':Value} {k:Int} {d:Nat} (h:UV W m v k) (h':LV W m v' d) (hm:m≤2000) (hd:d=0):Calls Tryz.prog 71 #[v,v'] W (Ret W (fTup2 (fQN (mkRat k d)) (fI 30)).toSF):=by
 have bk:k.natAbs<BB^m:=h.bound
 have hz:true=decide (d=0):=(decide_eq_true hd).symm
 have hq0:mkRat k d=((0:Int):Rat):=by rw [hd,Rat.mkRat_zero];rfl
 refine run_st [(fUV m k).toSF,(fLV m d).toSF] Tryz.func71 rfl (by kernel_rfl) ⟨h,h',trivial⟩ fun a s=> ?_
 refine wpIn_seq ?_
 refine region_go 0 [] hmix s (by kernel_rfl)
  obs_nil fun a w1 s=> ?_
 refine t_box (CU.agg (fUV (m) (k))) rfl s (by kernel_rfl) (fun v W h=>uv_box h) fun b2 a w s=> ?_
 refine t_alloc (CU.len 3) (cs:= [.bool false, .slice none 0 0, .slice none 0 0]) (by kernel_rfl) rfl s (by kernel_rfl) (fun W=>rfl) rfl fun b4 a w s=> ?_
 refine t_set (UF.eq (.int .i64 (0))) rfl s (by kernel_rfl) iiz fun a w s=> ?_
 refine tail_end rfl ?_
 refine wpIn_seq ?_
 refine wpIn_seq ?_
 refine region_go 4 ((18, .s ((fLV (m) (d)).toSF))::(19, .s ((fNat (d)).toSF))::(20, .s (fLen d))::(21, .u (UF.eq (.bool true))):: []) hmix s (by kernel_rfl)
  (oc ok_move<|oc (ok_call1 wide_wide en_85 (fun u0 W hb (h0:LV W (m) u0 (d))=>(rtrim_v h0 (by omega))))<|oc (ok_lenN (by kernel_rfl) iiz)<|oc (ok_eql0 hz)<|obs_nil) fun a w2 s=> ?_
 refine tail_end rfl ?_
 refine StS.cond s true iiz (fun e=> ?_) (fun e=>by cases e)
 refine wpIn_seq ?_
 replace s:=s.drop [5]
 refine region_go 1 ((22, .u (fQN (((0:Int):Rat)))):: []) hmix s (by kernel_rfl)
  (oc (ok_call1 wide_wide en_27 (fun u0 W hb (h0:u0= .int .i64 (0))=>r7of_w 0 h0 (by decide)))<|obs_nil) fun a w3 s=> ?_
 refine t_store (CU.agg (fQN (((0:Int):Rat)))) ((fQN (((0:Int):Rat))).toSF) rfl s (by kernel_rfl) rfl rfl rfl iiz iiz (qn_store) fun a w s=> ?_
 refine t_set (UF.eq (.int .i64 (30))) rfl s (by kernel_rfl) iiz fun a w s=> ?_
 refine tail_end rfl ?_
 refine wpIn_ret ?_
 exact StS.resCT s (CU.agg (fQN ((0:Int):Rat))) rfl (by kernel_rfl) rfl rfl (qn_len _) (fun cs v W h1 h2=>⟨_,_,rfl,by rw [hq0];exact h1,h2⟩)
theorem r7new_p {W:World} {m:Nat} {v v':Value} {k:Int} {d:Nat} (h:UV W m v k) (h':LV W m v' d) (hm:m≤2000) (hd0:0<d):Calls Tryz.prog 71 #[v,v'] W (Ret W (fTup2 (fQN (mkRat k d)) (fI 0)).toSF):=by
 have bk:k.natAbs<BB^m:=h.bound
 have hz:false=decide (d=0):=(decide_eq_false (by omega)).symm
 have hdiv: ∀W u0 u1 x,LV W m u0 x→NatV W u1 (Nat.gcd k.natAbs d)→Calls Tryz.prog 119 #[u0,u1] W (Ret W (fTup3 (fNat ((x) / (Nat.gcd k.natAbs d))) (fNat ((x) % (Nat.gcd k.natAbs d))) (fI 0)).toSF):=fun W u0 u1 x h1 h2=>by
  refine (rdiv_v h1 (NatV.lv (m:=m) h2 (Nat.lt_of_le_of_lt (Nat.gcd_le_right _ hd0) h'.bound)) (by omega) (Nat.gcd_pos_of_pos_right _ hd0)).mono ?_
  rintro e w' ⟨v1,v2,rfl,h3,h4,hb⟩
  exact ⟨_,rfl,⟨v1,v2,_,rfl,h3,h4,rfl⟩,hb⟩
 refine run_st [(fUV m k).toSF,(fLV m d).toSF] Tryz.func71 rfl (by kernel_rfl) ⟨h,h',trivial⟩ fun a s=> ?_
 refine wpIn_seq ?_
 refine region_go 0 [] hmix s (by kernel_rfl)
  obs_nil fun a w1 s=> ?_
 refine t_box (CU.agg (fUV (m) (k))) rfl s (by kernel_rfl) (fun v W h=>uv_box h) fun b2 a w s=> ?_
 refine t_alloc (CU.len 3) (cs:= [.bool false, .slice none 0 0, .slice none 0 0]) (by kernel_rfl) rfl s (by kernel_rfl) (fun W=>rfl) rfl fun b4 a w s=> ?_
 refine t_set (UF.eq (.int .i64 (0))) rfl s (by kernel_rfl) iiz fun a w s=> ?_
 refine tail_end rfl ?_
 refine wpIn_seq ?_
 refine wpIn_seq ?_
 refine region_go 4 ((18, .s ((fLV (m) (d)).toSF))::(19, .s ((fNat (d)).toSF))::(20, .s (fLen d))::(21, .u (UF.eq (.bool false))):: []) hmix s (by kernel_rfl)
  (oc ok_move<|oc (ok_call1 wide_wide en_85 (fun u0 W hb (h0:LV W (m) u0 (d))=>(rtrim_v h0 (by omega))))<|oc (ok_lenN (by kernel_rfl) iiz)<|oc (ok_eql0 hz)<|obs_nil) fun a w2 s=> ?_
 refine tail_end rfl ?_
 refine StS.cond s false iiz (fun e=>by cases e) (fun e=> ?_)
 refine wpIn_skip ?_
 refine wpIn_seq ?_
 refine region_go 2 ((23, .s ((fUV (m) (k)).toSF))::(24, .u (fNV (k))):: []) hmix s (by kernel_rfl)
  (oc (ok_ldW (f:=fUV (m) (k)) 2 (by kernel_rfl) (hz:=uv_len _ _))<|oc (ok_call1 wide_wide en_114 (fun u0 W hb (h0:UV W (m) u0 (k))=>r5norm_w h0 (by omega)))<|obs_nil) fun a w3 s=> ?_
 refine t_store (CU.agg (fNV (k))) ((fNV (k)).toSF) rfl s (by kernel_rfl) rfl rfl rfl (uv_len _ _) iiz (nv_store) fun a w s=> ?_
 refine tail_end rfl ?_
 refine wpIn_seq ?_
 refine region_go 8 ((26, .s (SF.ptr ((CU.agg (fNV (k))).cf.at 1)))::(27, .s ((fNat ((k).natAbs)).toSF))::(28, .s ((fTup2 (UF.eq (.int .u64 (((smallOf ((k).natAbs):Nat):Int)))) (UF.eq (.bool (isSmall ((k).natAbs))))).toSF))::(25, .s ((fTup2 (UF.eq (.int .u64 (((smallOf ((k).natAbs):Nat):Int)))) (UF.eq (.bool (isSmall ((k).natAbs))))).toSF))::(29, .s ((UF.eq (.int .u64 (((smallOf ((k).natAbs):Nat):Int)))).toSF))::(30, .s ((UF.eq (.bool (isSmall ((k).natAbs)))).toSF))::(6, .u (UF.eq (.int .u64 (((smallOf ((k).natAbs):Nat):Int)))))::(7, .u (UF.eq (.bool (isSmall ((k).natAbs))))):: []) hmix s (by kernel_rfl)
  (oc (ok_fld (C:=(CU.agg (fNV (k))).cf) 1 (by kernel_rfl))<|oc (ok_ld (C:=(CU.agg (fNV (k))).cf) (k:=1) (by kernel_rfl) (h:=nv_abs))<|oc (ok_call1 wide_wide en_115 (fun u0 W hb (h0:NatV W u0 ((k).natAbs))=>r1small_v (NatV.lv (m:=m) h0 bk) (by omega)))<|oc ok_move<|oc (ok_ext20 (A:=(UF.eq (.int .u64 (((smallOf ((k).natAbs):Nat):Int)))).toSF) (B:=(UF.eq (.bool (isSmall ((k).natAbs)))).toSF) iiz)<|oc (ok_ext21 (A:=(UF.eq (.int .u64 (((smallOf ((k).natAbs):Nat):Int)))).toSF) (B:=(UF.eq (.bool (isSmall ((k).natAbs)))).toSF) iiz)<|oc (ok_assign)<|oc (ok_assign)<|obs_nil) fun a w4 s=> ?_
 refine tail_end rfl ?_
 refine wpIn_seq ?_
 refine region_go 7 ((32, .s ((fLV (m) (d)).toSF))::(33, .s ((fTup2 (UF.eq (.int .u64 (((smallOf (d):Nat):Int)))) (UF.eq (.bool (isSmall (d))))).toSF))::(31, .s ((fTup2 (UF.eq (.int .u64 (((smallOf (d):Nat):Int)))) (UF.eq (.bool (isSmall (d))))).toSF))::(34, .s ((UF.eq (.int .u64 (((smallOf (d):Nat):Int)))).toSF))::(35, .s ((UF.eq (.bool (isSmall (d)))).toSF))::(8, .u (UF.eq (.int .u64 (((smallOf (d):Nat):Int)))))::(9, .u (UF.eq (.bool (isSmall (d))))):: []) hmix s (by kernel_rfl)
  (oc ok_move<|oc (ok_call1 wide_wide en_115 (fun u0 W hb (h0:LV W (m) u0 (d))=>r1small_v h0 (by omega)))<|oc ok_move<|oc (ok_ext20 (A:=(UF.eq (.int .u64 (((smallOf (d):Nat):Int)))).toSF) (B:=(UF.eq (.bool (isSmall (d)))).toSF) iiz)<|oc (ok_ext21 (A:=(UF.eq (.int .u64 (((smallOf (d):Nat):Int)))).toSF) (B:=(UF.eq (.bool (isSmall (d)))).toSF) iiz)<|oc (ok_assign)<|oc (ok_assign)<|obs_nil) fun a w5 s=> ?_
 refine tail_end rfl ?_
 refine wpIn_seq ?_
 refine wpIn_seq ?_
 refine region_go 4 ((36, .s ((UF.eq (.bool (isSmall ((k).natAbs)))).toSF))::(37, .s ((UF.eq (.bool (isSmall ((k).natAbs)))).toSF))::(38, .s (SF.imp ((isSmall ((k).natAbs))=true) ((UF.eq (.bool (isSmall (d)))).toSF)))::(39, .u (UF.eq (.bool ((isSmall ((k).natAbs))&&(isSmall (d)))))):: []) hmix s (by kernel_rfl)
  (oc ok_move<|oc ok_move<|oc (ok_guard 37 (isSmall ((k).natAbs)) (by kernel_rfl) iiz (fun e=>gd_imp [] ((UF.eq (.bool (isSmall (d)))).toSF) (fnz) (fun _ _ h _=>h) (by kernel_rfl) (ok_move)) (fun e W h=>absurd h e))<|oc (ok_pick (isSmall ((k).natAbs)) iiz (fun e v W h=>pick_and (imp_app e h) e) (fun e v W h=>pick_and' h e))<|obs_nil) fun a w6 s=> ?_
 refine tail_end rfl ?_
 refine StS.cond s ((isSmall ((k).natAbs))&&(isSmall (d))) iiz (fun e=> ?_) (fun e=> ?_)
 ·rw [Bool.and_eq_true] at e
  have hs1:smallOf k.natAbs=k.natAbs:=by have:=e.1;unfold isSmall at this;unfold smallOf;rw [if_pos (of_decide_eq_true this)]
  have hs2:smallOf d=d:=by have:=e.2;unfold isSmall at this;unfold smallOf;rw [if_pos (of_decide_eq_true this)]
  have hg0:(((Nat.gcd (smallOf k.natAbs) (smallOf d):Nat)):Int)≠0:=by rw [hs1,hs2];have:=Nat.gcd_pos_of_pos_right k.natAbs hd0;omega
  have hden:(mkRat k d).den=smallOf d / (Nat.gcd (smallOf k.natAbs) (smallOf d)):=by rw [hs1,hs2];exact mkRat_den_eq k d hd0
  have hlt: ∀x,x<18446744073709551616→x<BB^far7:=fun x hx=>lt_far hx _ (by decide)
  have hnum: ∀W u,UV W far7 u (if decide (k<0) then -(((smallOf k.natAbs / (Nat.gcd (smallOf k.natAbs) (smallOf d))):Nat):Int) else (((smallOf k.natAbs / (Nat.gcd (smallOf k.natAbs) (smallOf d))):Nat):Int))→Calls Tryz.prog 114 #[u] W (RetV W (mkRat k d).num):=fun W u hu=>by
   have:=r5norm_w hu (by decide)
   rw [hs1,hs2,mkRat_num_if k d hd0] at this
   exact this
  refine wpIn_seq ?_
  refine region_go 4 ((40, .s ((UF.eq (.int .u64 (((smallOf ((k).natAbs):Nat):Int)))).toSF))::(41, .s ((UF.eq (.int .u64 (((smallOf (d):Nat):Int)))).toSF))::(42, .s ((UF.eq (.int .u64 (((Nat.gcd (smallOf k.natAbs) (smallOf d):Nat):Int)))).toSF))::(10, .u (UF.eq (.int .u64 (((Nat.gcd (smallOf k.natAbs) (smallOf d):Nat):Int))))):: []) hmix s (by kernel_rfl)
   (oc ok_move<|oc ok_move<|oc (ok_call2 wide_wide en_116 (fun u0 u1 W hb (h0:u0= .int .u64 (((smallOf ((k).natAbs):Nat):Int))) (h1:u1= .int .u64 (((smallOf (d):Nat):Int)))=>r7plain_t _ _ h0 h1 (smallOf_lt _) (smallOf_lt _)))<|oc (ok_assign)<|obs_nil) fun a w7 s=> ?_
  refine tail_end rfl ?_
  refine wpIn_seq ?_
  replace s:=s.drop [5]
  refine region_goP [2,3,8,9] 13 ((43, .s (SF.ptr ((CU.agg (fNV (k))).cf.at 0)))::(44, .s ((UF.eq (.bool (decide (k<0)))).toSF))::(45, .s ((UF.eq (.int .u64 (((smallOf ((k).natAbs):Nat):Int)))).toSF))::(46, .s ((UF.eq (.int .u64 (((Nat.gcd (smallOf k.natAbs) (smallOf d):Nat):Int)))).toSF))::(47, .s ((UF.eq (.int .u64 (((smallOf k.natAbs / (Nat.gcd (smallOf k.natAbs) (smallOf d)):Nat):Int)))).toSF))::(48, .s ((fNat (smallOf k.natAbs / (Nat.gcd (smallOf k.natAbs) (smallOf d)))).toSF))::(49, .s ((fUV (far7) ((if decide (k<0) then -((smallOf k.natAbs / (Nat.gcd (smallOf k.natAbs) (smallOf d)):Nat):Int) else ((smallOf k.natAbs / (Nat.gcd (smallOf k.natAbs) (smallOf d)):Nat):Int)))).toSF))::(50, .s ((fNV ((mkRat k d).num)).toSF))::(51, .s ((UF.eq (.int .u64 (((smallOf (d):Nat):Int)))).toSF))::(52, .s ((UF.eq (.int .u64 (((Nat.gcd (smallOf k.natAbs) (smallOf d):Nat):Int)))).toSF))::(53, .s ((UF.eq (.int .u64 (((smallOf d / (Nat.gcd (smallOf k.natAbs) (smallOf d)):Nat):Int)))).toSF))::(54, .s ((fNat (smallOf d / (Nat.gcd (smallOf k.natAbs) (smallOf d)))).toSF))::(55, .u (fQN (mkRat k d))):: []) hmix s (by kernel_rfl)
   (oc (ok_fld (C:=(CU.agg (fNV (k))).cf) 0 (by kernel_rfl))<|oc (ok_ld (C:=(CU.agg (fNV (k))).cf) (k:=0) (by kernel_rfl) (h:=nv_neg))<|oc ok_move<|oc ok_move<|oc (ok_quoI .u64 (((smallOf ((k).natAbs):Nat):Int)) (((Nat.gcd (smallOf k.natAbs) (smallOf d):Nat):Int)) ((smallOf k.natAbs / (Nat.gcd (smallOf k.natAbs) (smallOf d)):Nat):Int) iiz iiz hg0 (wrapU _ _ (by rw [Int.tdiv_eq_ediv_of_nonneg (by omega),Int.natCast_ediv]) (Nat.lt_of_le_of_lt (Nat.div_le_self _ _) (smallOf_lt _))))<|oc (ok_call1 wide_wide en_117 (fun u0 W hb (h0:u0= .int .u64 (((smallOf k.natAbs / (Nat.gcd (smallOf k.natAbs) (smallOf d)):Nat):Int)))=>r1of_v _ (Nat.lt_of_le_of_lt (Nat.div_le_self _ _) (smallOf_lt _)) h0))<|oc (ok_build2 (fun u v W (hu:u= .bool (decide (k<0))) (hv:NatV W v (smallOf k.natAbs / (Nat.gcd (smallOf k.natAbs) (smallOf d))))=>b_int hu hv (hlt _ (by first|exact Nat.lt_of_le_of_lt (Nat.div_le_self _ _) (smallOf_lt _)|exact hk64|exact Nat.lt_of_le_of_lt (Nat.div_le_self _ _) (Nat.lt_of_lt_of_le bk (Nat.pow_le_pow_right BB_pos (Nat.le_trans hm (by decide))))))))<|oc (ok_call1 wide_wide en_114 (fun u0 W hb (h0:UV W (far7) u0 ((if decide (k<0) then -((smallOf k.natAbs / (Nat.gcd (smallOf k.natAbs) (smallOf d)):Nat):Int) else ((smallOf k.natAbs / (Nat.gcd (smallOf k.natAbs) (smallOf d)):Nat):Int))))=>hnum W u0 (h0:UV W far7 u0 _)))<|oc ok_move<|oc ok_move<|oc (ok_quoI .u64 (((smallOf (d):Nat):Int)) (((Nat.gcd (smallOf k.natAbs) (smallOf d):Nat):Int)) ((smallOf d / (Nat.gcd (smallOf k.natAbs) (smallOf d)):Nat):Int) iiz iiz hg0 (wrapU _ _ (by rw [Int.tdiv_eq_ediv_of_nonneg (by omega),Int.natCast_ediv]) (Nat.lt_of_le_of_lt (Nat.div_le_self _ _) (smallOf_lt _))))<|oc (ok_call1 wide_wide en_117 (fun u0 W hb (h0:u0= .int .u64 (((smallOf d / (Nat.gcd (smallOf k.natAbs) (smallOf d)):Nat):Int)))=>r1of_v _ (Nat.lt_of_le_of_lt (Nat.div_le_self _ _) (smallOf_lt _)) h0))<|oc (ok_build2 (fun u v W (hu:NV W u ((mkRat k d).num)) (hv:NatV W v (smallOf d / (Nat.gcd (smallOf k.natAbs) (smallOf d))))=>b_ratN (q:=mkRat k d) hu (by first|exact hv|(rw [hden];exact hv))))<|obs_nil) fun Q' hQ a w8 s=> ?_
  refine t_store (CU.agg (fQN (mkRat k d))) ((fQN (mkRat k d)).toSF) rfl s (by kernel_rfl) rfl rfl rfl iiz iiz (qn_store) fun a w s=> ?_
  refine t_set (UF.eq (.int .i64 (0))) rfl s (by kernel_rfl) iiz fun a w s=> ?_
  refine tail_end rfl (hQ _ _ ?_)
  refine wpIn_ret ?_
  exact StS.resCT s (CU.agg (fQN (mkRat k d))) rfl (by kernel_rfl) rfl rfl (qn_len _) (fun cs v W h1 h2=>⟨_,_,rfl,h1,h2⟩)
 ·have hlt: ∀x,x<BB^far7→x<BB^far7:=fun x hx=>hx
  have hden:(mkRat k d).den=(d) / (Nat.gcd k.natAbs d):=mkRat_den_eq k d hd0
  have hnum: ∀W u,UV W far7 u (if decide (k<0) then -((((k).natAbs / (Nat.gcd k.natAbs d)):Nat):Int) else ((((k).natAbs / (Nat.gcd k.natAbs d)):Nat):Int))→Calls Tryz.prog 114 #[u] W (RetV W (mkRat k d).num):=fun W u hu=>by
   have:=r5norm_w hu (by decide)
   rw [mkRat_num_if k d hd0] at this
   exact this
  refine wpIn_skip ?_
  refine wpIn_seq ?_
  refine region_go 5 ((56, .s (SF.ptr ((CU.agg (fNV (k))).cf.at 1)))::(57, .s ((fNat ((k).natAbs)).toSF))::(58, .s ((fLV (m) (d)).toSF))::(59, .s ((fNat (Nat.gcd k.natAbs d)).toSF))::(11, .u (fNat (Nat.gcd k.natAbs d))):: []) hmix s (by kernel_rfl)
   (oc (ok_fld (C:=(CU.agg (fNV (k))).cf) 1 (by kernel_rfl))<|oc (ok_ld (C:=(CU.agg (fNV (k))).cf) (k:=1) (by kernel_rfl) (h:=nv_abs))<|oc ok_move<|oc (ok_call2 wide_wide en_118 (fun u0 u1 W hb (h0:NatV W u0 ((k).natAbs)) (h1:LV W (m) u1 (d))=>r4gcd_v (NatV.lv (m:=m) h0 bk) h1 (by omega)))<|oc (ok_assign)<|obs_nil) fun a w9 s=> ?_
  refine tail_end rfl ?_
  refine wpIn_seq ?_
  refine region_go 11 ((61, .s (SF.ptr ((CU.agg (fNV (k))).cf.at 1)))::(62, .s ((fNat ((k).natAbs)).toSF))::(63, .s ((fNat (Nat.gcd k.natAbs d)).toSF))::(64, .s ((fTup3 (fNat (((k).natAbs) / (Nat.gcd k.natAbs d))) (fNat (((k).natAbs) % (Nat.gcd k.natAbs d))) (UF.eq (.int .i64 (0)))).toSF))::(60, .s ((fTup3 (fNat (((k).natAbs) / (Nat.gcd k.natAbs d))) (fNat (((k).natAbs) % (Nat.gcd k.natAbs d))) (UF.eq (.int .i64 (0)))).toSF))::(65, .s ((fNat (((k).natAbs) / (Nat.gcd k.natAbs d))).toSF))::(66, .s ((fNat (((k).natAbs) % (Nat.gcd k.natAbs d))).toSF))::(67, .s ((UF.eq (.int .i64 (0))).toSF))::(12, .u (fNat (((k).natAbs) / (Nat.gcd k.natAbs d))))::(13, .s ((fNat (((k).natAbs) % (Nat.gcd k.natAbs d))).toSF))::(14, .s ((UF.eq (.int .i64 (0))).toSF)):: []) hmix s (by kernel_rfl)
   (oc (ok_fld (C:=(CU.agg (fNV (k))).cf) 1 (by kernel_rfl))<|oc (ok_ld (C:=(CU.agg (fNV (k))).cf) (k:=1) (by kernel_rfl) (h:=nv_abs))<|oc ok_move<|oc (ok_call2 wide_wide en_119 (fun u0 u1 W hb (h0:NatV W u0 ((k).natAbs)) (h1:NatV W u1 (Nat.gcd k.natAbs d))=>hdiv W u0 u1 _ (NatV.lv (m:=m) h0 bk) h1))<|oc ok_move<|oc (ok_ext30 (A:=(fNat (((k).natAbs) / (Nat.gcd k.natAbs d))).toSF) (B:=(fNat (((k).natAbs) % (Nat.gcd k.natAbs d))).toSF) (C:=(UF.eq (.int .i64 (0))).toSF) iiz)<|oc (ok_ext31 (A:=(fNat (((k).natAbs) / (Nat.gcd k.natAbs d))).toSF) (B:=(fNat (((k).natAbs) % (Nat.gcd k.natAbs d))).toSF) (C:=(UF.eq (.int .i64 (0))).toSF) iiz)<|oc (ok_ext32 (A:=(fNat (((k).natAbs) / (Nat.gcd k.natAbs d))).toSF) (B:=(fNat (((k).natAbs) % (Nat.gcd k.natAbs d))).toSF) (C:=(UF.eq (.int .i64 (0))).toSF) iiz)<|oc (ok_assign)<|oc (ok_assign)<|oc (ok_assign)<|obs_nil) fun a w10 s=> ?_
  refine tail_end rfl ?_
  refine wpIn_seq ?_
  refine region_go 10 ((69, .s ((fLV (m) (d)).toSF))::(70, .s ((fNat (Nat.gcd k.natAbs d)).toSF))::(71, .s ((fTup3 (fNat ((d) / (Nat.gcd k.natAbs d))) (fNat ((d) % (Nat.gcd k.natAbs d))) (UF.eq (.int .i64 (0)))).toSF))::(68, .s ((fTup3 (fNat ((d) / (Nat.gcd k.natAbs d))) (fNat ((d) % (Nat.gcd k.natAbs d))) (UF.eq (.int .i64 (0)))).toSF))::(72, .s ((fNat ((d) / (Nat.gcd k.natAbs d))).toSF))::(73, .s ((fNat ((d) % (Nat.gcd k.natAbs d))).toSF))::(74, .s ((UF.eq (.int .i64 (0))).toSF))::(15, .u (fNat ((d) / (Nat.gcd k.natAbs d))))::(16, .s ((fNat ((d) % (Nat.gcd k.natAbs d))).toSF))::(17, .s ((UF.eq (.int .i64 (0))).toSF)):: []) hmix s (by kernel_rfl)
   (oc ok_move<|oc ok_move<|oc (ok_call2 wide_wide en_119 (fun u0 u1 W hb (h0:LV W (m) u0 (d)) (h1:NatV W u1 (Nat.gcd k.natAbs d))=>hdiv W u0 u1 _ h0 h1))<|oc ok_move<|oc (ok_ext30 (A:=(fNat ((d) / (Nat.gcd k.natAbs d))).toSF) (B:=(fNat ((d) % (Nat.gcd k.natAbs d))).toSF) (C:=(UF.eq (.int .i64 (0))).toSF) iiz)<|oc (ok_ext31 (A:=(fNat ((d) / (Nat.gcd k.natAbs d))).toSF) (B:=(fNat ((d) % (Nat.gcd k.natAbs d))).toSF) (C:=(UF.eq (.int .i64 (0))).toSF) iiz)<|oc (ok_ext32 (A:=(fNat ((d) / (Nat.gcd k.natAbs d))).toSF) (B:=(fNat ((d) % (Nat.gcd k.natAbs d))).toSF) (C:=(UF.eq (.int .i64 (0))).toSF) iiz)<|oc (ok_assign)<|oc (ok_assign)<|oc (ok_assign)<|obs_nil) fun a w11 s=> ?_
  refine tail_end rfl ?_
  refine wpIn_seq ?_
  replace s:=s.drop [5]
  refine region_go 7 ((75, .s (SF.ptr ((CU.agg (fNV (k))).cf.at 0)))::(76, .s ((UF.eq (.bool (decide (k<0)))).toSF))::(77, .s ((fNat (((k).natAbs) / (Nat.gcd k.natAbs d))).toSF))::(78, .s ((fUV (far7) ((if decide (k<0) then -((((k).natAbs) / (Nat.gcd k.natAbs d):Nat):Int) else ((((k).natAbs) / (Nat.gcd k.natAbs d):Nat):Int)))).toSF))::(79, .s ((fNV ((mkRat k d).num)).toSF))::(80, .s ((fNat ((d) / (Nat.gcd k.natAbs d))).toSF))::(81, .u (fQN (mkRat k d))):: []) hmix s (by kernel_rfl)
   (oc (ok_fld (C:=(CU.agg (fNV (k))).cf) 0 (by kernel_rfl))<|oc (ok_ld (C:=(CU.agg (fNV (k))).cf) (k:=0) (by kernel_rfl) (h:=nv_neg))<|oc ok_move<|oc (ok_build2 (fun u v W (hu:u= .bool (decide (k<0))) (hv:NatV W v (((k).natAbs) / (Nat.gcd k.natAbs d)))=>b_int hu hv (hlt _ (by first|exact Nat.lt_of_le_of_lt (Nat.div_le_self _ _) (smallOf_lt _)|exact hk64|exact Nat.lt_of_le_of_lt (Nat.div_le_self _ _) (Nat.lt_of_lt_of_le bk (Nat.pow_le_pow_right BB_pos (Nat.le_trans hm (by decide))))))))<|oc (ok_call1 wide_wide en_114 (fun u0 W hb (h0:UV W (far7) u0 ((if decide (k<0) then -((((k).natAbs) / (Nat.gcd k.natAbs d):Nat):Int) else ((((k).natAbs) / (Nat.gcd k.natAbs d):Nat):Int))))=>hnum W u0 (h0:UV W far7 u0 _)))<|oc ok_move<|oc (ok_build2 (fun u v W (hu:NV W u ((mkRat k d).num)) (hv:NatV W v ((d) / (Nat.gcd k.natAbs d)))=>b_ratN (q:=mkRat k d) hu (by first|exact hv|(rw [hden];exact hv))))<|obs_nil) fun a w12 s=> ?_
  refine t_store (CU.agg (fQN (mkRat k d))) ((fQN (mkRat k d)).toSF) rfl s (by kernel_rfl) rfl rfl rfl iiz iiz (qn_store) fun a w s=> ?_
  refine t_set (UF.eq (.int .i64 (0))) rfl s (by kernel_rfl) iiz fun a w s=> ?_
  refine tail_end rfl ?_
  refine wpIn_ret ?_
  exact StS.resCT s (CU.agg (fQN (mkRat k d))) rfl (by kernel_rfl) rfl rfl (qn_len _) (fun cs v W h1 h2=>⟨_,_,rfl,h1,h2⟩)
theorem r7new_v {W:World} {m:Nat} {v v':Value} {k:Int} {d:Nat} (h:UV W m v k) (h':LV W m v' d) (hm:m≤2000):Calls Tryz.prog 71 #[v,v'] W (Ret W (fTup2 (fQN (mkRat k d)) (fI (if d=0 then 30 else 0))).toSF):=by
 by_cases hd:d=0
 ·rw [if_pos hd]
  exact r7new_z h h' hm hd
 ·rw [if_neg hd]
  exact r7new_p h h' hm (by omega)
end Go.Proofs.Wd

namespace Go.Proofs.Wd
set_option maxRecDepth 100000
open Go.RowKit Lb
theorem r7norm_r {W:World} {m:Nat} {v:Value} {k:Int} {d:Nat} (h:QVp m k d v W) (hm:m≤2000):Calls Tryz.prog 70 #[v] W (Ret W (fQN (mkRat k d)).toSF):=by
 refine run_st [(fQV m k d).toSF] Tryz.func70 rfl (by kernel_rfl) ⟨h,trivial⟩ fun a s=> ?_
 refine wpIn_seq ?_
 refine region_go 0 [] hmix s (by kernel_rfl)
  obs_nil fun a w1 s=> ?_
 refine t_box (CU.agg (fQV (m) (k) (d))) rfl s (by kernel_rfl) (fun v W h=>qv_box h) fun b1 a w s=> ?_
 refine t_alloc (CU.len 3) (cs:= [.bool false, .slice none 0 0, .slice none 0 0]) (by kernel_rfl) rfl s (by kernel_rfl) (fun W=>rfl) rfl fun b2 a w s=> ?_
 refine tail_end rfl ?_
 refine wpIn_seq ?_
 refine region_go 8 ((6, .s (SF.ptr ((CU.agg (fQV (m) (k) (d))).cf.at 0)))::(7, .s ((fUV (m) (k)).toSF))::(8, .s (SF.ptr ((CU.agg (fQV (m) (k) (d))).cf.at 2)))::(9, .s ((fLV (m) (d)).toSF))::(10, .s ((fTup2 (fQN ((mkRat k d))) (UF.eq (.int .i64 ((if d=0 then 30 else 0))))).toSF))::(5, .s ((fTup2 (fQN ((mkRat k d))) (UF.eq (.int .i64 ((if d=0 then 30 else 0))))).toSF))::(11, .u (fQN ((mkRat k d))))::(12, .u (UF.eq (.int .i64 ((if d=0 then 30 else 0))))):: []) hmix s (by kernel_rfl)
  (oc (ok_fld (C:=(CU.agg (fQV (m) (k) (d))).cf) 0 (by kernel_rfl))<|oc (ok_ldA (C:=(CU.agg (fQV (m) (k) (d))).cf) (k:=0) 2 (by kernel_rfl) (h:=qv_num))<|oc (ok_fld (C:=(CU.agg (fQV (m) (k) (d))).cf) 2 (by kernel_rfl))<|oc (ok_ld (C:=(CU.agg (fQV (m) (k) (d))).cf) (k:=2) (by kernel_rfl) (h:=qv_den))<|oc (ok_call2 wide_wide en_71 (fun u0 u1 W hb (h0:UV W (m) u0 (k)) (h1:LV W (m) u1 (d))=>r7new_v h0 h1 hm))<|oc ok_move<|oc (ok_ext20 (A:=(fQN ((mkRat k d))).toSF) (B:=(UF.eq (.int .i64 ((if d=0 then 30 else 0)))).toSF) iiz)<|oc (ok_ext21 (A:=(fQN ((mkRat k d))).toSF) (B:=(UF.eq (.int .i64 ((if d=0 then 30 else 0)))).toSF) iiz)<|obs_nil) fun a w2 s=> ?_
 refine t_alloc (CU.len 3) (cs:= [.bool false, .slice none 0 0, .slice none 0 0]) (by kernel_rfl) rfl s (by kernel_rfl) (fun W=>rfl) rfl fun b3 a w s=> ?_
 refine t_store (CU.agg (fQN ((mkRat k d)))) ((fQN ((mkRat k d))).toSF) rfl s (by kernel_rfl) rfl rfl rfl iiz iiz (qn_store) fun a w s=> ?_
 refine t_set (UF.eq (.int .i64 ((if d=0 then 30 else 0)))) rfl s (by kernel_rfl) iiz fun a w s=> ?_
 refine tail_end rfl ?_
 refine wpIn_seq ?_
 refine region_go 1 ((13, .u (fQN ((mkRat k d)))):: []) hmix s (by kernel_rfl)
  (oc (ok_ldW (f:=fQN ((mkRat k d))) 3 (by kernel_rfl) (hz:=qn_len _))<|obs_nil) fun a w3 s=> ?_
 refine t_store (CU.agg (fQN ((mkRat k d)))) ((fQN ((mkRat k d))).toSF) rfl s (by kernel_rfl) rfl rfl rfl iiz iiz (qn_store) fun a w s=> ?_
 refine tail_end rfl ?_
 refine wpIn_ret ?_
 exact StS.resC s (CU.agg (fQN (mkRat k d))) rfl (by kernel_rfl) rfl rfl (qn_len _) (fun cs W h=>h)
theorem r7norm_q {W:World} {m:Nat} {v:Value} {q:Rat} (h:RVp m q v W) (hm:m≤2000):Calls Tryz.prog 70 #[v] W (Ret W (fQN q).toSF):=by
 obtain ⟨k,d,h1,rfl⟩:=h
 exact r7norm_r h1 hm
theorem r7sign_mk (n:Int) (d:Nat) (hd:0<d):(mkRat n d).num.sign=n.sign:=by
 have h1:=decide_eq_decide.1 (mkRat_neg_iff n d hd)
 have h2:(mkRat n d).num=0↔n=0:=by rw [Rat.num_eq_zero,Rat.mkRat_eq_zero (by omega)]
 rcases Int.lt_trichotomy n 0 with h|h|h
 ·rw [Int.sign_eq_neg_one_of_neg h,Int.sign_eq_neg_one_of_neg (h1.2 h)]
 ·rw [h2.2 h,h]
 ·rw [Int.sign_eq_one_of_pos h,Int.sign_eq_one_of_pos (by have:=mt h1.1 (by omega);have:=mt h2.1 (by omega);omega)]
theorem r7sign_z {W:World} {m:Nat} {v:Value} {k:Int} {d:Nat} (h:QVp m k d v W) (hm:m≤2000) (hd:d=0):Calls Tryz.prog 42 #[v] W (Ret W (fI 0).toSF):=by
 have hz:true=decide (d=0):=(decide_eq_true hd).symm
 refine run_st [(fQV m k d).toSF] Tryz.func42 rfl (by kernel_rfl) ⟨h,trivial⟩ fun a s=> ?_
 refine wpIn_seq ?_
 refine region_go 0 [] hmix s (by kernel_rfl)
  obs_nil fun a w1 s=> ?_
 refine t_box (CU.agg (fQV (m) (k) (d))) rfl s (by kernel_rfl) (fun v W h=>qv_box h) fun b1 a w s=> ?_
 refine t_set (UF.eq (.int .i64 (0))) rfl s (by kernel_rfl) iiz fun a w s=> ?_
 refine tail_end rfl ?_
 refine wpIn_seq ?_
 refine wpIn_seq ?_
 refine region_go 5 ((3, .s (SF.ptr ((CU.agg (fQV (m) (k) (d))).cf.at 2)))::(4, .s ((fLV (m) (d)).toSF))::(5, .s ((fNat (d)).toSF))::(6, .s (fLen d))::(7, .u (UF.eq (.bool true))):: []) hmix s (by kernel_rfl)
  (oc (ok_fld (C:=(CU.agg (fQV (m) (k) (d))).cf) 2 (by kernel_rfl))<|oc (ok_ld (C:=(CU.agg (fQV (m) (k) (d))).cf) (k:=2) (by kernel_rfl) (h:=qv_den))<|oc (ok_call1 wide_wide en_85 (fun u0 W hb (h0:LV W (m) u0 (d))=>(rtrim_v h0 (by omega))))<|oc (ok_lenN (by kernel_rfl) iiz)<|oc (ok_eql0 hz)<|obs_nil) fun a w2 s=> ?_
 refine tail_end rfl ?_
 refine StS.cond s true iiz (fun e=> ?_) (fun e=>by cases e)
 refine wpIn_seq ?_
 replace s:=s.drop [2]
 refine region_go 1 ((2, .u (UF.eq (.int .i64 (0)))):: []) hmix s (by kernel_rfl)
  (oc (ok_assign)<|obs_nil) fun a w3 s=> ?_
 refine tail_end rfl ?_
 refine wpIn_ret ?_
 exact StS.res1 s (t:=2) rfl iiz
theorem r7sign_p {W:World} {m:Nat} {v:Value} {k:Int} {d:Nat} (h:QVp m k d v W) (hm:m≤2000) (hd:0<d):Calls Tryz.prog 42 #[v] W (Ret W (fI k.sign).toSF):=by
 have hz:false=decide (d=0):=(decide_eq_false (by omega)).symm
 refine run_st [(fQV m k d).toSF] Tryz.func42 rfl (by kernel_rfl) ⟨h,trivial⟩ fun a s=> ?_
 refine wpIn_seq ?_
 refine region_go 0 [] hmix s (by kernel_rfl)
  obs_nil fun a w1 s=> ?_
 refine t_box (CU.agg (fQV (m) (k) (d))) rfl s (by kernel_rfl) (fun v W h=>qv_box h) fun b1 a w s=> ?_
 refine t_set (UF.eq (.int .i64 (0))) rfl s (by kernel_rfl) iiz fun a w s=> ?_
 refine tail_end rfl ?_
 refine wpIn_seq ?_
 refine wpIn_seq ?_
 refine region_go 5 ((3, .s (SF.ptr ((CU.agg (fQV (m) (k) (d))).cf.at 2)))::(4, .s ((fLV (m) (d)).toSF))::(5, .s ((fNat (d)).toSF))::(6, .s (fLen d))::(7, .u (UF.eq (.bool false))):: []) hmix s (by kernel_rfl)
  (oc (ok_fld (C:=(CU.agg (fQV (m) (k) (d))).cf) 2 (by kernel_rfl))<|oc (ok_ld (C:=(CU.agg (fQV (m) (k) (d))).cf) (k:=2) (by kernel_rfl) (h:=qv_den))<|oc (ok_call1 wide_wide en_85 (fun u0 W hb (h0:LV W (m) u0 (d))=>(rtrim_v h0 (by omega))))<|oc (ok_lenN (by kernel_rfl) iiz)<|oc (ok_eql0 hz)<|obs_nil) fun a w2 s=> ?_
 refine tail_end rfl ?_
 refine StS.cond s false iiz (fun e=>by cases e) (fun e=> ?_)
 refine wpIn_skip ?_
 refine wpIn_seq ?_
 replace s:=s.drop [2]
 refine region_go 4 ((8, .s (SF.ptr ((CU.agg (fQV (m) (k) (d))).cf.at 0)))::(9, .s ((fUV (m) (k)).toSF))::(10, .s ((UF.eq (.int .i64 (k.sign))).toSF))::(2, .u (UF.eq (.int .i64 (k.sign)))):: []) hmix s (by kernel_rfl)
  (oc (ok_fld (C:=(CU.agg (fQV (m) (k) (d))).cf) 0 (by kernel_rfl))<|oc (ok_ldA (C:=(CU.agg (fQV (m) (k) (d))).cf) (k:=0) 2 (by kernel_rfl) (h:=qv_num))<|oc (ok_call1 wide_wide en_86 (fun u0 W hb (h0:UV W (m) u0 (k))=>calls_eq (r5sign_v h0 (by omega))))<|oc (ok_assign)<|obs_nil) fun a w3 s=> ?_
 refine tail_end rfl ?_
 refine wpIn_ret ?_
 exact StS.res1 s (t:=2) rfl iiz
theorem r7sign_q {W:World} {m:Nat} {v:Value} {q:Rat} (h:RVp m q v W) (hm:m≤2000):Calls Tryz.prog 42 #[v] W (Ret W (fI q.num.sign).toSF):=by
 obtain ⟨k,d,h1,rfl⟩:=h
 by_cases hd:d=0
 ·have:=r7sign_z h1 hm hd
  rw [hd,Rat.mkRat_zero]
  exact this
 ·rw [r7sign_mk k d (by omega)]
  exact r7sign_p h1 hm (by omega)
theorem r7two_q {W:World} {m:Nat} {u v:Value} {p q:Rat} (h:QNp p u W) (h':QNp q v W) (hp:QB p m) (hq:QB q m) (hm:m≤990):Calls Tryz.prog 113 #[u,v] W (Ret W (fQN (p+q)).toSF):=by
 have hnew: ∀W u0 u1,NV W u0 (((p).num*(((q).den:Nat):Int))+((q).num*(((p).den:Nat):Int)))→NatV W u1 ((p).den*(q).den)→Calls Tryz.prog 71 #[u0,u1] W (Ret W (fTup2 (fQN (p+q)) UF.any).toSF):=fun W u0 u1 h0 h1=>by
  have:=r7new_v (m:=m+m+1) (h0.uv' (hp.num_add hq)) (h1.lv (Nat.lt_of_lt_of_le (hp.den_mul hq) (Nat.pow_le_pow_right BB_pos (by omega)))) (by omega)
  rw [←Rat.add_def' p q] at this
  exact this.mono fun e w' ⟨v,e1,⟨x,y,e2,h2,_⟩,hb⟩=>⟨v,e1,⟨x,y,e2,h2,trivial⟩,hb⟩
 refine run_st [(fQN p).toSF,(fQN q).toSF] Tryz.func113 rfl (by kernel_rfl) ⟨h,h',trivial⟩ fun a s=> ?_
 refine wpIn_seq ?_
 refine region_go 0 [] hmix s (by kernel_rfl)
  obs_nil fun a w1 s=> ?_
 refine t_box (CU.agg (fQN (p))) rfl s (by kernel_rfl) (fun v W h=>qn_box h) fun b2 a w s=> ?_
 refine t_box (CU.agg (fQN (q))) rfl s (by kernel_rfl) (fun v W h=>qn_box h) fun b3 a w s=> ?_
 refine t_alloc (CU.len 3) (cs:= [.bool false, .slice none 0 0, .slice none 0 0]) (by kernel_rfl) rfl s (by kernel_rfl) (fun W=>rfl) rfl fun b4 a w s=> ?_
 refine tail_end rfl ?_
 refine wpIn_seq ?_
 have so:=s.old;have sg:=s.gr
 refine region_goA2 (fun i=> [24].contains i) [⟨25,5,29, [.bool false, .slice none 0 0, .slice none 0 0],SF.newBox w 29 (CU.len 3)⟩] 26 ((8, .s (SF.ptr ((CU.agg (fQN (p))).cf.at 0)))::(9, .s ((fNV ((p).num)).toSF))::(10, .s (SF.ptr ((CU.agg (fQN (q))).cf.at 2)))::(11, .s ((fNat ((q).den)).toSF))::(12, .s ((fNV ((((q).den:Nat):Int))).toSF))::(13, .s (fISV ((m+m)) [(p).num,(((q).den:Nat):Int)]))::(14, .s ((fNV (((p).num*(((q).den:Nat):Int)))).toSF))::(15, .s (SF.ptr ((CU.agg (fQN (q))).cf.at 0)))::(16, .s ((fNV ((q).num)).toSF))::(17, .s (SF.ptr ((CU.agg (fQN (p))).cf.at 2)))::(18, .s ((fNat ((p).den)).toSF))::(19, .s ((fNV ((((p).den:Nat):Int))).toSF))::(20, .s (fISV ((m+m)) [(q).num,(((p).den:Nat):Int)]))::(21, .s ((fNV (((q).num*(((p).den:Nat):Int)))).toSF))::(22, .s (fISV ((m+m)) [((p).num*(((q).den:Nat):Int)),((q).num*(((p).den:Nat):Int))]))::(23, .s ((fNV ((((p).num*(((q).den:Nat):Int))+((q).num*(((p).den:Nat):Int))))).toSF))::(24, .s (SF.ptr ((CU.agg (fQN (p))).cf.at 2)))::(25, .s ((fNat ((p).den)).toSF))::(26, .s (SF.ptr ((CU.agg (fQN (q))).cf.at 2)))::(27, .s ((fNat ((q).den)).toSF))::(28, .s ((fNat ((p).den*(q).den)).toSF))::(29, .s ((fTup2 (fQN ((p+q))) (UF.any)).toSF))::(7, .s ((fTup2 (fQN ((p+q))) (UF.any)).toSF))::(30, .u (fQN ((p+q))))::(5, .s (SF.newBox w 29 (CU.len 3))):: []) hmix s (fmz ⟨⟨by show 25<26;decide, .tail _ (.tail _ (.tail _ (.tail _ (.tail _ (.tail _ (.tail _ (.tail _ (.tail _ mz15)))))))),⟨_,_,_,rfl⟩,by kernel_rfl,own_new (fun _=>rfl) rfl⟩,fnz⟩) (by kernel_rfl)
  (oc (ok_fld (C:=(CU.agg (fQN (p))).cf) 0 (by kernel_rfl))<|oc (ok_ldA (C:=(CU.agg (fQN (p))).cf) (k:=0) 2 (by kernel_rfl) (h:=qn_num))<|oc (ok_fld (C:=(CU.agg (fQN (q))).cf) 2 (by kernel_rfl))<|oc (ok_ld (C:=(CU.agg (fQN (q))).cf) (k:=2) (by kernel_rfl) (h:=qn_den))<|oc (ok_call1 wide_wide en_88 (fun u0 W hb (h0:NatV W u0 ((q).den))=>over_v h0))<|oc (ok_slice2 (fun u v W (hu:NV W u ((p).num)) (hv:NV W v ((((q).den:Nat):Int)))=>sl_int2 (NV.uv' hu (Bd.mono (hp).1 (m':=(m+m)) (by first|omega|decide))) (NV.uv' hv (Bd.mono (bd_nat hq.2) (m':=(m+m)) (by first|omega|decide)))))<|oc (ok_call1 wide_wide en_72 (fun u0 W hb (h0:ISV W ((m+m)) u0 [(p).num,(((q).den:Nat):Int)])=>r5mul_w h0 (by show (m+m)*2+(m+m)+1≤40000;omega) (by simp) (by simp)))<|oc (ok_fld (C:=(CU.agg (fQN (q))).cf) 0 (by kernel_rfl))<|oc (ok_ldA (C:=(CU.agg (fQN (q))).cf) (k:=0) 2 (by kernel_rfl) (h:=qn_num))<|oc (ok_fld (C:=(CU.agg (fQN (p))).cf) 2 (by kernel_rfl))<|oc (ok_ld (C:=(CU.agg (fQN (p))).cf) (k:=2) (by kernel_rfl) (h:=qn_den))<|oc (ok_call1 wide_wide en_88 (fun u0 W hb (h0:NatV W u0 ((p).den))=>over_v h0))<|oc (ok_slice2 (fun u v W (hu:NV W u ((q).num)) (hv:NV W v ((((p).den:Nat):Int)))=>sl_int2 (NV.uv' hu (Bd.mono (hq).1 (m':=(m+m)) (by first|omega|decide))) (NV.uv' hv (Bd.mono (bd_nat hp.2) (m':=(m+m)) (by first|omega|decide)))))<|oc (ok_call1 wide_wide en_72 (fun u0 W hb (h0:ISV W ((m+m)) u0 [(q).num,(((p).den:Nat):Int)])=>r5mul_w h0 (by show (m+m)*2+(m+m)+1≤40000;omega) (by simp) (by simp)))<|oc (ok_slice2 (fun u v W (hu:NV W u (((p).num*(((q).den:Nat):Int)))) (hv:NV W v (((q).num*(((p).den:Nat):Int))))=>sl_int2 (NV.uv' hu (Bd.mul (hp).1 (bd_nat hq.2))) (NV.uv' hv (Bd.mul (hq).1 (bd_nat hp.2)))))<|oc (ok_call1 wide_wide en_126 (fun u0 W hb (h0:ISV W ((m+m)) u0 [((p).num*(((q).den:Nat):Int)),((q).num*(((p).den:Nat):Int))])=>r5add_w h0 (by omega) (by simp) (by simp)))<|oc (ok_fld (C:=(CU.agg (fQN (p))).cf) 2 (by kernel_rfl))<|oc (ok_ld (C:=(CU.agg (fQN (p))).cf) (k:=2) (by kernel_rfl) (h:=qn_den))<|oc (ok_fld (C:=(CU.agg (fQN (q))).cf) 2 (by kernel_rfl))<|oc (ok_ld (C:=(CU.agg (fQN (q))).cf) (k:=2) (by kernel_rfl) (h:=qn_den))<|oc (ok_call2 wide_wide en_73 (fun u0 u1 W hb (h0:NatV W u0 ((p).den)) (h1:NatV W u1 ((q).den))=>rmul_v (NatV.lv (m:=m) h0 hp.2) (NatV.lv (m:=m) h1 hq.2) (by omega)))<|oc (ok_call2 wide_wide en_71 (fun u0 u1 W hb (h0:NV W u0 ((((p).num*(((q).den:Nat):Int))+((q).num*(((p).den:Nat):Int))))) (h1:NatV W u1 ((p).den*(q).den))=>hnew W u0 u1 h0 h1))<|oc ok_move<|oc (ok_ext20 (A:=(fQN ((p+q))).toSF) (B:=(UF.any).toSF) iiz)<|oc (ok_ext21 (A:=(fQN ((p+q))).toSF) (B:=(UF.any).toSF) iiz)<|oc (ok_alloc (cs:= [.bool false, .slice none 0 0, .slice none 0 0]) (by kernel_rfl) (own_new (fun _=>rfl) rfl))<|obs_nil) fun Q' hQ a w2 s hr hd=> ?_
 obtain ⟨b5,_,e5,s⟩:=s.adoptA false 5 (hr (_,_) (.tail _ (.tail _ (.tail _ (.tail _ (.tail _ (.tail _ (.tail _ (.tail _ (.tail _ mz15)))))))))) sg (fun y hy=> .inl (so y hy))
 refine t_store (CU.agg (fQN ((p+q)))) ((fQN ((p+q))).toSF) rfl s (by kernel_rfl) rfl rfl rfl iiz iiz (qn_store) fun a w s=> ?_
 refine t_set UF.any rfl s (by kernel_rfl) (fun _ _ _=>trivial) fun a w s=> ?_
 refine tail_end rfl (hQ _ _ ?_)
 refine wpIn_seq ?_
 refine region_go 1 ((32, .u (fQN ((p+q)))):: []) hmix s (by kernel_rfl)
  (oc (ok_ldW (f:=fQN ((p+q))) 3 (by kernel_rfl) (hz:=qn_len _))<|obs_nil) fun a w3 s=> ?_
 refine t_store (CU.agg (fQN ((p+q)))) ((fQN ((p+q))).toSF) rfl s (by kernel_rfl) rfl rfl rfl iiz iiz (qn_store) fun a w s=> ?_
 refine tail_end rfl ?_
 refine wpIn_ret ?_
 exact StS.resC s (CU.agg (fQN (p+q))) rfl (by kernel_rfl) rfl rfl (qn_len _) (fun cs W h=>h)
theorem r7neg_q {W:World} {m:Nat} {v:Value} {q:Rat} (h:RVp m q v W) (hm:m≤990) (hm0:0<m):Calls Tryz.prog 139 #[v] W (Ret W (fQN (-q)).toSF):=by
 have hq:QB q m:=h.qb hm0
 refine run_st [(fRV m q).toSF] Tryz.func139 rfl (by kernel_rfl) ⟨h,trivial⟩ fun a s=> ?_
 refine wpIn_seq ?_
 refine region_go 0 [] hmix s (by kernel_rfl)
  obs_nil fun a w1 s=> ?_
 refine t_box (CU.agg (fRV (m) (q))) rfl s (by kernel_rfl) (fun v W h=>rv_box h) fun b1 a w s=> ?_
 refine t_alloc (CU.len 3) (cs:= [.bool false, .slice none 0 0, .slice none 0 0]) (by kernel_rfl) rfl s (by kernel_rfl) (fun W=>rfl) rfl fun b2 a w s=> ?_
 refine tail_end rfl ?_
 refine wpIn_seq ?_
 refine region_go 2 ((3, .s ((fRV (m) (q)).toSF))::(4, .u (fQN (q))):: []) hmix s (by kernel_rfl)
  (oc (ok_ldW (f:=fRV (m) (q)) 3 (by kernel_rfl) (hz:=rv_len _ _))<|oc (ok_call1 wide_wide en_70 (fun u0 W hb (h0:RVp (m) (q) u0 W)=>r7norm_q h0 (by omega)))<|obs_nil) fun a w2 s=> ?_
 refine t_store (CU.agg (fQN (q))) ((fQN (q)).toSF) rfl s (by kernel_rfl) rfl rfl rfl (rv_len _ _) iiz (qn_store) fun a w s=> ?_
 refine tail_end rfl ?_
 refine wpIn_seq ?_
 refine region_goP [] 6 ((5, .s (SF.ptr ((CU.agg (fQN (q))).cf.at 0)))::(6, .s ((fNV ((q).num)).toSF))::(7, .s ((fNV ((-(q).num))).toSF))::(8, .s (SF.ptr ((CU.agg (fQN (q))).cf.at 2)))::(9, .s ((fNat ((q).den)).toSF))::(10, .u (fQN ((-q)))):: []) hmix s (by kernel_rfl)
  (oc (ok_fld (C:=(CU.agg (fQN (q))).cf) 0 (by kernel_rfl))<|oc (ok_ldA (C:=(CU.agg (fQN (q))).cf) (k:=0) 2 (by kernel_rfl) (h:=qn_num))<|oc (ok_call1 wide_wide en_127 (fun u0 W hb (h0:NV W u0 ((q).num))=>r5neg_v (NV.uv' h0 (hq).1) (by omega)))<|oc (ok_fld (C:=(CU.agg (fQN (q))).cf) 2 (by kernel_rfl))<|oc (ok_ld (C:=(CU.agg (fQN (q))).cf) (k:=2) (by kernel_rfl) (h:=qn_den))<|oc (ok_build2 (fun u v W (hu:NV W u (-(q).num)) (hv:NatV W v ((q).den))=>b_ratN (q:= -q) hu hv))<|obs_nil) fun Q' hQ a w3 s=> ?_
 refine t_store (CU.agg (fQN ((-q)))) ((fQN ((-q))).toSF) rfl s (by kernel_rfl) rfl rfl rfl iiz iiz (qn_store) fun a w s=> ?_
 refine tail_end rfl (hQ _ _ ?_)
 refine wpIn_ret ?_
 exact StS.resC s (CU.agg (fQN (-q))) rfl (by kernel_rfl) rfl rfl (qn_len _) (fun cs W h=>h)
theorem r7cmp_q {W:World} {m:Nat} {u v:Value} {p q:Rat} (h:RVp m p u W) (h':RVp m q v W) (hm:m≤990) (hm0:0<m):Calls Tryz.prog 43 #[u,v] W (Ret W (fI (qsg p q)).toSF):=by
 have hp:QB p m:=h.qb hm0
 have hq:QB q m:=h'.qb hm0
 refine run_st [(fRV m p).toSF,(fRV m q).toSF] Tryz.func43 rfl (by kernel_rfl) ⟨h,h',trivial⟩ fun a s=> ?_
 refine wpIn_seq ?_
 refine region_go 0 [] hmix s (by kernel_rfl)
  obs_nil fun a w1 s=> ?_
 refine t_box (CU.agg (fRV (m) (p))) rfl s (by kernel_rfl) (fun v W h=>rv_box h) fun b2 a w s=> ?_
 refine t_box (CU.agg (fRV (m) (q))) rfl s (by kernel_rfl) (fun v W h=>rv_box h) fun b3 a w s=> ?_
 refine t_set (UF.eq (.int .i64 (0))) rfl s (by kernel_rfl) iiz fun a w s=> ?_
 refine tail_end rfl ?_
 refine wpIn_seq ?_
 refine region_goP [] 4 ((5, .s ((fRV (m) (p)).toSF))::(6, .u (fQN (p)))::(7, .s ((fRV (m) (q)).toSF))::(8, .u (fQN (q))):: []) hmix s (by kernel_rfl)
  (oc (ok_ldW (f:=fRV (m) (p)) 3 (by kernel_rfl) (hz:=rv_len _ _))<|oc (ok_call1 wide_wide en_70 (fun u0 W hb (h0:RVp (m) (p) u0 W)=>r7norm_q h0 (by omega)))<|oc (ok_ldW (f:=fRV (m) (q)) 3 (by kernel_rfl) (hz:=rv_len _ _))<|oc (ok_call1 wide_wide en_70 (fun u0 W hb (h0:RVp (m) (q) u0 W)=>r7norm_q h0 (by omega)))<|obs_nil) fun Q' hQ a w2 s=> ?_
 refine t_store (CU.agg (fQN (p))) ((fQN (p)).toSF) rfl s (by kernel_rfl) rfl rfl rfl (rv_len _ _) iiz (qn_store) fun a w s=> ?_
 refine t_store (CU.agg (fQN (q))) ((fQN (q)).toSF) rfl s (by kernel_rfl) rfl rfl rfl (rv_len _ _) iiz (qn_store) fun a w s=> ?_
 refine tail_end rfl (hQ _ _ ?_)
 refine wpIn_seq ?_
 replace s:=s.drop [4]
 refine region_go 17 ((9, .s (SF.ptr ((CU.agg (fQN (p))).cf.at 0)))::(10, .s ((fNV ((p).num)).toSF))::(11, .s (SF.ptr ((CU.agg (fQN (q))).cf.at 2)))::(12, .s ((fNat ((q).den)).toSF))::(13, .s ((fNV ((((q).den:Nat):Int))).toSF))::(14, .s (fISV ((m+m)) [(p).num,(((q).den:Nat):Int)]))::(15, .s ((fNV (((p).num*(((q).den:Nat):Int)))).toSF))::(16, .s (SF.ptr ((CU.agg (fQN (q))).cf.at 0)))::(17, .s ((fNV ((q).num)).toSF))::(18, .s (SF.ptr ((CU.agg (fQN (p))).cf.at 2)))::(19, .s ((fNat ((p).den)).toSF))::(20, .s ((fNV ((((p).den:Nat):Int))).toSF))::(21, .s (fISV ((m+m)) [(q).num,(((p).den:Nat):Int)]))::(22, .s ((fNV (((q).num*(((p).den:Nat):Int)))).toSF))::(23, .s ((fNV ((((p).num*(((q).den:Nat):Int)) - ((q).num*(((p).den:Nat):Int))))).toSF))::(24, .s ((UF.eq (.int .i64 (qsg p q))).toSF))::(4, .u (UF.eq (.int .i64 (qsg p q)))):: []) hmix s (by kernel_rfl)
  (oc (ok_fld (C:=(CU.agg (fQN (p))).cf) 0 (by kernel_rfl))<|oc (ok_ldA (C:=(CU.agg (fQN (p))).cf) (k:=0) 2 (by kernel_rfl) (h:=qn_num))<|oc (ok_fld (C:=(CU.agg (fQN (q))).cf) 2 (by kernel_rfl))<|oc (ok_ld (C:=(CU.agg (fQN (q))).cf) (k:=2) (by kernel_rfl) (h:=qn_den))<|oc (ok_call1 wide_wide en_88 (fun u0 W hb (h0:NatV W u0 ((q).den))=>over_v h0))<|oc (ok_slice2 (fun u v W (hu:NV W u ((p).num)) (hv:NV W v ((((q).den:Nat):Int)))=>sl_int2 (NV.uv' hu (Bd.mono (hp).1 (m':=(m+m)) (by first|omega|decide))) (NV.uv' hv (Bd.mono (bd_nat hq.2) (m':=(m+m)) (by first|omega|decide)))))<|oc (ok_call1 wide_wide en_72 (fun u0 W hb (h0:ISV W ((m+m)) u0 [(p).num,(((q).den:Nat):Int)])=>r5mul_w h0 (by show (m+m)*2+(m+m)+1≤40000;omega) (by simp) (by simp)))<|oc (ok_fld (C:=(CU.agg (fQN (q))).cf) 0 (by kernel_rfl))<|oc (ok_ldA (C:=(CU.agg (fQN (q))).cf) (k:=0) 2 (by kernel_rfl) (h:=qn_num))<|oc (ok_fld (C:=(CU.agg (fQN (p))).cf) 2 (by kernel_rfl))<|oc (ok_ld (C:=(CU.agg (fQN (p))).cf) (k:=2) (by kernel_rfl) (h:=qn_den))<|oc (ok_call1 wide_wide en_88 (fun u0 W hb (h0:NatV W u0 ((p).den))=>over_v h0))<|oc (ok_slice2 (fun u v W (hu:NV W u ((q).num)) (hv:NV W v ((((p).den:Nat):Int)))=>sl_int2 (NV.uv' hu (Bd.mono (hq).1 (m':=(m+m)) (by first|omega|decide))) (NV.uv' hv (Bd.mono (bd_nat hp.2) (m':=(m+m)) (by first|omega|decide)))))<|oc (ok_call1 wide_wide en_72 (fun u0 W hb (h0:ISV W ((m+m)) u0 [(q).num,(((p).den:Nat):Int)])=>r5mul_w h0 (by show (m+m)*2+(m+m)+1≤40000;omega) (by simp) (by simp)))<|oc (ok_call2 wide_wide en_87 (fun u0 u1 W hb (h0:NV W u0 (((p).num*(((q).den:Nat):Int)))) (h1:NV W u1 (((q).num*(((p).den:Nat):Int))))=>r5sub_v (NV.uv' h0 (Bd.mul (hp).1 (bd_nat hq.2))) (NV.uv' h1 (Bd.mul (hq).1 (bd_nat hp.2))) (by omega)))<|oc (ok_call1 wide_wide en_86 (fun u0 W hb (h0:NV W u0 ((((p).num*(((q).den:Nat):Int)) - ((q).num*(((p).den:Nat):Int)))))=>calls_eq (r5sign_v (NV.uv' h0 (Bd.sub (Bd.mul (hp).1 (bd_nat hq.2)) (Bd.mul (hq).1 (bd_nat hp.2)))) (by omega))))<|oc (ok_assign)<|obs_nil) fun a w3 s=> ?_
 refine tail_end rfl ?_
 refine wpIn_ret ?_
 exact StS.res1 s (t:=4) rfl iiz
theorem r7quo_q {W:World} {m:Nat} {u v:Value} {p q:Rat} (h:RVp m p u W) (h':RVp m q v W) (hm:m≤990) (hm0:0<m):Calls Tryz.prog 26 #[u,v] W (Ret W (fTup2 (fQN (p / q)) (fI (if q=0 then 30 else 0))).toSF):=by
 have hp:QB p m:=h.qb hm0
 have hq:QB q m:=h'.qb hm0
 have bk2:Bd (if decide ((q).num<0) then -(((q).den:Nat):Int) else (((q).den:Nat):Int)) m:=by split;exact (bd_nat hq.2).neg;exact bd_nat hq.2
 have hval:mkRat ((p).num*(if decide ((q).num<0) then -(((q).den:Nat):Int) else (((q).den:Nat):Int))) ((p).den*(q).num.natAbs)=p / q:=rat_quo p q
 have herr:((p).den*(q).num.natAbs=0)=(q=0):=by rw [Nat.mul_eq_zero,Int.natAbs_eq_zero,Rat.num_eq_zero];have:=p.den_pos;simp;omega
 have hnew: ∀W u0 u1,NV W u0 ((p).num*(if decide ((q).num<0) then -(((q).den:Nat):Int) else (((q).den:Nat):Int)))→NatV W u1 ((p).den*(q).num.natAbs)→Calls Tryz.prog 71 #[u0,u1] W (Ret W (fTup2 (fQN (p / q)) (fI (if q=0 then 30 else 0))).toSF):=fun W u0 u1 h0 h1=>by
  have:=r7new_v (m:=m+m) (h0.uv' (Bd.mul hp.1 bk2)) (h1.lv (pow_mul_lt hp.2 hq.1)) (by omega)
  simp only [hval,herr] at this
  exact this
 refine run_st [(fRV m p).toSF,(fRV m q).toSF] Tryz.func26 rfl (by kernel_rfl) ⟨h,h',trivial⟩ fun a s=> ?_
 refine wpIn_seq ?_
 refine region_go 0 [] hmix s (by kernel_rfl)
  obs_nil fun a w1 s=> ?_
 refine t_box (CU.agg (fRV (m) (p))) rfl s (by kernel_rfl) (fun v W h=>rv_box h) fun b2 a w s=> ?_
 refine t_box (CU.agg (fRV (m) (q))) rfl s (by kernel_rfl) (fun v W h=>rv_box h) fun b3 a w s=> ?_
 refine t_alloc (CU.len 3) (cs:= [.bool false, .slice none 0 0, .slice none 0 0]) (by kernel_rfl) rfl s (by kernel_rfl) (fun W=>rfl) rfl fun b4 a w s=> ?_
 refine t_set (UF.eq (.int .i64 (0))) rfl s (by kernel_rfl) iiz fun a w s=> ?_
 refine tail_end rfl ?_
 refine wpIn_seq ?_
 refine region_goP [] 4 ((6, .s ((fRV (m) (p)).toSF))::(7, .u (fQN (p)))::(8, .s ((fRV (m) (q)).toSF))::(9, .u (fQN (q))):: []) hmix s (by kernel_rfl)
  (oc (ok_ldW (f:=fRV (m) (p)) 3 (by kernel_rfl) (hz:=rv_len _ _))<|oc (ok_call1 wide_wide en_70 (fun u0 W hb (h0:RVp (m) (p) u0 W)=>r7norm_q h0 (by omega)))<|oc (ok_ldW (f:=fRV (m) (q)) 3 (by kernel_rfl) (hz:=rv_len _ _))<|oc (ok_call1 wide_wide en_70 (fun u0 W hb (h0:RVp (m) (q) u0 W)=>r7norm_q h0 (by omega)))<|obs_nil) fun Q' hQ a w2 s=> ?_
 refine t_store (CU.agg (fQN (p))) ((fQN (p)).toSF) rfl s (by kernel_rfl) rfl rfl rfl (rv_len _ _) iiz (qn_store) fun a w s=> ?_
 refine t_store (CU.agg (fQN (q))) ((fQN (q)).toSF) rfl s (by kernel_rfl) rfl rfl rfl (rv_len _ _) iiz (qn_store) fun a w s=> ?_
 refine tail_end rfl (hQ _ _ ?_)
 refine wpIn_seq ?_
 replace s:=s.drop [5]
 refine region_goP [] 19 ((10, .s (SF.ptr ((CU.agg (fQN (p))).cf.at 0)))::(11, .s ((fNV ((p).num)).toSF))::(12, .s (SF.ptr ((CU.agg (fQN (q))).cf.at 0)))::(13, .s (SF.ptr ((CU.agg (fQN (q))).cf.at 0)))::(14, .s ((UF.eq (.bool (decide ((q).num<0)))).toSF))::(15, .s (SF.ptr ((CU.agg (fQN (q))).cf.at 2)))::(16, .s ((fNat ((q).den)).toSF))::(17, .s ((fUV (m) ((if decide ((q).num<0) then -(((q).den:Nat):Int) else (((q).den:Nat):Int)))).toSF))::(18, .s (fISV ((m+m)) [(p).num,(if decide ((q).num<0) then -(((q).den:Nat):Int) else (((q).den:Nat):Int))]))::(19, .s ((fNV (((p).num*(if decide ((q).num<0) then -(((q).den:Nat):Int) else (((q).den:Nat):Int))))).toSF))::(20, .s (SF.ptr ((CU.agg (fQN (p))).cf.at 2)))::(21, .s ((fNat ((p).den)).toSF))::(22, .s (SF.ptr ((CU.agg (fQN (q))).cf.at 0)))::(23, .s (SF.ptr ((CU.agg (fQN (q))).cf.at 1)))::(24, .s ((fNat ((q).num.natAbs)).toSF))::(25, .s ((fNat ((p).den*(q).num.natAbs)).toSF))::(26, .s ((fTup2 (fQN ((p / q))) (UF.eq (.int .i64 ((if q=0 then 30 else 0))))).toSF))::(27, .u (fQN ((p / q))))::(28, .u (UF.eq (.int .i64 ((if q=0 then 30 else 0))))):: []) hmix s (by kernel_rfl)
  (oc (ok_fld (C:=(CU.agg (fQN (p))).cf) 0 (by kernel_rfl))<|oc (ok_ldA (C:=(CU.agg (fQN (p))).cf) (k:=0) 2 (by kernel_rfl) (h:=qn_num))<|oc (ok_fld (C:=(CU.agg (fQN (q))).cf) 0 (by kernel_rfl))<|oc (ok_fldn (C:=(CU.agg (fQN (q))).cf) 0 0 (by kernel_rfl))<|oc (ok_ld (C:=(CU.agg (fQN (q))).cf) (k:=0) (by kernel_rfl) (h:=qn_neg))<|oc (ok_fld (C:=(CU.agg (fQN (q))).cf) 2 (by kernel_rfl))<|oc (ok_ld (C:=(CU.agg (fQN (q))).cf) (k:=2) (by kernel_rfl) (h:=qn_den))<|oc (ok_build2 (fun u v W (hu:u= .bool (decide ((q).num<0))) (hv:NatV W v ((q).den))=>b_int hu hv hq.2))<|oc (ok_slice2 (fun u v W (hu:NV W u ((p).num)) (hv:UV W (m) v ((if decide ((q).num<0) then -(((q).den:Nat):Int) else (((q).den:Nat):Int))))=>sl_int2 (NV.uv' hu (Bd.mono (hp).1 (m':=(m+m)) (by first|omega|decide))) (UV.mono hv (m':=(m+m)) (by first|omega|decide))))<|oc (ok_call1 wide_wide en_72 (fun u0 W hb (h0:ISV W ((m+m)) u0 [(p).num,(if decide ((q).num<0) then -(((q).den:Nat):Int) else (((q).den:Nat):Int))])=>r5mul_w h0 (by show (m+m)*2+(m+m)+1≤40000;omega) (by simp) (by simp)))<|oc (ok_fld (C:=(CU.agg (fQN (p))).cf) 2 (by kernel_rfl))<|oc (ok_ld (C:=(CU.agg (fQN (p))).cf) (k:=2) (by kernel_rfl) (h:=qn_den))<|oc (ok_fld (C:=(CU.agg (fQN (q))).cf) 0 (by kernel_rfl))<|oc (ok_fldn (C:=(CU.agg (fQN (q))).cf) 0 1 (by kernel_rfl))<|oc (ok_ld (C:=(CU.agg (fQN (q))).cf) (k:=1) (by kernel_rfl) (h:=qn_abs))<|oc (ok_call2 wide_wide en_73 (fun u0 u1 W hb (h0:NatV W u0 ((p).den)) (h1:NatV W u1 ((q).num.natAbs))=>rmul_v (NatV.lv (m:=m) h0 hp.2) (NatV.lv (m:=m) h1 hq.1) (by omega)))<|oc (ok_call2 wide_wide en_71 (fun u0 u1 W hb (h0:NV W u0 (((p).num*(if decide ((q).num<0) then -(((q).den:Nat):Int) else (((q).den:Nat):Int))))) (h1:NatV W u1 ((p).den*(q).num.natAbs))=>hnew W u0 u1 h0 h1))<|oc (ok_ext20 (A:=(fQN ((p / q))).toSF) (B:=(UF.eq (.int .i64 ((if q=0 then 30 else 0)))).toSF) iiz)<|oc (ok_ext21 (A:=(fQN ((p / q))).toSF) (B:=(UF.eq (.int .i64 ((if q=0 then 30 else 0)))).toSF) iiz)<|obs_nil) fun Q' hQ a w3 s=> ?_
 refine t_store (CU.agg (fQN ((p / q)))) ((fQN ((p / q))).toSF) rfl s (by kernel_rfl) rfl rfl rfl iiz iiz (qn_store) fun a w s=> ?_
 refine t_set (UF.eq (.int .i64 ((if q=0 then 30 else 0)))) rfl s (by kernel_rfl) iiz fun a w s=> ?_
 refine tail_end rfl (hQ _ _ ?_)
 refine wpIn_ret ?_
 exact StS.resCT s (CU.agg (fQN (p / q))) rfl (by kernel_rfl) rfl rfl (qn_len _) (fun cs v W h1 h2=>⟨_,_,rfl,h1,h2⟩)
end Go.Proofs.Wd

namespace Go.Proofs.Wd
set_option maxRecDepth 100000
open Go.RowKit Lb
theorem mem_sub {W:World} {b o:Nat} {cs ds:List Value} (k:Nat) (h:Mem W b o cs) (hd: ∀j u,ds[j]?=some u→cs[k+j]?=some u):Mem W b (o+k) ds:=fun j u hj=>by
 have:=h (k+j) u (hd j u hj)
 rwa [←Nat.add_assoc] at this
abbrev rvs (m:Nat) (qs:List Rat):List CU:=qs.map fun q=>CU.agg (fRV m q)
theorem rvs_get {m:Nat} {qs:List Rat} {k:Nat} (h:k<qs.length):(rvs m qs)[k]?=some (CU.agg (fRV m (qAt qs k))):=by
 rw [List.getElem?_map,List.getElem?_eq_getElem h]
 simp [qAt,h]
theorem qAt_mem {qs:List Rat} {k:Nat} (h:k<qs.length):qAt qs k∈qs:=by
 simp [qAt,h]
theorem rv_cells {m:Nat} {q:Rat} {v:Value} {W:World} (h:RVp m q v W): ∃s A n c D i j,v= .agg #[.bool s, .slice A n c, .slice D i j]:=by
 obtain ⟨k,d,h1,_⟩:=h
 exact qv_form h1
theorem sl_rv2 {u v:Value} {W:World} {m:Nat} {p q:Rat} (hu:RVp m p u W) (hv:RVp m q v W): ∃e cs,sliceCells Tryz.prog 110 2 [(0,u),(1,v)]=some (e,cs)∧(SF.row 3 (rvs m [p,q])).p (.slice (some ⟨W.heap.size,0,none⟩) 2 2) (W.alloc (.cells cs e)):=by
 obtain ⟨s,A,n,c,D,i,j,rfl⟩:=rv_cells hu
 obtain ⟨s',A',n',c',D',i',j',rfl⟩:=rv_cells hv
 refine ⟨_,_,s_rat2 s s' A A' D D' n n' c c' i i' j j',some ⟨W.heap.size,0,none⟩,2,rfl,Nat.le_refl _,by decide,fun e=>(by cases e),fun x C hx=> ?_⟩
 have hb:=alloc_b W (.cells #[.bool s, .slice A n c, .slice D i j, .bool s', .slice A' n' c', .slice D' i' j'] 29)
 have hm:=mem_new W #[.bool s, .slice A n c, .slice D i j, .bool s', .slice A' n' c', .slice D' i' j'] 29
 rcases (by have:=(List.getElem?_eq_some_iff.1 hx).1;simp at this;omega:x=0∨x=1) with rfl|rfl
 ·obtain rfl:CU.agg (fRV m p)=C:=by simpa using hx
  exact ⟨W.heap.size,0, [.bool s, .slice A n c, .slice D i j],rfl,mem_sub 0 hm (fun j u hj=>by match j with|0=>exact hj|1=>exact hj|2=>exact hj|j+3=>simp at hj),(fRV m p).toSF.st _ _ _ hu hb⟩
 ·obtain rfl:CU.agg (fRV m q)=C:=by simpa using hx
  exact ⟨W.heap.size,0, [.bool s', .slice A' n' c', .slice D' i' j'],rfl,mem_sub 3 hm (fun j u hj=>by match j with|0=>exact hj|1=>exact hj|2=>exact hj|j+3=>simp at hj),(fRV m q).toSF.st _ _ _ hv hb⟩
theorem r7add_q {W:World} {m:Nat} {v:Value} {qs:List Rat} (M:Nat) (h:(SF.row 3 (rvs m qs)).p v W) (_hm0:0<m) (hmM:m≤M) (hM:M≤990) (hl:qs.length≤1000000) (hq: ∀q,q∈qs→QB q m) (hp: ∀k,k≤qs.length→QB (qsum qs k) M):Calls Tryz.prog 66 #[v] W (Ret W (fQN (qsum qs qs.length)).toSF):=by
 refine run_st [SF.row 3 (rvs m qs)] Tryz.func66 rfl (by kernel_rfl) ⟨h,trivial⟩ fun a s=> ?_
 refine wpIn_seq ?_
 refine region_go 0 [] hmix s (by kernel_rfl)
  obs_nil fun a w1 s=> ?_
 refine t_alloc (CU.len 3) (cs:= [.bool false, .slice none 0 0, .slice none 0 0]) (by kernel_rfl) rfl s (by kernel_rfl) (fun W=>rfl) rfl fun b2 a w s=> ?_
 refine tail_end rfl ?_
 refine wpIn_seq ?_
 refine region_go 1 ((5, .u (fQN ((((0):Int):Rat)))):: []) hmix s (by kernel_rfl)
  (oc (ok_call1 wide_wide en_27 (fun u0 W hb (h0:u0= .int .i64 (0))=>r7of_w 0 h0 (by decide)))<|obs_nil) fun a w2 s=> ?_
 refine t_alloc (CU.len 3) (cs:= [.bool false, .slice none 0 0, .slice none 0 0]) (by kernel_rfl) rfl s (by kernel_rfl) (fun W=>rfl) rfl fun b3 a w s=> ?_
 refine t_store (CU.agg (fQN ((((0):Int):Rat)))) ((fQN ((((0):Int):Rat))).toSF) rfl s (by kernel_rfl) rfl rfl rfl iiz iiz (qn_store) fun a w s=> ?_
 refine tail_end rfl ?_
 refine wpIn_seq ?_
 refine wpIn_seq ?_
 refine region_go 1 ((4, .u (UF.eq (.int .i64 (0)))):: []) hmix s (by kernel_rfl)
  (oc (ok_assign)<|obs_nil) fun a w3 s=> ?_
 refine tail_end rfl ?_
 refine wpIn_block ?_
 refine st_whileB 3 (fun p=>CU.agg (fQN ((qsum qs p)))) (fun p=>p≤qs.length) (fun p=> [(0, .o (SF.row 3 (rvs m qs))),(4, .u (fI ((p:Nat):Int)))]) (fun p=>qs.length - p) ((0:Nat)) (Nat.zero_le _) (s.keepK _ (fmz ⟨mz2,fmz ⟨.head _,fnz⟩⟩)) rfl fun p a w hx s=> ?_
 refine wpIn_seq ?_
 refine wpIn_seq ?_
 refine region_go 4 ((6, .s ((fI ((p:Nat):Int)).toSF))::(7, .s (SF.row 3 (rvs m qs)))::(8, .s ((UF.eq (.int .i64 ((((rvs m qs).length:Nat):Int)))).toSF))::(9, .u (UF.eq (.bool (decide (((p:Nat):Int)<(((rvs m qs).length:Nat):Int)))))):: []) hmix s (by kernel_rfl)
  (oc ok_move<|oc ok_move<|oc (ok_lenR (z:=3) (Cs:=rvs m qs) (by kernel_rfl) iiz (fun _=>rfl))<|oc (ok_cmpI .i64 (((p:Nat):Int)) ((((rvs m qs).length:Nat):Int)) (decide (((p:Nat):Int)<(((rvs m qs).length:Nat):Int))) iiz iiz rfl rfl)<|obs_nil) fun a w4 s=> ?_
 refine tail_end rfl ?_
 refine StS.cond s (decide (((p:Nat):Int)<(((rvs m qs).length:Nat):Int))) iiz (fun e=> ?_) (fun e=> ?_)
 ·have hk1:p+1≤qs.length:=by have:=of_decide_eq_true e;rw [List.length_map] at this;omega
  have hx2:=rvs_get (m:=m) (k:=p) hk1
  have hqp:=hq _ (qAt_mem (k:=p) hk1)
  refine wpIn_skip ?_
  refine wpIn_seq ?_
  refine wpIn_block ?_
  refine region_goP [1,2] 7 ((12, .s ((fQN ((qsum qs p))).toSF))::(13, .s (SF.row 3 (rvs m qs)))::(14, .s ((fI ((p:Nat):Int)).toSF))::(15, .s (SF.ptr (CU.agg (fRV (m) ((qAt qs p)))).cf))::(16, .s ((fRV (m) ((qAt qs p))).toSF))::(17, .s ((fQN ((qAt qs p))).toSF))::(18, .u (fQN ((qsum qs p+qAt qs p)))):: []) hmix s (by kernel_rfl)
   (oc (ok_ldW (f:=fQN ((qsum qs p))) 3 (by kernel_rfl) (hz:=qn_len _))<|oc ok_move<|oc ok_move<|oc (ok_index (z:=3) (Cs:=rvs m qs) (i:=p) (C:=CU.agg (fRV (m) ((qAt qs p)))) (by kernel_rfl) hx2 iiz iiz)<|oc (ok_ldW (f:=fRV (m) ((qAt qs p))) 3 (by kernel_rfl) (hz:=rv_len _ _))<|oc (ok_call1 wide_wide en_70 (fun u0 W hb (h0:RVp (m) ((qAt qs p)) u0 W)=>r7norm_q h0 (by omega)))<|oc (ok_call2 wide_wide en_113 (fun u0 u1 W hb (h0:QNp ((qsum qs p)) u0 W) (h1:QNp ((qAt qs p)) u1 W)=>r7two_q h0 h1 (hp p hx) (hqp.mono (by omega)) (by omega)))<|obs_nil) fun Q' hQ a w5 s=> ?_
  refine t_store (CU.agg (fQN ((qsum qs p+qAt qs p)))) ((fQN ((qsum qs p+qAt qs p))).toSF) rfl s (by kernel_rfl) rfl rfl rfl (qn_len _) iiz (qn_store) fun a w s=> ?_
  refine tail_end rfl (hQ _ _ ?_)
  refine region_goS 2 ((10, .s ((fI ((p:Nat):Int)).toSF))::(11, .u (fI ((p+1:Nat):Int))):: []) s (by kernel_rfl)
   (oc ok_move<|oc (ok_addI .i64 (((p:Nat):Int)) (1) (((p+1:Nat)):Int) iiz iiz (wrap64 _ _ (by omega) (by omega)))<|obs_nil) fun a w6 s=> ?_
  replace s:=s.drop [4]
  refine t_set (fI ((p+1:Nat):Int)) rfl s (by kernel_rfl) iiz fun a w s=> ?_
  refine tail_end rfl ?_
  exact ⟨p+1,hk1,(by show qs.length - (p+1)<qs.length - p;omega),s.keepK _ (fmz ⟨mz4,fmz ⟨.head _,fnz⟩⟩)⟩
 ·have hk1:p=qs.length:=by have:=of_decide_eq_false e;rw [List.length_map] at this;omega
  refine wpIn_exit ?_
  refine wpIn_seq ?_
  refine region_go 1 ((19, .u (fQN ((qsum qs p)))):: []) hmix s (by kernel_rfl)
   (oc (ok_ldW (f:=fQN ((qsum qs p))) 3 (by kernel_rfl) (hz:=qn_len _))<|obs_nil) fun a w7 s=> ?_
  refine t_store (CU.agg (fQN ((qsum qs p)))) ((fQN ((qsum qs p))).toSF) rfl s (by kernel_rfl) rfl rfl rfl iiz iiz (qn_store) fun a w s=> ?_
  refine tail_end rfl ?_
  refine wpIn_ret ?_
  exact StS.resC s (CU.agg (fQN (qsum qs p))) rfl (by kernel_rfl) rfl rfl (qn_len _) (fun cs W h=>by rw [hk1] at h;exact h)
theorem r7mul_q {W:World} {m:Nat} {v:Value} {qs:List Rat} (M:Nat) (h:(SF.row 3 (rvs m qs)).p v W) (_hm0:0<m) (hmM:m≤M) (hM:M≤990) (hl:qs.length≤1000000) (hq: ∀q,q∈qs→QB q m) (hp: ∀k,k≤qs.length→QB (qprod qs k) M):Calls Tryz.prog 75 #[v] W (Ret W (fQN (qprod qs qs.length)).toSF):=by
 refine run_st [SF.row 3 (rvs m qs)] Tryz.func75 rfl (by kernel_rfl) ⟨h,trivial⟩ fun a s=> ?_
 refine wpIn_seq ?_
 refine region_go 0 [] hmix s (by kernel_rfl)
  obs_nil fun a w1 s=> ?_
 refine t_alloc (CU.len 3) (cs:= [.bool false, .slice none 0 0, .slice none 0 0]) (by kernel_rfl) rfl s (by kernel_rfl) (fun W=>rfl) rfl fun b2 a w s=> ?_
 refine tail_end rfl ?_
 refine wpIn_seq ?_
 refine region_go 1 ((6, .u (fQN ((((1):Int):Rat)))):: []) hmix s (by kernel_rfl)
  (oc (ok_call1 wide_wide en_27 (fun u0 W hb (h0:u0= .int .i64 (1))=>r7of_w 1 h0 (by decide)))<|obs_nil) fun a w2 s=> ?_
 refine t_alloc (CU.len 3) (cs:= [.bool false, .slice none 0 0, .slice none 0 0]) (by kernel_rfl) rfl s (by kernel_rfl) (fun W=>rfl) rfl fun b3 a w s=> ?_
 refine t_store (CU.agg (fQN ((((1):Int):Rat)))) ((fQN ((((1):Int):Rat))).toSF) rfl s (by kernel_rfl) rfl rfl rfl iiz iiz (qn_store) fun a w s=> ?_
 refine tail_end rfl ?_
 refine wpIn_seq ?_
 refine wpIn_seq ?_
 refine region_go 1 ((4, .u (UF.eq (.int .i64 (0)))):: []) hmix s (by kernel_rfl)
  (oc (ok_assign)<|obs_nil) fun a w3 s=> ?_
 refine tail_end rfl ?_
 refine wpIn_block ?_
 refine st_whileB 3 (fun p=>CU.agg (fQN ((qprod qs p)))) (fun p=>p≤qs.length) (fun p=> [(0, .o (SF.row 3 (rvs m qs))),(4, .u (fI ((p:Nat):Int)))]) (fun p=>qs.length - p) ((0:Nat)) (Nat.zero_le _) (s.keepK _ (fmz ⟨mz2,fmz ⟨.head _,fnz⟩⟩)) rfl fun p a w hx s=> ?_
 refine wpIn_seq ?_
 refine wpIn_seq ?_
 refine region_go 4 ((7, .s ((fI ((p:Nat):Int)).toSF))::(8, .s (SF.row 3 (rvs m qs)))::(9, .s ((UF.eq (.int .i64 ((((rvs m qs).length:Nat):Int)))).toSF))::(10, .u (UF.eq (.bool (decide (((p:Nat):Int)<(((rvs m qs).length:Nat):Int)))))):: []) hmix s (by kernel_rfl)
  (oc ok_move<|oc ok_move<|oc (ok_lenR (z:=3) (Cs:=rvs m qs) (by kernel_rfl) iiz (fun _=>rfl))<|oc (ok_cmpI .i64 (((p:Nat):Int)) ((((rvs m qs).length:Nat):Int)) (decide (((p:Nat):Int)<(((rvs m qs).length:Nat):Int))) iiz iiz rfl rfl)<|obs_nil) fun a w4 s=> ?_
 refine tail_end rfl ?_
 refine StS.cond s (decide (((p:Nat):Int)<(((rvs m qs).length:Nat):Int))) iiz (fun e=> ?_) (fun e=> ?_)
 ·have hk1:p+1≤qs.length:=by have:=of_decide_eq_true e;rw [List.length_map] at this;omega
  have hx2:=rvs_get (m:=m) (k:=p) hk1
  have hqp:=hq _ (qAt_mem (k:=p) hk1)
  have hnew: ∀W u0 u1,NV W u0 (((qprod qs p)).num*((qAt qs p)).num)→NatV W u1 (((qprod qs p)).den*((qAt qs p)).den)→Calls Tryz.prog 71 #[u0,u1] W (Ret W (fTup2 (fQN (qprod qs p*qAt qs p)) (fI 0)).toSF):=fun W u0 u1 h0 h1=>by
   have:=r7new_p (m:=M+m) (h0.uv' (Bd.mul (hp p hx).1 hqp.1)) (h1.lv (pow_mul_lt (hp p hx).2 hqp.2)) (by omega) (Nat.mul_pos (Rat.den_pos _) (Rat.den_pos _))
   rw [←Rat.mul_def'] at this
   exact this
  refine wpIn_skip ?_
  refine wpIn_seq ?_
  refine wpIn_block ?_
  refine wpIn_seq ?_
  refine region_go 5 ((13, .s (SF.row 3 (rvs m qs)))::(14, .s ((fI ((p:Nat):Int)).toSF))::(15, .s (SF.ptr (CU.agg (fRV (m) ((qAt qs p)))).cf))::(16, .s ((fRV (m) ((qAt qs p))).toSF))::(17, .u (fQN ((qAt qs p)))):: []) hmix s (by kernel_rfl)
   (oc ok_move<|oc ok_move<|oc (ok_index (z:=3) (Cs:=rvs m qs) (i:=p) (C:=CU.agg (fRV (m) ((qAt qs p)))) (by kernel_rfl) hx2 iiz iiz)<|oc (ok_ldW (f:=fRV (m) ((qAt qs p))) 3 (by kernel_rfl) (hz:=rv_len _ _))<|oc (ok_call1 wide_wide en_70 (fun u0 W hb (h0:RVp (m) ((qAt qs p)) u0 W)=>r7norm_q h0 (by omega)))<|obs_nil) fun a w5 s=> ?_
  refine t_alloc (CU.len 3) (cs:= [.bool false, .slice none 0 0, .slice none 0 0]) (by kernel_rfl) rfl s (by kernel_rfl) (fun W=>rfl) rfl fun b5 a w s=> ?_
  refine t_store (CU.agg (fQN ((qAt qs p)))) ((fQN ((qAt qs p))).toSF) rfl s (by kernel_rfl) rfl rfl rfl iiz iiz (qn_store) fun a w s=> ?_
  refine tail_end rfl ?_
  refine region_goA2 (fun i=> [14].contains i) [] 15 ((19, .s (SF.ptr ((CU.agg (fQN ((qprod qs p)))).cf.at 0)))::(20, .s ((fNV (((qprod qs p)).num)).toSF))::(21, .s (SF.ptr ((CU.agg (fQN ((qAt qs p)))).cf.at 0)))::(22, .s ((fNV (((qAt qs p)).num)).toSF))::(23, .s (fISV ((M+m)) [((qprod qs p)).num,((qAt qs p)).num]))::(24, .s ((fNV ((((qprod qs p)).num*((qAt qs p)).num))).toSF))::(25, .s (SF.ptr ((CU.agg (fQN ((qprod qs p)))).cf.at 2)))::(26, .s ((fNat (((qprod qs p)).den)).toSF))::(27, .s (SF.ptr ((CU.agg (fQN ((qAt qs p)))).cf.at 2)))::(28, .s ((fNat (((qAt qs p)).den)).toSF))::(29, .s ((fNat (((qprod qs p)).den*((qAt qs p)).den)).toSF))::(30, .s ((fTup2 (fQN ((qprod qs p*qAt qs p))) (UF.eq (.int .i64 (0)))).toSF))::(18, .s ((fTup2 (fQN ((qprod qs p*qAt qs p))) (UF.eq (.int .i64 (0)))).toSF))::(31, .u (fQN ((qprod qs p*qAt qs p))))::(32, .s ((UF.eq (.int .i64 (0))).toSF)):: []) hmix s (fnz) (by kernel_rfl)
   (oc (ok_fld (C:=(CU.agg (fQN ((qprod qs p)))).cf) 0 (by kernel_rfl))<|oc (ok_ldA (C:=(CU.agg (fQN ((qprod qs p)))).cf) (k:=0) 2 (by kernel_rfl) (h:=qn_num))<|oc (ok_fld (C:=(CU.agg (fQN ((qAt qs p)))).cf) 0 (by kernel_rfl))<|oc (ok_ldA (C:=(CU.agg (fQN ((qAt qs p)))).cf) (k:=0) 2 (by kernel_rfl) (h:=qn_num))<|oc (ok_slice2 (fun u v W (hu:NV W u (((qprod qs p)).num)) (hv:NV W v (((qAt qs p)).num))=>sl_int2 (NV.uv' hu (Bd.mono ((hp p hx)).1 (m':=(M+m)) (by first|omega|decide))) (NV.uv' hv (Bd.mono (hqp).1 (m':=(M+m)) (by first|omega|decide)))))<|oc (ok_call1 wide_wide en_72 (fun u0 W hb (h0:ISV W ((M+m)) u0 [((qprod qs p)).num,((qAt qs p)).num])=>r5mul_w h0 (by show (M+m)*2+(M+m)+1≤40000;omega) (by simp) (by simp)))<|oc (ok_fld (C:=(CU.agg (fQN ((qprod qs p)))).cf) 2 (by kernel_rfl))<|oc (ok_ld (C:=(CU.agg (fQN ((qprod qs p)))).cf) (k:=2) (by kernel_rfl) (h:=qn_den))<|oc (ok_fld (C:=(CU.agg (fQN ((qAt qs p)))).cf) 2 (by kernel_rfl))<|oc (ok_ld (C:=(CU.agg (fQN ((qAt qs p)))).cf) (k:=2) (by kernel_rfl) (h:=qn_den))<|oc (ok_call2 wide_wide en_73 (fun u0 u1 W hb (h0:NatV W u0 (((qprod qs p)).den)) (h1:NatV W u1 (((qAt qs p)).den))=>rmul_v (NatV.lv (m:=M+m) h0 (Nat.lt_of_lt_of_le (hp p hx).2 (Nat.pow_le_pow_right BB_pos (by omega)))) (NatV.lv (m:=M+m) h1 (Nat.lt_of_lt_of_le hqp.2 (Nat.pow_le_pow_right BB_pos (by omega)))) (by omega)))<|oc (ok_call2 wide_wide en_71 (fun u0 u1 W hb (h0:NV W u0 ((((qprod qs p)).num*((qAt qs p)).num))) (h1:NatV W u1 (((qprod qs p)).den*((qAt qs p)).den))=>hnew W u0 u1 h0 h1))<|oc ok_move<|oc (ok_ext20 (A:=(fQN ((qprod qs p*qAt qs p))).toSF) (B:=(UF.eq (.int .i64 (0))).toSF) iiz)<|oc (ok_ext21 (A:=(fQN ((qprod qs p*qAt qs p))).toSF) (B:=(UF.eq (.int .i64 (0))).toSF) iiz)<|obs_nil) fun Q' hQ a w6 s hr hd=> ?_
  refine t_store (CU.agg (fQN ((qprod qs p*qAt qs p)))) ((fQN ((qprod qs p*qAt qs p))).toSF) rfl s (by kernel_rfl) rfl rfl rfl (qn_len _) iiz (qn_store) fun a w s=> ?_
  refine tail_end rfl (hQ _ _ ?_)
  refine region_goS 2 ((11, .s ((fI ((p:Nat):Int)).toSF))::(12, .u (fI ((p+1:Nat):Int))):: []) s (by kernel_rfl)
   (oc ok_move<|oc (ok_addI .i64 (((p:Nat):Int)) (1) (((p+1:Nat)):Int) iiz iiz (wrap64 _ _ (by omega) (by omega)))<|obs_nil) fun a w7 s=> ?_
  replace s:=s.drop [4]
  refine t_set (fI ((p+1:Nat):Int)) rfl s (by kernel_rfl) iiz fun a w s=> ?_
  refine tail_end rfl ?_
  replace s:=s.popB
  exact ⟨p+1,hk1,(by show qs.length - (p+1)<qs.length - p;omega),s.keepK _ (fmz ⟨mz5,fmz ⟨.head _,fnz⟩⟩)⟩
 ·have hk1:p=qs.length:=by have:=of_decide_eq_false e;rw [List.length_map] at this;omega
  refine wpIn_exit ?_
  refine wpIn_seq ?_
  refine region_go 1 ((33, .u (fQN ((qprod qs p)))):: []) hmix s (by kernel_rfl)
   (oc (ok_ldW (f:=fQN ((qprod qs p))) 3 (by kernel_rfl) (hz:=qn_len _))<|obs_nil) fun a w8 s=> ?_
  refine t_store (CU.agg (fQN ((qprod qs p)))) ((fQN ((qprod qs p))).toSF) rfl s (by kernel_rfl) rfl rfl rfl iiz iiz (qn_store) fun a w s=> ?_
  refine tail_end rfl ?_
  refine wpIn_ret ?_
  exact StS.resC s (CU.agg (fQN (qprod qs p))) rfl (by kernel_rfl) rfl rfl (qn_len _) (fun cs W h=>by rw [hk1] at h;exact h)
theorem r7add2_q {W:World} {m:Nat} {v:Value} {p q:Rat} (h:(SF.row 3 (rvs m [p,q])).p v W) (hp:QB p m) (hq:QB q m) (hm:2*m+1≤990):Calls Tryz.prog 66 #[v] W (Ret W (fQN (p+q)).toSF):=by
 have:=r7add_q (m+m+1) h hp.pos (by omega) (by omega) (by simp) (fun x hx=>by simp at hx;rcases hx with rfl|rfl;exact hp;exact hq) (fun k hk=>by
  rcases (by simp at hk;omega:k=0∨k=1∨k=2) with rfl|rfl|rfl
  ·exact QB.zero (by omega)
  ·show QB (0+p) _
   rw [Rat.zero_add]
   exact hp.mono (by omega)
  ·rw [qsum2]
   exact hp.add hq)
 rw [show ([p,q]:List Rat).length=2 from rfl,qsum2] at this
 exact this
theorem r7mul2_q {W:World} {m:Nat} {v:Value} {p q:Rat} (h:(SF.row 3 (rvs m [p,q])).p v W) (hp:QB p m) (hq:QB q m) (hm:2*m+1≤990):Calls Tryz.prog 75 #[v] W (Ret W (fQN (p*q)).toSF):=by
 have hm0:=hp.pos
 have:=r7mul_q (m+m) h hm0 (by omega) (by omega) (by simp) (fun x hx=>by simp at hx;rcases hx with rfl|rfl;exact hp;exact hq) (fun k hk=>by
  rcases (by simp at hk;omega:k=0∨k=1∨k=2) with rfl|rfl|rfl
  ·exact QB.one (by omega)
  ·show QB (1*p) _
   rw [Rat.one_mul]
   exact hp.mono (by omega)
  ·rw [qprod2]
   exact hp.mul hq)
 rw [show ([p,q]:List Rat).length=2 from rfl,qprod2] at this
 exact this
theorem ok_subI {F:Fence} {m:Nat} {P:Program} {w0:World} {ops:Array Oper} {G:Nat→SF} {d:Tmp} {ty:TypeId} {pos:String} {aft:Array Edge} {t:TypeId} {x y:Operand} {t':TypeId} (k:IntKind) (u v r:Int) (hx: ∀q W,(fct G x).p q W→q= .int k u) (hy: ∀q W,(fct G y).p q W→q= .int k v) (hr:k.wrap (u - v)=r) (hd: ∀W,(G d).p (.int k r) W:=by exact fun _=>rfl):GdOK F m P w0 ops G ⟨some d, .binOp .sub t x y t',ty,pos,aft,none⟩:=
 ok_bin (.int k u) (.int k v) (.int k r) hx hy (fun W=>by simp [eqGuard]) (fun W=>by simp [binOp,Op.intArith,hr]) hd
theorem r7sub_q {W:World} {m:Nat} {u v:Value} {p q:Rat} (h:RVp m p u W) (h':RVp m q v W) (hm:m≤490) (hm0:0<m):Calls Tryz.prog 103 #[u,v] W (Ret W (fQN (p - q)).toSF):=by
 have hp:QB p m:=h.qb hm0
 have hq:QB q m:=h'.qb hm0
 refine run_st [(fRV m p).toSF,(fRV m q).toSF] Tryz.func103 rfl (by kernel_rfl) ⟨h,h',trivial⟩ fun a s=> ?_
 refine wpIn_seq ?_
 refine region_go 0 [] hmix s (by kernel_rfl)
  obs_nil fun a w1 s=> ?_
 refine t_box (CU.agg (fRV (m) (p))) rfl s (by kernel_rfl) (fun v W h=>rv_box h) fun b2 a w s=> ?_
 refine t_box (CU.agg (fRV (m) (q))) rfl s (by kernel_rfl) (fun v W h=>rv_box h) fun b3 a w s=> ?_
 refine t_alloc (CU.len 3) (cs:= [.bool false, .slice none 0 0, .slice none 0 0]) (by kernel_rfl) rfl s (by kernel_rfl) (fun W=>rfl) rfl fun b4 a w s=> ?_
 refine tail_end rfl ?_
 refine wpIn_seq ?_
 refine region_goP [] 5 ((5, .s ((fRV (m) (p)).toSF))::(6, .s ((fRV (m) (q)).toSF))::(7, .s ((fQN ((-q))).toSF))::(8, .s (SF.row 3 (rvs m [p,(-q)])))::(9, .u (fQN ((p+ -q)))):: []) hmix s (by kernel_rfl)
  (oc (ok_ldW (f:=fRV (m) (p)) 3 (by kernel_rfl) (hz:=rv_len _ _))<|oc (ok_ldW (f:=fRV (m) (q)) 3 (by kernel_rfl) (hz:=rv_len _ _))<|oc (ok_call1 wide_wide en_139 (fun u0 W hb (h0:RVp (m) (q) u0 W)=>r7neg_q h0 (by omega) hm0))<|oc (ok_slice2 (fun u v W (hu:RVp (m) (p) u W) (hv:QNp ((-q)) v W)=>sl_rv2 hu (QNp.rv hv hq.neg)))<|oc (ok_call1 wide_wide en_66 (fun u0 W hb (h0:(SF.row 3 (rvs m [p,(-q)])).p u0 W)=>r7add2_q h0 hp hq.neg (by omega)))<|obs_nil) fun Q' hQ a w2 s=> ?_
 refine t_store (CU.agg (fQN ((p+ -q)))) ((fQN ((p+ -q))).toSF) rfl s (by kernel_rfl) rfl rfl rfl iiz iiz (qn_store) fun a w s=> ?_
 refine tail_end rfl (hQ _ _ ?_)
 refine wpIn_ret ?_
 exact StS.resC s (CU.agg (fQN (p+ -q))) rfl (by kernel_rfl) rfl rfl (qn_len _) (fun cs W h=>by rw [Rat.sub_eq_add_neg];exact h)
end Go.Proofs.Wd

namespace Go.Proofs.Wd
open Go.RowKit Lb
abbrev QX.q (x:QX):Rat:=mkRat x.k x.d
theorem rv_x {n n' m:Nat} {k:Int} {d:Nat} {v:Value} {W:World} (h:QXp n n' k d v W) (h1:n≤m) (h2:n'≤m):RVp m (mkRat k d) v W:=⟨k,d,qx_qv h h1 h2,rfl⟩
end Go.Proofs.Wd

namespace Go.Proofs.Wd
set_option maxRecDepth 100000
set_option maxHeartbeats 1000000
open Go.RowKit Lb
theorem r8of_p {W:World} {u v:Value} {x y:Int} (hu:u= .int .i64 x) (hv:v= .int .i64 y) (hx: -9223372036854775808≤x∧x≤9223372036854775807) (hy: -9223372036854775808≤y∧y≤9223372036854775807):Calls Tryz.prog 25 #[u,v] W (Ret W (fPN (((x:Int):Rat),((y:Int):Rat))).toSF):=by
 refine run_st [(UF.eq (.int .i64 x)).toSF,(UF.eq (.int .i64 y)).toSF] Tryz.func25 rfl (by kernel_rfl) ⟨hu,hv,trivial⟩ fun a s=> ?_
 refine wpIn_seq ?_
 refine region_go 0 [] hmix s (by kernel_rfl)
  obs_nil fun a w1 s=> ?_
 refine t_alloc (CU.len 6) (cs:= [.bool false, .slice none 0 0, .slice none 0 0, .bool false, .slice none 0 0, .slice none 0 0]) (by kernel_rfl) rfl s (by kernel_rfl) (fun W=>rfl) rfl fun b4 a w s=> ?_
 refine tail_end rfl ?_
 refine wpIn_seq ?_
 refine region_go 5 ((5, .s ((UF.eq (.int .i64 (x))).toSF))::(6, .s ((fQN ((((x):Int):Rat))).toSF))::(7, .s ((UF.eq (.int .i64 (y))).toSF))::(8, .s ((fQN ((((y):Int):Rat))).toSF))::(9, .u (fPN (((x:Int):Rat),((y:Int):Rat)))):: []) hmix s (by kernel_rfl)
  (oc ok_move<|oc (ok_call1 wide_wide en_27 (fun u0 W hb (h0:u0= .int .i64 (x))=>r7of_w (x) h0 hx))<|oc ok_move<|oc (ok_call1 wide_wide en_27 (fun u0 W hb (h0:u0= .int .i64 (y))=>r7of_w (y) h0 hy))<|oc (ok_build2 (fun u v W (hu:QNp ((((x):Int):Rat)) u W) (hv:QNp ((((y):Int):Rat)) v W)=>b_pt (ratU_qn _) (ratU_qn _) hu hv))<|obs_nil) fun a w2 s=> ?_
 refine t_store (CU.agg (fPN (((x:Int):Rat),((y:Int):Rat)))) ((fPN (((x:Int):Rat),((y:Int):Rat))).toSF) rfl s (by kernel_rfl) rfl rfl rfl iiz iiz (pt_store) fun a w s=> ?_
 refine tail_end rfl ?_
 refine wpIn_ret ?_
 exact StS.resC s (CU.agg (fPN (((x:Int):Rat),((y:Int):Rat)))) rfl (by kernel_rfl) rfl rfl (pt_len _ _) (fun cs W h=>h)
theorem r8add_p {m:Nat} {W:World} {u v:Value} {p q:V2} (h1:(fPV m p).p u W) (h2:(fPV m q).p v W) (hp:QB p.1 m∧QB p.2 m) (hq:QB q.1 m∧QB q.2 m) (hm:2*m+1≤990):Calls Tryz.prog 20 #[u,v] W (Ret W (fPN (p.1+q.1,p.2+q.2)).toSF):=by
 refine run_st [(fPV m p).toSF,(fPV m q).toSF] Tryz.func20 rfl (by kernel_rfl) ⟨h1,h2,trivial⟩ fun a s=> ?_
 refine wpIn_seq ?_
 refine region_go 0 [] hmix s (by kernel_rfl)
  obs_nil fun a w1 s=> ?_
 refine t_box (CU.agg (fPV (m) (p))) rfl s (by kernel_rfl) (fun v W h=>pt_box h) fun b2 a w s=> ?_
 refine t_box (CU.agg (fPV (m) (q))) rfl s (by kernel_rfl) (fun v W h=>pt_box h) fun b3 a w s=> ?_
 refine t_alloc (CU.len 6) (cs:= [.bool false, .slice none 0 0, .slice none 0 0, .bool false, .slice none 0 0, .slice none 0 0]) (by kernel_rfl) rfl s (by kernel_rfl) (fun W=>rfl) rfl fun b4 a w s=> ?_
 refine tail_end rfl ?_
 refine wpIn_seq ?_
 refine region_goP [] 13 ((5, .s (SF.ptr ((CU.agg (fPV (m) (p))).cf.at 0)))::(6, .s ((fRV (m) ((p).1)).toSF))::(7, .s (SF.ptr ((CU.agg (fPV (m) (q))).cf.at 0)))::(8, .s ((fRV (m) ((q).1)).toSF))::(9, .s (SF.row 3 (rvs (m) [(p).1,(q).1])))::(10, .s ((fQN (((p).1+(q).1))).toSF))::(11, .s (SF.ptr ((CU.agg (fPV (m) (p))).cf.at 3)))::(12, .s ((fRV (m) ((p).2)).toSF))::(13, .s (SF.ptr ((CU.agg (fPV (m) (q))).cf.at 3)))::(14, .s ((fRV (m) ((q).2)).toSF))::(15, .s (SF.row 3 (rvs (m) [(p).2,(q).2])))::(16, .s ((fQN (((p).2+(q).2))).toSF))::(17, .u (fPN (p.1+q.1,p.2+q.2))):: []) hmix s (by kernel_rfl)
  (oc (ok_fld (C:=(CU.agg (fPV (m) (p))).cf) 0 (by kernel_rfl))<|oc (ok_ldA (C:=(CU.agg (fPV (m) (p))).cf) (k:=0) 3 (by kernel_rfl) (h:=pt_x))<|oc (ok_fld (C:=(CU.agg (fPV (m) (q))).cf) 0 (by kernel_rfl))<|oc (ok_ldA (C:=(CU.agg (fPV (m) (q))).cf) (k:=0) 3 (by kernel_rfl) (h:=pt_x))<|oc (ok_slice2 (fun u v W (hu:RVp (m) ((p).1) u W) (hv:RVp (m) ((q).1) v W)=>sl_rv2 hu hv))<|oc (ok_call1 wide_wide en_66 (fun u0 W hb (h0:(SF.row 3 (rvs (m) [(p).1,(q).1])).p u0 W)=>r7add2_q h0 hp.1 hq.1 hm))<|oc (ok_fld (C:=(CU.agg (fPV (m) (p))).cf) 3 (by kernel_rfl))<|oc (ok_ldA (C:=(CU.agg (fPV (m) (p))).cf) (k:=3) 3 (by kernel_rfl) (h:=pt_y))<|oc (ok_fld (C:=(CU.agg (fPV (m) (q))).cf) 3 (by kernel_rfl))<|oc (ok_ldA (C:=(CU.agg (fPV (m) (q))).cf) (k:=3) 3 (by kernel_rfl) (h:=pt_y))<|oc (ok_slice2 (fun u v W (hu:RVp (m) ((p).2) u W) (hv:RVp (m) ((q).2) v W)=>sl_rv2 hu hv))<|oc (ok_call1 wide_wide en_66 (fun u0 W hb (h0:(SF.row 3 (rvs (m) [(p).2,(q).2])).p u0 W)=>r7add2_q h0 hp.2 hq.2 hm))<|oc (ok_build2 (fun u v W (hu:QNp (((p).1+(q).1)) u W) (hv:QNp (((p).2+(q).2)) v W)=>b_pt (ratU_qn _) (ratU_qn _) hu hv))<|obs_nil) fun Q' hQ a w2 s=> ?_
 refine t_store (CU.agg (fPN (p.1+q.1,p.2+q.2))) ((fPN (p.1+q.1,p.2+q.2)).toSF) rfl s (by kernel_rfl) rfl rfl rfl iiz iiz (pt_store) fun a w s=> ?_
 refine tail_end rfl (hQ _ _ ?_)
 refine wpIn_ret ?_
 exact StS.resC s (CU.agg (fPN (p.1+q.1,p.2+q.2))) rfl (by kernel_rfl) rfl rfl (pt_len _ _) (fun cs W h=>h)
theorem r8sub_p {m:Nat} {W:World} {u v:Value} {p q:V2} (h1:(fPV m p).p u W) (h2:(fPV m q).p v W) (hm:m≤490) (hm0:0<m):Calls Tryz.prog 58 #[u,v] W (Ret W (fPN (p.1 - q.1,p.2 - q.2)).toSF):=by
 refine run_st [(fPV m p).toSF,(fPV m q).toSF] Tryz.func58 rfl (by kernel_rfl) ⟨h1,h2,trivial⟩ fun a s=> ?_
 refine wpIn_seq ?_
 refine region_go 0 [] hmix s (by kernel_rfl)
  obs_nil fun a w1 s=> ?_
 refine t_box (CU.agg (fPV (m) (p))) rfl s (by kernel_rfl) (fun v W h=>pt_box h) fun b2 a w s=> ?_
 refine t_box (CU.agg (fPV (m) (q))) rfl s (by kernel_rfl) (fun v W h=>pt_box h) fun b3 a w s=> ?_
 refine t_alloc (CU.len 6) (cs:= [.bool false, .slice none 0 0, .slice none 0 0, .bool false, .slice none 0 0, .slice none 0 0]) (by kernel_rfl) rfl s (by kernel_rfl) (fun W=>rfl) rfl fun b4 a w s=> ?_
 refine tail_end rfl ?_
 refine wpIn_seq ?_
 refine region_goP [] 11 ((5, .s (SF.ptr ((CU.agg (fPV (m) (p))).cf.at 0)))::(6, .s ((fRV (m) ((p).1)).toSF))::(7, .s (SF.ptr ((CU.agg (fPV (m) (q))).cf.at 0)))::(8, .s ((fRV (m) ((q).1)).toSF))::(9, .s ((fQN (((p).1 - (q).1))).toSF))::(10, .s (SF.ptr ((CU.agg (fPV (m) (p))).cf.at 3)))::(11, .s ((fRV (m) ((p).2)).toSF))::(12, .s (SF.ptr ((CU.agg (fPV (m) (q))).cf.at 3)))::(13, .s ((fRV (m) ((q).2)).toSF))::(14, .s ((fQN (((p).2 - (q).2))).toSF))::(15, .u (fPN (p.1 - q.1,p.2 - q.2))):: []) hmix s (by kernel_rfl)
  (oc (ok_fld (C:=(CU.agg (fPV (m) (p))).cf) 0 (by kernel_rfl))<|oc (ok_ldA (C:=(CU.agg (fPV (m) (p))).cf) (k:=0) 3 (by kernel_rfl) (h:=pt_x))<|oc (ok_fld (C:=(CU.agg (fPV (m) (q))).cf) 0 (by kernel_rfl))<|oc (ok_ldA (C:=(CU.agg (fPV (m) (q))).cf) (k:=0) 3 (by kernel_rfl) (h:=pt_x))<|oc (ok_call2 wide_wide en_103 (fun u0 u1 W hb (h0:RVp (m) ((p).1) u0 W) (h1:RVp (m) ((q).1) u1 W)=>r7sub_q h0 h1 hm hm0))<|oc (ok_fld (C:=(CU.agg (fPV (m) (p))).cf) 3 (by kernel_rfl))<|oc (ok_ldA (C:=(CU.agg (fPV (m) (p))).cf) (k:=3) 3 (by kernel_rfl) (h:=pt_y))<|oc (ok_fld (C:=(CU.agg (fPV (m) (q))).cf) 3 (by kernel_rfl))<|oc (ok_ldA (C:=(CU.agg (fPV (m) (q))).cf) (k:=3) 3 (by kernel_rfl) (h:=pt_y))<|oc (ok_call2 wide_wide en_103 (fun u0 u1 W hb (h0:RVp (m) ((p).2) u0 W) (h1:RVp (m) ((q).2) u1 W)=>r7sub_q h0 h1 hm hm0))<|oc (ok_build2 (fun u v W (hu:QNp (((p).1 - (q).1)) u W) (hv:QNp (((p).2 - (q).2)) v W)=>b_pt (ratU_qn _) (ratU_qn _) hu hv))<|obs_nil) fun Q' hQ a w2 s=> ?_
 refine t_store (CU.agg (fPN (p.1 - q.1,p.2 - q.2))) ((fPN (p.1 - q.1,p.2 - q.2)).toSF) rfl s (by kernel_rfl) rfl rfl rfl iiz iiz (pt_store) fun a w s=> ?_
 refine tail_end rfl (hQ _ _ ?_)
 refine wpIn_ret ?_
 exact StS.resC s (CU.agg (fPN (p.1 - q.1,p.2 - q.2))) rfl (by kernel_rfl) rfl rfl (pt_len _ _) (fun cs W h=>h)
theorem r8scale_p {m:Nat} {W:World} {u v:Value} {p:V2} {t:Rat} (h1:(fPV m p).p u W) (h2:RVp m t v W) (hp:QB p.1 m∧QB p.2 m) (ht:QB t m) (hm:2*m+1≤990):Calls Tryz.prog 28 #[u,v] W (Ret W (fPN (p.1*t,p.2*t)).toSF):=by
 refine run_st [(fPV m p).toSF,(fRV m t).toSF] Tryz.func28 rfl (by kernel_rfl) ⟨h1,h2,trivial⟩ fun a s=> ?_
 refine wpIn_seq ?_
 refine region_go 0 [] hmix s (by kernel_rfl)
  obs_nil fun a w1 s=> ?_
 refine t_box (CU.agg (fPV (m) (p))) rfl s (by kernel_rfl) (fun v W h=>pt_box h) fun b2 a w s=> ?_
 refine t_box (CU.agg (fRV (m) (t))) rfl s (by kernel_rfl) (fun v W h=>rv_box h) fun b3 a w s=> ?_
 refine t_alloc (CU.len 6) (cs:= [.bool false, .slice none 0 0, .slice none 0 0, .bool false, .slice none 0 0, .slice none 0 0]) (by kernel_rfl) rfl s (by kernel_rfl) (fun W=>rfl) rfl fun b4 a w s=> ?_
 refine tail_end rfl ?_
 refine wpIn_seq ?_
 refine region_goP [] 11 ((5, .s (SF.ptr ((CU.agg (fPV (m) (p))).cf.at 0)))::(6, .s ((fRV (m) ((p).1)).toSF))::(7, .s ((fRV (m) (t)).toSF))::(8, .s (SF.row 3 (rvs (m) [(p).1,t])))::(9, .s ((fQN (((p).1*t))).toSF))::(10, .s (SF.ptr ((CU.agg (fPV (m) (p))).cf.at 3)))::(11, .s ((fRV (m) ((p).2)).toSF))::(12, .s ((fRV (m) (t)).toSF))::(13, .s (SF.row 3 (rvs (m) [(p).2,t])))::(14, .s ((fQN (((p).2*t))).toSF))::(15, .u (fPN (p.1*t,p.2*t))):: []) hmix s (by kernel_rfl)
  (oc (ok_fld (C:=(CU.agg (fPV (m) (p))).cf) 0 (by kernel_rfl))<|oc (ok_ldA (C:=(CU.agg (fPV (m) (p))).cf) (k:=0) 3 (by kernel_rfl) (h:=pt_x))<|oc (ok_ldW (f:=fRV (m) (t)) 3 (by kernel_rfl) (hz:=rv_len _ _))<|oc (ok_slice2 (fun u v W (hu:RVp (m) ((p).1) u W) (hv:RVp (m) (t) v W)=>sl_rv2 hu hv))<|oc (ok_call1 wide_wide en_75 (fun u0 W hb (h0:(SF.row 3 (rvs (m) [(p).1,t])).p u0 W)=>r7mul2_q h0 hp.1 ht (by omega)))<|oc (ok_fld (C:=(CU.agg (fPV (m) (p))).cf) 3 (by kernel_rfl))<|oc (ok_ldA (C:=(CU.agg (fPV (m) (p))).cf) (k:=3) 3 (by kernel_rfl) (h:=pt_y))<|oc (ok_ldW (f:=fRV (m) (t)) 3 (by kernel_rfl) (hz:=rv_len _ _))<|oc (ok_slice2 (fun u v W (hu:RVp (m) ((p).2) u W) (hv:RVp (m) (t) v W)=>sl_rv2 hu hv))<|oc (ok_call1 wide_wide en_75 (fun u0 W hb (h0:(SF.row 3 (rvs (m) [(p).2,t])).p u0 W)=>r7mul2_q h0 hp.2 ht (by omega)))<|oc (ok_build2 (fun u v W (hu:QNp (((p).1*t)) u W) (hv:QNp (((p).2*t)) v W)=>b_pt (ratU_qn _) (ratU_qn _) hu hv))<|obs_nil) fun Q' hQ a w2 s=> ?_
 refine t_store (CU.agg (fPN (p.1*t,p.2*t))) ((fPN (p.1*t,p.2*t)).toSF) rfl s (by kernel_rfl) rfl rfl rfl iiz iiz (pt_store) fun a w s=> ?_
 refine tail_end rfl (hQ _ _ ?_)
 refine wpIn_ret ?_
 exact StS.resC s (CU.agg (fPN (p.1*t,p.2*t))) rfl (by kernel_rfl) rfl rfl (pt_len _ _) (fun cs W h=>h)
theorem r8cross_p {m:Nat} {W:World} {u v:Value} {p q:V2} (h1:(fPV m p).p u W) (h2:(fPV m q).p v W) (hp:QB p.1 m∧QB p.2 m) (hq:QB q.1 m∧QB q.2 m) (hm:m≤240) (hm0:0<m):Calls Tryz.prog 67 #[u,v] W (Ret W (fQN (p.1*q.2 - p.2*q.1)).toSF):=by
 refine run_st [(fPV m p).toSF,(fPV m q).toSF] Tryz.func67 rfl (by kernel_rfl) ⟨h1,h2,trivial⟩ fun a s=> ?_
 refine wpIn_seq ?_
 refine region_go 0 [] hmix s (by kernel_rfl)
  obs_nil fun a w1 s=> ?_
 refine t_box (CU.agg (fPV (m) (p))) rfl s (by kernel_rfl) (fun v W h=>pt_box h) fun b2 a w s=> ?_
 refine t_box (CU.agg (fPV (m) (q))) rfl s (by kernel_rfl) (fun v W h=>pt_box h) fun b3 a w s=> ?_
 refine t_alloc (CU.len 3) (cs:= [.bool false, .slice none 0 0, .slice none 0 0]) (by kernel_rfl) rfl s (by kernel_rfl) (fun W=>rfl) rfl fun b4 a w s=> ?_
 refine tail_end rfl ?_
 refine wpIn_seq ?_
 refine region_goP [] 13 ((5, .s (SF.ptr ((CU.agg (fPV (m) (p))).cf.at 0)))::(6, .s ((fRV (m) ((p).1)).toSF))::(7, .s (SF.ptr ((CU.agg (fPV (m) (q))).cf.at 3)))::(8, .s ((fRV (m) ((q).2)).toSF))::(9, .s (SF.row 3 (rvs (m) [(p).1,(q).2])))::(10, .s ((fQN (((p).1*(q).2))).toSF))::(11, .s (SF.ptr ((CU.agg (fPV (m) (p))).cf.at 3)))::(12, .s ((fRV (m) ((p).2)).toSF))::(13, .s (SF.ptr ((CU.agg (fPV (m) (q))).cf.at 0)))::(14, .s ((fRV (m) ((q).1)).toSF))::(15, .s (SF.row 3 (rvs (m) [(p).2,(q).1])))::(16, .s ((fQN (((p).2*(q).1))).toSF))::(17, .u (fQN ((((p).1*(q).2) - ((p).2*(q).1))))):: []) hmix s (by kernel_rfl)
  (oc (ok_fld (C:=(CU.agg (fPV (m) (p))).cf) 0 (by kernel_rfl))<|oc (ok_ldA (C:=(CU.agg (fPV (m) (p))).cf) (k:=0) 3 (by kernel_rfl) (h:=pt_x))<|oc (ok_fld (C:=(CU.agg (fPV (m) (q))).cf) 3 (by kernel_rfl))<|oc (ok_ldA (C:=(CU.agg (fPV (m) (q))).cf) (k:=3) 3 (by kernel_rfl) (h:=pt_y))<|oc (ok_slice2 (fun u v W (hu:RVp (m) ((p).1) u W) (hv:RVp (m) ((q).2) v W)=>sl_rv2 hu hv))<|oc (ok_call1 wide_wide en_75 (fun u0 W hb (h0:(SF.row 3 (rvs (m) [(p).1,(q).2])).p u0 W)=>r7mul2_q h0 hp.1 hq.2 (by omega)))<|oc (ok_fld (C:=(CU.agg (fPV (m) (p))).cf) 3 (by kernel_rfl))<|oc (ok_ldA (C:=(CU.agg (fPV (m) (p))).cf) (k:=3) 3 (by kernel_rfl) (h:=pt_y))<|oc (ok_fld (C:=(CU.agg (fPV (m) (q))).cf) 0 (by kernel_rfl))<|oc (ok_ldA (C:=(CU.agg (fPV (m) (q))).cf) (k:=0) 3 (by kernel_rfl) (h:=pt_x))<|oc (ok_slice2 (fun u v W (hu:RVp (m) ((p).2) u W) (hv:RVp (m) ((q).1) v W)=>sl_rv2 hu hv))<|oc (ok_call1 wide_wide en_75 (fun u0 W hb (h0:(SF.row 3 (rvs (m) [(p).2,(q).1])).p u0 W)=>r7mul2_q h0 hp.2 hq.1 (by omega)))<|oc (ok_call2 wide_wide en_103 (fun u0 u1 W hb (h0:QNp (((p).1*(q).2)) u0 W) (h1:QNp (((p).2*(q).1)) u1 W)=>r7sub_q (QNp.rv h0 (hp.1.mul hq.2)) (QNp.rv h1 (hp.2.mul hq.1)) (by omega) (by omega)))<|obs_nil) fun Q' hQ a w2 s=> ?_
 refine t_store (CU.agg (fQN ((((p).1*(q).2) - ((p).2*(q).1))))) ((fQN ((((p).1*(q).2) - ((p).2*(q).1)))).toSF) rfl s (by kernel_rfl) rfl rfl rfl iiz iiz (qn_store) fun a w s=> ?_
 refine tail_end rfl (hQ _ _ ?_)
 refine wpIn_ret ?_
 exact StS.resC s (CU.agg (fQN (p.1*q.2 - p.2*q.1))) rfl (by kernel_rfl) rfl rfl (qn_len _) (fun cs W h=>h)
theorem r8at_p {m k:Nat} (M:Nat) {W:World} {u v x:Value} {p q:V2} {t:Rat} (h1:(fPV m p).p u W) (h2:(fPV m q).p v W) (h3:RVp k t x W) (hp:QB p.1 m∧QB p.2 m) (hq:QB q.1 m∧QB q.2 m) (ht:QB t k) (hm0:0<m) (hM:m+m+1+k≤M) (hM2:M≤490):Calls Tryz.prog 44 #[u,v,x] W (Ret W (fPN (seg p q t)).toSF):=by
 refine run_st [(fPV m p).toSF,(fPV m q).toSF,(fRV k t).toSF] Tryz.func44 rfl (by kernel_rfl) ⟨h1,h2,h3,trivial⟩ fun a s=> ?_
 refine wpIn_seq ?_
 refine region_go 0 [] hmix s (by kernel_rfl)
  obs_nil fun a w1 s=> ?_
 refine t_box (CU.agg (fPV (m) (p))) rfl s (by kernel_rfl) (fun v W h=>pt_box h) fun b3 a w s=> ?_
 refine t_box (CU.agg (fPV (m) (q))) rfl s (by kernel_rfl) (fun v W h=>pt_box h) fun b4 a w s=> ?_
 refine t_box (CU.agg (fRV (k) (t))) rfl s (by kernel_rfl) (fun v W h=>rv_box h) fun b5 a w s=> ?_
 refine t_alloc (CU.len 6) (cs:= [.bool false, .slice none 0 0, .slice none 0 0, .bool false, .slice none 0 0, .slice none 0 0]) (by kernel_rfl) rfl s (by kernel_rfl) (fun W=>rfl) rfl fun b6 a w s=> ?_
 refine tail_end rfl ?_
 refine wpIn_seq ?_
 refine region_goP [] 7 ((7, .s ((fPV (m) (p)).toSF))::(8, .s ((fPV (m) (q)).toSF))::(9, .s ((fPV (m) (p)).toSF))::(10, .s ((fPN (((q).1 - (p).1,(q).2 - (p).2))).toSF))::(11, .s ((fRV (k) (t)).toSF))::(12, .s ((fPN ((((q).1 - (p).1)*t,((q).2 - (p).2)*t))).toSF))::(13, .u (fPN ((seg p q t)))):: []) hmix s (by kernel_rfl)
  (oc (ok_ldW (f:=fPV (m) (p)) 6 (by kernel_rfl) (hz:=pt_len _ _))<|oc (ok_ldW (f:=fPV (m) (q)) 6 (by kernel_rfl) (hz:=pt_len _ _))<|oc (ok_ldW (f:=fPV (m) (p)) 6 (by kernel_rfl) (hz:=pt_len _ _))<|oc (ok_call2 wide_wide en_58 (fun u0 u1 W hb (h0:(fPV (m) (q)).p u0 W) (h1:(fPV (m) (p)).p u1 W)=>r8sub_p (p:=q) (q:=p) h0 h1 (by omega) hm0))<|oc (ok_ldW (f:=fRV (k) (t)) 3 (by kernel_rfl) (hz:=rv_len _ _))<|oc (ok_call2 wide_wide en_28 (fun u0 u1 W hb (h0:(fPN (((q).1 - (p).1,(q).2 - (p).2))).p u0 W) (h1:RVp (k) (t) u1 W)=>r8scale_p (p:=((q).1 - (p).1,(q).2 - (p).2)) (pn_pv (p:=((q).1 - (p).1,(q).2 - (p).2)) (m:=M) ((show QB _ _∧QB _ _ from ⟨hq.1.sub hp.1,hq.2.sub hp.2⟩).1.mono (by first|omega|decide)) ((show QB _ _∧QB _ _ from ⟨hq.1.sub hp.1,hq.2.sub hp.2⟩).2.mono (by first|omega|decide)) h0) (RVp.mono h1 (by omega)) ⟨(show QB _ _∧QB _ _ from ⟨hq.1.sub hp.1,hq.2.sub hp.2⟩).1.mono (by omega),(show QB _ _∧QB _ _ from ⟨hq.1.sub hp.1,hq.2.sub hp.2⟩).2.mono (by omega)⟩ (ht.mono (by omega)) (by omega)))<|oc (ok_call2 wide_wide en_20 (fun u0 u1 W hb (h0:(fPV (m) (p)).p u0 W) (h1:(fPN ((((q).1 - (p).1)*t,((q).2 - (p).2)*t))).p u1 W)=>r8add_p (p:=p) (q:=(((q).1 - (p).1)*t,((q).2 - (p).2)*t)) (pv_mono (m':=M) (by omega) h0) (pn_pv (p:=(((q).1 - (p).1)*t,((q).2 - (p).2)*t)) (m:=M) ((show QB _ _∧QB _ _ from ⟨(hq.1.sub hp.1).mul ht,(hq.2.sub hp.2).mul ht⟩).1.mono (by first|omega|decide)) ((show QB _ _∧QB _ _ from ⟨(hq.1.sub hp.1).mul ht,(hq.2.sub hp.2).mul ht⟩).2.mono (by first|omega|decide)) h1) ⟨hp.1.mono (by omega),hp.2.mono (by omega)⟩ ⟨(show QB _ _∧QB _ _ from ⟨(hq.1.sub hp.1).mul ht,(hq.2.sub hp.2).mul ht⟩).1.mono (by omega),(show QB _ _∧QB _ _ from ⟨(hq.1.sub hp.1).mul ht,(hq.2.sub hp.2).mul ht⟩).2.mono (by omega)⟩ (by omega)))<|obs_nil) fun Q' hQ a w2 s=> ?_
 refine t_store (CU.agg (fPN ((seg p q t)))) ((fPN ((seg p q t))).toSF) rfl s (by kernel_rfl) rfl rfl rfl iiz iiz (pt_store) fun a w s=> ?_
 refine tail_end rfl (hQ _ _ ?_)
 refine wpIn_ret ?_
 exact StS.resC s (CU.agg (fPN (seg p q t))) rfl (by kernel_rfl) rfl rfl (pt_len _ _) (fun cs W h=>h)
end Go.Proofs.Wd

namespace Go.Proofs.Wd
open Go.RowKit Lb
theorem sPt1 (s:Bool) (A A':Option Addr) (n n' c c':Nat) (s2:Bool) (B B':Option Addr) (k k' d d':Nat):sliceCells Tryz.prog 22 1 [(0, .agg #[.bool s, .slice A n c, .slice A' n' c', .bool s2, .slice B k d, .slice B' k' d'])]=some (31,#[.bool s, .slice A n c, .slice A' n' c', .bool s2, .slice B k d, .slice B' k' d']):=by kernel_rfl
theorem sl_pt1 {f g:UF} {u:Value} {W:World} (h:(fPT f g).p u W): ∃e cs,sliceCells Tryz.prog 22 1 [(0,u)]=some (e,cs)∧(SF.row 6 [CU.agg (fPT f g)]).p (.slice (some ⟨W.heap.size,0,none⟩) 1 1) (W.alloc (.cells cs e)):=by
 obtain ⟨s,A,n,c,A',n',c',s2,B,k,d,B',k',d',rfl,h1,h2⟩:=h
 refine ⟨_,_,sPt1 s A A' n n' c c' s2 B B' k k' d d',some ⟨W.heap.size,0,none⟩,1,rfl,Nat.le_refl _,by decide,fun e=>(by cases e),fun i C hi=> ?_⟩
 have hb:=alloc_b W (.cells #[.bool s, .slice A n c, .slice A' n' c', .bool s2, .slice B k d, .slice B' k' d'] 31)
 have hm:=mem_new W #[.bool s, .slice A n c, .slice A' n' c', .bool s2, .slice B k d, .slice B' k' d'] 31
 obtain rfl:i=0:=by have:=(List.getElem?_eq_some_iff.1 hi).1;simp at this;omega
 obtain rfl:CU.agg (fPT f g)=C:=by simpa using hi
 refine ⟨W.heap.size,0, [.bool s, .slice A n c, .slice A' n' c', .bool s2, .slice B k d, .slice B' k' d'],rfl, ?_,(CU.agg (fPT f g)).us _ _ _ ⟨s,A,n,c,A',n',c',s2,B,k,d,B',k',d',rfl,h1,h2⟩ (keepU_below hb)⟩
 rw [show 0+0*6=0 from rfl]
 exact hm
theorem one_ok (f g:UF): ∀C,C∈ [CU.agg (fPT f g)]→CU.ok 6 C:=fun C hC=>by
 obtain rfl:C=CU.agg (fPT f g):=by simpa using hC
 exact pt_ok f g
theorem pns_snoc {ps:List V2} {k:Nat} (h:k<ps.length):pns (ps.take (k+1))=pns (ps.take k)++ [CU.agg (fPN (at_ ps k))]:=by
 unfold pns at_
 rw [List.take_add_one,List.map_append,List.getD_eq_getElem?_getD,List.getElem?_eq_getElem h]
 rfl
end Go.Proofs.Wd

namespace Go.Proofs.Wd
set_option maxRecDepth 100000
set_option maxHeartbeats 1000000
open Go.RowKit Lb
def TB (m:Nat) (g:V2→Bool) (xs:Array Value) (W:World) (R:SF):Prop:= ∃u p,xs=#[u]∧(fPV m p).p u W∧R=(fB (g p)).toSF
def idxV {α:Type} (g:α→Bool) (l:List α):Int:=if l.any g then ((l.findIdx g:Nat):Int) else -1
theorem idxV_any {α:Type} (g:α→Bool) (l:List α):decide (idxV g l≥0)=l.any g:=by
 unfold idxV
 cases h:l.any g with
 |true=>simp
 |false=>simp
theorem idxV_at {g:V2→Bool} {l:List V2} {k:Nat} (hk:k<l.length) (h0: ∀j,j<k→g (at_ l j)=false) (h1:g (at_ l k)=true):idxV g l=((k:Nat):Int):=by
 have ha:l.any g=true:=List.any_eq_true.2 ⟨_,at_mem hk,h1⟩
 unfold idxV
 rw [if_pos ha]
 congr 1
 have ge: ∀j,at_ l j=l.getD j (0,0):=fun _=>rfl
 refine (List.findIdx_eq hk).2 ⟨by have:=h1;unfold at_ at this;rwa [List.getD_eq_getElem?_getD,List.getElem?_eq_getElem hk] at this,fun j hj=> ?_⟩
 have:=h0 j hj
 unfold at_ at this
 rwa [List.getD_eq_getElem?_getD,List.getElem?_eq_getElem (Nat.lt_trans hj hk)] at this
theorem idxV_none {g:V2→Bool} {l:List V2} (h0: ∀j,j<l.length→g (at_ l j)=false):idxV g l= -1:=by
 unfold idxV
 rw [if_neg]
 intro ha
 obtain ⟨p,hp,e⟩:=List.any_eq_true.1 ha
 obtain ⟨j,hj,rfl⟩:=mem_at hp
 rw [h0 j hj] at e
 cases e
theorem ixf_p {m:Nat} {g:V2→Bool} {W:World} {l f:Value} {ps:List V2} (hl:(SF.row 6 (pvs m ps)).p l W) (hf:(SF.fn Tryz.prog (TB m g)).p f W) (hn:ps.length≤1000000):Calls Tryz.prog 124 #[l,f] W (Ret W (fI (idxV g ps)).toSF):=by
 refine run_st [SF.row 6 (pvs m ps),SF.fn Tryz.prog (TB m g)] Tryz.func124 rfl (by kernel_rfl) ⟨hl,hf,trivial⟩ fun a s=> ?_
 refine wpIn_seq ?_
 refine region_go 1 ((4, .u (UF.eq (.int .i64 (0)))):: []) hmix s (by kernel_rfl)
  (oc (ok_assign)<|obs_nil) fun a w1 s=> ?_
 refine tail_end rfl ?_
 refine wpIn_seq ?_
 refine wpIn_seq ?_
 refine region_go 3 ((6, .s (SF.row 6 (pvs (m) (ps))))::(7, .u (UF.eq (.int .i64 ((((pvs (m) (ps)).length:Nat):Int)))))::(8, .u (UF.eq (.int .i64 (0)))):: []) hmix s (by kernel_rfl)
  (oc ok_move<|oc (ok_lenR (z:=6) (Cs:=pvs (m) (ps)) (by kernel_rfl) iiz (fun _=>rfl))<|oc ok_move<|obs_nil) fun a w2 s=> ?_
 refine tail_end rfl ?_
 refine wpIn_block ?_
 refine st_whileK (fun k=>k≤ps.length∧ ∀j,j<k→g (at_ ps j)=false) (fun k=> [(0, .o (SF.row 6 (pvs (m) (ps)))),(1, .o (SF.fn Tryz.prog (TB m g))),(7, .u (UF.eq (.int .i64 ((((pvs (m) (ps)).length:Nat):Int))))),(8, .u (UF.eq (.int .i64 (((k:Nat):Int)))))]) (fun k=>ps.length - k) ((0:Nat)) (⟨Nat.zero_le _,fun j hj=>absurd hj (Nat.not_lt_zero _)⟩) (s.keepK _ (fmz ⟨mz3,fmz ⟨mz4,fmz ⟨.head _,fmz ⟨mz1,fnz⟩⟩⟩⟩)) fun k a w hx s=> ?_
 refine wpIn_seq ?_
 refine region_go 1 ((9, .u (UF.eq (.bool (decide (((k:Nat):Int)<(((pvs (m) (ps)).length:Nat):Int)))))):: []) hmix s (by kernel_rfl)
  (oc (ok_cmpI .i64 (((k:Nat):Int)) ((((pvs (m) (ps)).length:Nat):Int)) (decide (((k:Nat):Int)<(((pvs (m) (ps)).length:Nat):Int))) iiz iiz rfl rfl)<|obs_nil) fun a w3 s=> ?_
 refine tail_end rfl ?_
 refine wpIn_seq ?_
 refine StS.cond s (decide (((k:Nat):Int)<(((pvs (m) (ps)).length:Nat):Int))) iiz (fun e=> ?_) (fun e=> ?_)
 ·have hk:k<ps.length:=by have:=of_decide_eq_true e;simp at this;omega
  refine wpIn_skip ?_
  refine wpIn_seq ?_
  refine wpIn_block ?_
  refine wpIn_seq ?_
  refine region_go 2 ((10, .s ((UF.eq (.int .i64 (((k:Nat):Int)))).toSF))::(5, .u (UF.eq (.int .i64 (((k:Nat):Int))))):: []) hmix s (by kernel_rfl)
   (oc ok_move<|oc (ok_assign)<|obs_nil) fun a w4 s=> ?_
  refine tail_end rfl ?_
  refine wpIn_seq ?_
  refine region_go 6 ((11, .s (SF.fn Tryz.prog (TB m g)))::(12, .s (SF.row 6 (pvs (m) (ps))))::(13, .s ((UF.eq (.int .i64 (((k:Nat):Int)))).toSF))::(14, .s (SF.ptr (CU.agg (fPV (m) ((at_ ps k)))).cf))::(15, .s ((fPV (m) ((at_ ps k))).toSF))::(16, .u (UF.eq (.bool (g (at_ ps k))))):: []) hmix s (by kernel_rfl)
   (oc ok_move<|oc ok_move<|oc ok_move<|oc (ok_index (z:=6) (Cs:=pvs (m) (ps)) (i:=k) (C:=CU.agg (fPV (m) ((at_ ps k)))) (by kernel_rfl) (pvs_get hk) iiz iiz)<|oc (ok_ldW (f:=fPV (m) ((at_ ps k))) 6 (by kernel_rfl) (hz:=pt_len _ _))<|oc (ok_fn1 (TB m g) wide_wide iiz (fun u W hb (h:(fPV (m) (at_ ps k)).p u W)=>⟨u,_,rfl,h,rfl⟩))<|obs_nil) fun a w5 s=> ?_
  refine tail_end rfl ?_
  refine StS.cond s (g (at_ ps k)) iiz (fun e=> ?_) (fun e=> ?_)
  ·refine wpIn_seq ?_
   refine region_go 2 ((17, .s ((UF.eq (.int .i64 (((k:Nat):Int)))).toSF))::(4, .u (UF.eq (.int .i64 (((k:Nat):Int))))):: []) hmix s (by kernel_rfl)
    (oc ok_move<|oc (ok_assign)<|obs_nil) fun a w6 s=> ?_
   refine tail_end rfl ?_
   refine wpIn_ret ?_
   exact StS.res1 s (t:=4) rfl (fun v W h=>by rw [idxV_at hk hx.2 e];exact h)
  ·refine wpIn_skip ?_
   refine region_goS 1 ((18, .u (UF.eq (.int .i64 (((k+1:Nat):Int))))):: []) s (by kernel_rfl)
    (oc (ok_addI .i64 (((k:Nat):Int)) (1) (((k+1:Nat):Int)) iiz iiz (wrap64 _ _ (by omega) (by omega)))<|obs_nil) fun a w7 s=> ?_
   replace s:=s.drop [8]
   refine t_gd (UF.eq (.int .i64 (((k+1:Nat):Int)))) rfl s (by kernel_rfl) (ok_move) (by kernel_rfl) fun a w s=> ?_
   refine tail_end rfl ?_
   exact ⟨k+1,⟨hk,fun j hj=>by rcases Nat.lt_or_eq_of_le (Nat.le_of_lt_succ hj) with h|h;exact hx.2 j h;rw [h];exact e⟩,(by show ps.length - (k+1)<ps.length - k;omega),s.keepK _ (fmz ⟨mz5,fmz ⟨mz6,fmz ⟨mz7,fmz ⟨.head _,fnz⟩⟩⟩⟩)⟩
 ·have hk:k=ps.length:=by have h7:=of_decide_eq_false e;have h8:=hx.1;simp at h7;omega
  refine wpIn_exit ?_
  refine wpIn_seq ?_
  refine region_go 1 ((4, .u (UF.eq (.int .i64 (-1)))):: []) hmix s (by kernel_rfl)
   (oc (ok_assign)<|obs_nil) fun a w8 s=> ?_
  refine tail_end rfl ?_
  refine wpIn_ret ?_
  exact StS.res1 s (t:=4) rfl (fun v W h=>by rw [idxV_none (fun j hj=>hx.2 j (by omega))];exact h)
theorem cf_p {m:Nat} {g:V2→Bool} {W:World} {l f:Value} {ps:List V2} (hl:(SF.row 6 (pvs m ps)).p l W) (hf:(SF.fn Tryz.prog (TB m g)).p f W) (hn:ps.length≤1000000):Calls Tryz.prog 81 #[l,f] W (Ret W (fB (ps.any g)).toSF):=by
 refine run_st [SF.row 6 (pvs m ps),SF.fn Tryz.prog (TB m g)] Tryz.func81 rfl (by kernel_rfl) ⟨hl,hf,trivial⟩ fun a s=> ?_
 refine wpIn_seq ?_
 refine region_go 1 ((4, .u (UF.eq (.bool false))):: []) hmix s (by kernel_rfl)
  (oc (ok_assign)<|obs_nil) fun a w1 s=> ?_
 refine tail_end rfl ?_
 refine wpIn_seq ?_
 replace s:=s.drop [4]
 refine region_go 5 ((5, .s (SF.row 6 (pvs (m) (ps))))::(6, .s (SF.fn Tryz.prog (TB m g)))::(7, .s ((UF.eq (.int .i64 (idxV g ps))).toSF))::(8, .s ((UF.eq (.bool (decide (idxV g ps≥0)))).toSF))::(4, .u (UF.eq (.bool (decide (idxV g ps≥0))))):: []) hmix s (by kernel_rfl)
  (oc ok_move<|oc ok_move<|oc (ok_call2 wide_wide en_124 (fun u0 u1 W hb (h0:(SF.row 6 (pvs (m) (ps))).p u0 W) (h1:(SF.fn Tryz.prog (TB m g)).p u1 W)=>ixf_p h0 h1 hn))<|oc (ok_cmpI .i64 (idxV g ps) (0) (decide (idxV g ps≥0)) iiz iiz rfl rfl)<|oc (ok_assign)<|obs_nil) fun a w2 s=> ?_
 refine tail_end rfl ?_
 refine wpIn_ret ?_
 exact StS.res1 s (t:=4) rfl (fun v W h=>by rw [←idxV_any];exact h)
theorem sign_pos (q:Rat):decide (q.num.sign>0)=decide (0<q):=by
 have h0:0<q↔0<q.num:=by rw [Rat.lt_iff];simp
 rw [decide_eq_decide,h0]
 constructor
 ·intro h;exact Int.sign_eq_one_iff_pos.1 (by have:=Int.sign_trichotomy q.num;omega)
 ·intro h;rw [Int.sign_eq_one_of_pos h];decide
theorem parts1a_p {m:Nat} {W:World} {u v x:Value} {y z p:V2} (h1:(fPV m p).p u W) (h2:(SF.ptr (CU.agg (fPN (z.1 - y.1,z.2 - y.2))).cf).p v W) (h3:(SF.ptr (CU.agg (fPV m y)).cf).p x W) (hp:QB p.1 m∧QB p.2 m) (hy:QB y.1 m∧QB y.2 m) (hz:QB z.1 m∧QB z.2 m) (hm:m≤60) (hm0:0<m) (hT:Tab W):Calls Tryz.prog 107 #[u,v,x] W (Ret W (fB (decide (0<crs y z p))).toSF):=by
 have hd:QB (z.1 - y.1) (2*m+1)∧QB (z.2 - y.2) (2*m+1):=⟨(hz.1.sub hy.1).mono (by omega),(hz.2.sub hy.2).mono (by omega)⟩
 have hs:QB (p.1 - y.1) (2*m+1)∧QB (p.2 - y.2) (2*m+1):=⟨(hp.1.sub hy.1).mono (by omega),(hp.2.sub hy.2).mono (by omega)⟩
 refine run_st [(fPV m p).toSF,SF.ptr (CU.agg (fPN (z.1 - y.1,z.2 - y.2))).cf,SF.ptr (CU.agg (fPV m y)).cf] Tryz.func107 rfl (by kernel_rfl) ⟨h1,h2,h3,trivial⟩ fun a s=> ?_
 refine wpIn_seq ?_
 refine region_go 0 [] hmix s (by kernel_rfl)
  obs_nil fun a w1 s=> ?_
 refine t_box (CU.agg (fPV (m) (p))) rfl s (by kernel_rfl) (fun v W h=>pt_box h) fun b3 a w s=> ?_
 refine t_set (UF.eq (.bool false)) rfl s (by kernel_rfl) iiz fun a w s=> ?_
 refine tail_end rfl ?_
 refine wpIn_seq ?_
 replace s:=s.drop [4]
 refine region_go 8 ((5, .s ((fPN ((z.1 - y.1,z.2 - y.2))).toSF))::(6, .s ((fPV (m) (p)).toSF))::(7, .s ((fPV (m) (y)).toSF))::(8, .s ((fPN ((p.1 - y.1,p.2 - y.2))).toSF))::(9, .s ((fQN (((z.1 - y.1)*(p.2 - y.2) - (z.2 - y.2)*(p.1 - y.1)))).toSF))::(10, .s ((UF.eq (.int .i64 (((z.1 - y.1)*(p.2 - y.2) - (z.2 - y.2)*(p.1 - y.1)).num.sign))).toSF))::(11, .s ((UF.eq (.bool (decide (((z.1 - y.1)*(p.2 - y.2) - (z.2 - y.2)*(p.1 - y.1)).num.sign>0)))).toSF))::(4, .u (UF.eq (.bool (decide (((z.1 - y.1)*(p.2 - y.2) - (z.2 - y.2)*(p.1 - y.1)).num.sign>0))))):: []) hmix s (by kernel_rfl)
  (oc (ok_ldW (f:=fPN ((z.1 - y.1,z.2 - y.2))) 6 (by kernel_rfl) (hz:=pt_len _ _))<|oc (ok_ldW (f:=fPV (m) (p)) 6 (by kernel_rfl) (hz:=pt_len _ _))<|oc (ok_ldW (f:=fPV (m) (y)) 6 (by kernel_rfl) (hz:=pt_len _ _))<|oc (ok_call2 wide_wide en_102 (fun u0 u1 W hb (h0:(fPV (m) (p)).p u0 W) (h1:(fPV (m) (y)).p u1 W)=>vSub_p (p:=p) (q:=y) h0 h1 (by omega) hm0 (hT.below (s.up hb))))<|oc (ok_call2 wide_wide en_109 (fun u0 u1 W hb (h0:(fPN ((z.1 - y.1,z.2 - y.2))).p u0 W) (h1:(fPN ((p.1 - y.1,p.2 - y.2))).p u1 W)=>vCross_p (p:=(z.1 - y.1,z.2 - y.2)) (q:=(p.1 - y.1,p.2 - y.2)) (pn_pv (p:=(z.1 - y.1,z.2 - y.2)) (m:=(2*m+1)) (hd.1.mono (by first|omega|decide)) (hd.2.mono (by first|omega|decide)) h0) (pn_pv (p:=(p.1 - y.1,p.2 - y.2)) (m:=(2*m+1)) (hs.1.mono (by first|omega|decide)) (hs.2.mono (by first|omega|decide)) h1) hd hs (by omega) (by omega) (hT.below (s.up hb))))<|oc (ok_call1 wide_wide en_108 (fun u0 W hb (h0:QNp (((z.1 - y.1)*(p.2 - y.2) - (z.2 - y.2)*(p.1 - y.1))) u0 W)=>rSign_q (QNp.rv (m:=2*(2*m+1)+2*(2*m+1)+1) h0 (((hd.1.mul hs.2).sub (hd.2.mul hs.1)).mono (by omega))) (by omega) (by omega) (hT.below (s.up hb))))<|oc (ok_cmpI .i64 (((z.1 - y.1)*(p.2 - y.2) - (z.2 - y.2)*(p.1 - y.1)).num.sign) (0) (decide (((z.1 - y.1)*(p.2 - y.2) - (z.2 - y.2)*(p.1 - y.1)).num.sign>0)) iiz iiz rfl rfl)<|oc (ok_assign)<|obs_nil) fun a w2 s=> ?_
 refine tail_end rfl ?_
 refine wpIn_ret ?_
 exact StS.res1 s (t:=4) rfl (fun v W h=>by rw [show decide (0<crs y z p)=decide (((z.1 - y.1)*(p.2 - y.2) - (z.2 - y.2)*(p.1 - y.1)).num.sign>0) from (sign_pos _).symm];exact h)
theorem pv_qb {m:Nat} (hm0:0<m) {p:V2} {v:Value} {W:World} (h:(fPV m p).p v W):QB p.1 m∧QB p.2 m:=by
 obtain ⟨_,_,_,_,_,_,_,_,_,_,_,_,_,_,_,h1,h2⟩:=h
 exact ⟨h1.qb hm0,h2.qb hm0⟩
theorem parts_any (y z:V2) (ps:List V2):partsB y z ps= !(ps.any fun p=>decide (0<crs y z p)):=by
 unfold partsB
 induction ps with
 |nil=>rfl
 |cons p ps ih=>rw [List.all_cons,List.any_cons,ih,Bool.not_or]
theorem aparts_p {m:Nat} {W:World} {u v l:Value} {y z:V2} {ps:List V2} (h1:(fPV m y).p u W) (h2:(fPV m z).p v W) (hl:(SF.row 6 (pvs m ps)).p l W) (hm:m≤60) (hm0:0<m) (hn:ps.length≤1000000) (hT:Tab W):Calls Tryz.prog 64 #[u,v,l] W (Ret W (fB (partsB y z ps)).toSF):=by
 have hy:=pv_qb hm0 h1
 have hz:=pv_qb hm0 h2
 refine run_st [(fPV m y).toSF,(fPV m z).toSF,SF.row 6 (pvs m ps)] Tryz.func64 rfl (by kernel_rfl) ⟨h1,h2,hl,trivial⟩ fun a s=> ?_
 refine wpIn_seq ?_
 refine region_go 0 [] hmix s (by kernel_rfl)
  obs_nil fun a w1 s=> ?_
 refine t_box (CU.agg (fPV (m) (y))) rfl s (by kernel_rfl) (fun v W h=>pt_box h) fun b3 a w s=> ?_
 refine t_box (CU.agg (fPV (m) (z))) rfl s (by kernel_rfl) (fun v W h=>pt_box h) fun b4 a w s=> ?_
 refine t_set (UF.eq (.bool false)) rfl s (by kernel_rfl) iiz fun a w s=> ?_
 refine tail_end rfl ?_
 refine wpIn_seq ?_
 refine region_go 3 ((8, .s ((fPV (m) (z)).toSF))::(9, .s ((fPV (m) (y)).toSF))::(10, .u (fPN ((z.1 - y.1,z.2 - y.2)))):: []) hmix s (by kernel_rfl)
  (oc (ok_ldW (f:=fPV (m) (z)) 6 (by kernel_rfl) (hz:=pt_len _ _))<|oc (ok_ldW (f:=fPV (m) (y)) 6 (by kernel_rfl) (hz:=pt_len _ _))<|oc (ok_call2 wide_wide en_102 (fun u0 u1 W hb (h0:(fPV (m) (z)).p u0 W) (h1:(fPV (m) (y)).p u1 W)=>vSub_p (p:=z) (q:=y) h0 h1 (by omega) hm0 (hT.below (s.up hb))))<|obs_nil) fun a w2 s=> ?_
 refine t_alloc (CU.len 6) (cs:= [.bool false, .slice none 0 0, .slice none 0 0, .bool false, .slice none 0 0, .slice none 0 0]) (by kernel_rfl) rfl s (by kernel_rfl) (fun W=>rfl) rfl fun b7 a w s=> ?_
 refine t_store (CU.agg (fPN ((z.1 - y.1,z.2 - y.2)))) ((fPN ((z.1 - y.1,z.2 - y.2))).toSF) rfl s (by kernel_rfl) rfl rfl rfl iiz iiz (pt_store) fun a w s=> ?_
 refine tail_end rfl ?_
 refine wpIn_seq ?_
 replace s:=s.drop [6]
 refine region_go 5 ((11, .s (SF.row 6 (pvs (m) (ps))))::(12, .s (SF.fn Tryz.prog (TB m (fun p=>decide (0<crs y z p)))))::(13, .s ((UF.eq (.bool (ps.any (fun p=>decide (0<crs y z p))))).toSF))::(14, .s ((UF.eq (.bool (!(ps.any (fun p=>decide (0<crs y z p)))))).toSF))::(6, .u (UF.eq (.bool (!(ps.any (fun p=>decide (0<crs y z p))))))):: []) hmix s (by kernel_rfl)
  (oc ok_move<|oc (ok_mkfn2 (fun u v W hb (h:(SF.pb b7 (CU.agg (fPN (z.1 - y.1,z.2 - y.2))).cf).p u W) (h':(SF.pb b3 (CU.agg (fPV (m) (y))).cf).p v W)=>fn_one (enters_of Tryz.func107 (by kernel_rfl) rfl) (fun W' hb' args R ⟨u1,p,e,h1,hR⟩=>by subst e hR;simpa using parts1a_p h1 ((SF.ptr _).st _ _ _ h.2 hb') ((SF.ptr _).st _ _ _ h'.2 hb') (pv_qb hm0 h1) hy hz hm hm0 ((hT.below (s.up hb)).below hb'))))<|oc (ok_call2 wide_wide en_81 (fun u0 u1 W hb (h0:(SF.row 6 (pvs (m) (ps))).p u0 W) (h1:(SF.fn Tryz.prog (TB m (fun p=>decide (0<crs y z p)))).p u1 W)=>cf_p h0 h1 hn))<|oc (ok_not (ps.any (fun p=>decide (0<crs y z p))) iiz (fun _=>rfl))<|oc (ok_assign)<|obs_nil) fun a w3 s=> ?_
 refine tail_end rfl ?_
 refine wpIn_ret ?_
 exact StS.res1 s (t:=6) rfl (fun v W h=>by rw [show partsB y z ps= !(ps.any (fun p=>decide (0<crs y z p))) from parts_any y z ps];exact h)
theorem pns_shift {ps:List V2} {t:V2} {k:Nat} (h:k<ps.length):pns ((shiftV ps t).take (k+1))=pns ((shiftV ps t).take k)++ [CU.agg (fPN (addV (at_ ps k) t))]:=by
 rw [pns_snoc (by rw [shift_len];exact h),at_shift h]
theorem ashift_p {m:Nat} {W:World} {l v:Value} {t:V2} {ps:List V2} (hl:(SF.row 6 (pvs m ps)).p l W) (h1:(fPV m t).p v W) (hm:m≤60) (hm0:0<m) (hps:ps.length≤1000000) (hT:Tab W):Calls Tryz.prog 17 #[l,v] W (Ret W (SF.newRow W 31 6 (pns (shiftV ps t)))):=by
 refine run_st [(UF.eq l).toSF,(fPV m t).toSF] Tryz.func17 rfl (by kernel_rfl) ⟨rfl,h1,trivial⟩ fun a s=> ?_
 replace s:=s.renew [(0, .u (UF.eq l)),(1, .u (fPV (m) (t)))] (fmz ⟨.inr ⟨_,rfl, .head _⟩,fmz ⟨.inr ⟨_,rfl,mz1⟩,fnz⟩⟩)
 refine wpIn_seq ?_
 refine region_go 0 [] hmix s (by kernel_rfl)
  obs_nil fun a w1 s=> ?_
 refine t_box (CU.agg (fPV (m) (t))) rfl s (by kernel_rfl) (fun v W h=>pt_box h) fun b3 a w s=> ?_
 refine t_set (UF.eq (.slice none 0 0)) rfl s (by kernel_rfl) iiz fun a w s=> ?_
 refine tail_end rfl ?_
 refine wpIn_seq ?_
 refine wpIn_seq ?_
 refine region_go 3 ((7, .u (UF.eq l))::(8, .u (UF.eq (.int .i64 ((((pvs (m) (ps)).length:Nat):Int)))))::(9, .u (UF.eq (.int .i64 (0)))):: []) hmix s (by kernel_rfl)
  (oc ok_move<|oc (ok_lenB (z:=6) (Cs:=pvs (m) (ps)) (by kernel_rfl) (fun v W hb h=>(by rw [show _=l from h];exact (SF.row 6 (pvs (m) (ps))).st _ _ _ hl (s.up hb))) (fun _=>rfl))<|oc ok_move<|obs_nil) fun a w2 s=> ?_
 refine tail_end rfl ?_
 refine wpIn_block ?_
 replace s:StS _ _ _ [⟨3,31,CU.agg (fPV (m) (t)),b3,true⟩] _ _ _ _:=s.freeze
 obtain ⟨base,hbase⟩: ∃b,b=w2.heap.size:=⟨_,rfl⟩
 have hb3:b3<base:=by rw [hbase];exact s.old _ (.head _)
 have hb0:W.heap.size≤base:=by rw [hbase];exact s.gr.size
 have hsz0:base≤w2.heap.size:=by rw [hbase];exact Nat.le_refl _
 refine st_rows (fun (p:Nat×Value) w=>p.1≤ps.length∧base≤w.heap.size∧RowN w base 31 6 p.2 (pns ((shiftV ps t).take p.1))) (fun p=> [(0, .u (UF.eq l)),(7, .u (UF.eq l)),(8, .u (UF.eq (.int .i64 ((((pvs (m) (ps)).length:Nat):Int))))),(4, .u (UF.eq (p.2))),(9, .u (UF.eq (.int .i64 (((p.1:Nat):Int)))))]) (fun p=>ps.length - p.1) ((0, .slice none 0 0)) (⟨Nat.zero_le _,hsz0,RowN.nil _ _ _ _⟩) (s.keepK _ (fmz ⟨mz4,fmz ⟨.head _,fmz ⟨mz1,fmz ⟨mz3,fmz ⟨mz2,fnz⟩⟩⟩⟩⟩)) fun p a w hI s=> ?_
 have s0:=s
 have hlw:=(SF.row 6 (pvs m ps)).st _ _ _ hl s0.below
 have hT0:=hT
 have hT:=hT0.below s0.below
 replace s:=s.reb rfl [(0, .u (UF.eq l)),(7, .u (UF.eq l)),(8, .u (UF.eq (.int .i64 ((((pvs (m) (ps)).length:Nat):Int))))),(4, .u (UF.eq (p.2))),(9, .u (UF.eq (.int .i64 (((p.1:Nat):Int)))))] (fmz ⟨.inl (.head _),fmz ⟨.inl mz1,fmz ⟨.inl mz2,fmz ⟨.inl mz3,fmz ⟨.inl mz4,fnz⟩⟩⟩⟩⟩)
 refine wpIn_seq ?_
 refine region_go 1 ((10, .u (UF.eq (.bool (decide (((p.1:Nat):Int)<(((pvs (m) (ps)).length:Nat):Int)))))):: []) hmix s (by kernel_rfl)
  (oc (ok_cmpI .i64 (((p.1:Nat):Int)) ((((pvs (m) (ps)).length:Nat):Int)) (decide (((p.1:Nat):Int)<(((pvs (m) (ps)).length:Nat):Int))) iiz iiz rfl rfl)<|obs_nil) fun a w3 s=> ?_
 refine tail_end rfl ?_
 refine wpIn_seq ?_
 refine StS.cond s (decide (((p.1:Nat):Int)<(((pvs (m) (ps)).length:Nat):Int))) iiz (fun e=> ?_) (fun e=> ?_)
 ·have hk:p.1<ps.length:=by have:=of_decide_eq_true e;simp at this;omega
  refine wpIn_skip ?_
  refine wpIn_seq ?_
  refine wpIn_block ?_
  refine wpIn_seq ?_
  refine region_go 2 ((11, .s (SF.ptr (CU.agg (fPV (m) ((at_ ps p.1)))).cf))::(12, .u (fPV (m) ((at_ ps p.1)))):: []) hmix s (by kernel_rfl)
   (oc (ok_indexB (z:=6) (Cs:=pvs (m) (ps)) (i:=p.1) (C:=CU.agg (fPV (m) ((at_ ps p.1)))) (by kernel_rfl) (pvs_get hk) (fun v W hb h=>(by rw [show _=l from h];exact (SF.row 6 (pvs (m) (ps))).st _ _ _ hlw (s.up hb))) iiz)<|oc (ok_ldW (f:=fPV (m) ((at_ ps p.1))) 6 (by kernel_rfl) (hz:=pt_len _ _))<|obs_nil) fun a w4 s=> ?_
  refine t_alloc (CU.len 6) (cs:= [.bool false, .slice none 0 0, .slice none 0 0, .bool false, .slice none 0 0, .slice none 0 0]) (by kernel_rfl) rfl s (by kernel_rfl) (fun W=>rfl) rfl fun b6 a w s=> ?_
  refine t_store (CU.agg (fPV (m) ((at_ ps p.1)))) ((fPV (m) ((at_ ps p.1))).toSF) rfl s (by kernel_rfl) rfl rfl rfl iiz iiz (pt_store) fun a w s=> ?_
  refine tail_end rfl ?_
  refine region_goSN 5 ((13, .u (UF.eq (p.2)))::(14, .s ((fPV (m) ((at_ ps p.1))).toSF))::(15, .s ((fPV (m) (t)).toSF))::(16, .s ((fPN (((at_ ps p.1).1+t.1,(at_ ps p.1).2+t.2))).toSF))::(17, .s (SF.row 6 [CU.agg (fPN (((at_ ps p.1).1+t.1,(at_ ps p.1).2+t.2)))])):: []) s (by kernel_rfl)
   (oc ok_move<|oc (ok_ldW (f:=fPV (m) ((at_ ps p.1))) 6 (by kernel_rfl) (hz:=pt_len _ _))<|oc (ok_ldW (f:=fPV (m) (t)) 6 (by kernel_rfl) (hz:=pt_len _ _))<|oc (ok_call2 wide_wide en_65 (fun u0 u1 W hb (h0:(fPV (m) ((at_ ps p.1))).p u0 W) (h1:(fPV (m) (t)).p u1 W)=>vAdd_p (p:=at_ ps p.1) (q:=t) h0 h1 (by omega) hm0 (hT.below (s.up hb))))<|oc (ok_slice1 (fun u W (hu:(fPN (((at_ ps p.1).1+t.1,(at_ ps p.1).2+t.2))).p u W)=>sl_pt1 hu))<|obs_nil) fun a w5 s hr=> ?_
  refine t_app ([CU.agg (fPN (((at_ ps p.1).1+t.1,(at_ ps p.1).2+t.2)))]) s0 (s.keepK [(13, .u (UF.eq (p.2))),(12, .u (fPV (m) ((at_ ps p.1)))),(10, .u (UF.eq (.bool (decide (((p.1:Nat):Int)<(((pvs (m) (ps)).length:Nat):Int)))))),(0, .u (UF.eq l)),(7, .u (UF.eq l)),(8, .u (UF.eq (.int .i64 ((((pvs (m) (ps)).length:Nat):Int))))),(4, .u (UF.eq (p.2))),(9, .u (UF.eq (.int .i64 (((p.1:Nat):Int)))))] (fmz ⟨.head _,fmz ⟨mz1,fmz ⟨mz2,fmz ⟨mz3,fmz ⟨mz4,fmz ⟨mz5,fmz ⟨mz6,fmz ⟨mz7,fnz⟩⟩⟩⟩⟩⟩⟩⟩)) hb0 hI.2 rfl (by kernel_rfl) (by kernel_rfl) (by kernel_rfl) (s.fct (.tmp 13)) (hr (_,_) mz4) (one_ok _ _) (by simp [shift_len];omega) (fun q hq hr=>by rcases List.mem_cons.1 hq with rfl|hq;cases hr;rcases List.mem_cons.1 hq with rfl|hq;exact hb3;cases hq) fun v' a w hI' s=> ?_
  have s1:=s
  replace s:StS _ _ _ [⟨6,31,CU.agg (fPV (m) ((at_ ps p.1))),b6,true⟩,⟨3,31,CU.agg (fPV (m) (t)),b3,true⟩] _ _ _ _:=s.freeze
  replace s:=s.reb rfl [(18, .u (UF.eq (v'))),(13, .u (UF.eq (p.2))),(12, .u (fPV (m) ((at_ ps p.1)))),(10, .u (UF.eq (.bool (decide (((p.1:Nat):Int)<(((pvs (m) (ps)).length:Nat):Int)))))),(0, .u (UF.eq l)),(7, .u (UF.eq l)),(8, .u (UF.eq (.int .i64 ((((pvs (m) (ps)).length:Nat):Int))))),(4, .u (UF.eq (p.2))),(9, .u (UF.eq (.int .i64 (((p.1:Nat):Int)))))] (fmz ⟨.inl (.head _),fmz ⟨.inl mz1,fmz ⟨.inl mz2,fmz ⟨.inl mz3,fmz ⟨.inl mz4,fmz ⟨.inl mz5,fmz ⟨.inl mz6,fmz ⟨.inl mz7,fmz ⟨.inl mz8,fnz⟩⟩⟩⟩⟩⟩⟩⟩⟩)
  replace s:=s.drop [4]
  refine t_set (UF.eq (v')) rfl s (by kernel_rfl) iiz fun a w s=> ?_
  refine tail_end rfl ?_
  refine region_goS 1 ((19, .u (UF.eq (.int .i64 (((p.1+1:Nat):Int))))):: []) s (by kernel_rfl)
   (oc (ok_addI .i64 (((p.1:Nat):Int)) (1) (((p.1+1:Nat):Int)) iiz iiz (wrap64 _ _ (by omega) (by omega)))<|obs_nil) fun a w6 s=> ?_
  replace s:=s.drop [9]
  refine t_gd (UF.eq (.int .i64 (((p.1+1:Nat):Int)))) rfl s (by kernel_rfl) (ok_move) (by kernel_rfl) fun a w s=> ?_
  refine tail_end rfl ?_
  replace s:=s.popB
  have hbw:=s.below
  replace s:=s1.back (s.keepK [(9, .u (UF.eq (.int .i64 (((p.1+1:Nat):Int))))),(19, .u (UF.eq (.int .i64 (((p.1+1:Nat):Int))))),(4, .u (UF.eq (v'))),(18, .u (UF.eq (v'))),(13, .u (UF.eq (p.2))),(12, .u (fPV (m) ((at_ ps p.1)))),(10, .u (UF.eq (.bool (decide (((p.1:Nat):Int)<(((pvs (m) (ps)).length:Nat):Int)))))),(0, .u (UF.eq l)),(7, .u (UF.eq l)),(8, .u (UF.eq (.int .i64 ((((pvs (m) (ps)).length:Nat):Int)))))] (fmz ⟨.head _,fmz ⟨mz1,fmz ⟨mz2,fmz ⟨mz3,fmz ⟨mz4,fmz ⟨mz5,fmz ⟨mz6,fmz ⟨mz7,fmz ⟨mz8,fmz ⟨mz9,fnz⟩⟩⟩⟩⟩⟩⟩⟩⟩⟩)) rfl
  exact ⟨(p.1+1,v'),(by show ps.length - (p.1+1)<ps.length - p.1;omega),⟨hk,Nat.le_trans hI'.1 hbw.size,by rw [pns_shift hk];exact hI'.2.below hbw⟩,s.keepK _ (fmz ⟨mz7,fmz ⟨mz8,fmz ⟨mz9,fmz ⟨mz2,fmz ⟨.head _,fnz⟩⟩⟩⟩⟩)⟩
 ·have hk:p.1=ps.length:=by have h7:=of_decide_eq_false e;have h8:=hI.1;simp at h7;omega
  refine wpIn_exit ?_
  refine wpIn_seq ?_
  refine region_goS 1 ((20, .u (UF.eq (p.2))):: []) s (by kernel_rfl)
   (oc ok_move<|obs_nil) fun a w7 s=> ?_
  replace s:=s.drop [4]
  refine t_set (UF.eq (p.2)) rfl s (by kernel_rfl) iiz fun a w s=> ?_
  refine tail_end rfl ?_
  refine wpIn_ret ?_
  exact StS.resN s s0.below rfl (by rw [s.val (.head _)];have:=(hI.2.2.below s.below).mono hb0;rw [hk,List.take_of_length_le (by rw [shift_len];exact Nat.le_refl _)] at this;exact this)
end Go.Proofs.Wd

namespace Go.Proofs.Wd
set_option maxRecDepth 100000
set_option maxHeartbeats 1000000
open Go.RowKit Lb
theorem itr_below {N:Nat} {w w1:World} (hb:Below w.heap.size w w1) (hN:N≤w.heap.size):Itr N w w1:=
 ⟨hb.os,hb.tape,hb.output,hb.size,fun k hk=>hb.block k (Nat.lt_of_lt_of_le hk hN),fun k o ho _=>(hb.block k (Array.getElem?_eq_some_iff.1 ho).1).trans ho,keepU_below hb⟩
theorem rnd_below {N:Nat} {C:Nat→Prop} {w0 w w1:World} (hb:Below w0.heap.size w0 w) (hr:Rnd N C w w1) (hN:w0.heap.size≤N) (hC: ∀k,C k→w0.heap.size≤k):Below w0.heap.size w0 w1:=
 ⟨hr.os.trans hb.os,hr.tape.trans hb.tape,hr.output.trans hb.output,Nat.le_trans hb.size hr.size,fun k hk=>(hr.low k (Nat.lt_of_lt_of_le hk hN) (fun h=>by have:=hC k h;omega)).trans (hb.block k hk)⟩
theorem row_plain {z:Nat} {Cs:List CU} {v:Value} {W:World} (h:(SF.row z Cs).p v W):v.cells=#[v]∧noLimb v=true:=by
 obtain ⟨A,c,rfl,_⟩:=h
 exact ⟨rfl,rfl⟩
theorem aedges_p {W:World} {l:Value} (hlc:l.cells=#[l]∧noLimb l=true):Calls Tryz.prog 63 #[l] W (Ret W (fClos W 106 22 (CU.is [l]))):=by
 refine run_st [(UF.eq l).toSF] Tryz.func63 rfl (by kernel_rfl) ⟨rfl,trivial⟩ fun a s=> ?_
 refine wpIn_seq ?_
 refine region_go 0 [] hmix s (by kernel_rfl)
  obs_nil fun a w1 s=> ?_
 refine t_box (CU.is [l]) rfl s (by kernel_rfl) (fun v W h=>is_box h hlc.1 hlc.2) fun b1 a w s=> ?_
 refine t_set (UF.eq (.nilFunc)) rfl s (by kernel_rfl) iiz fun a w s=> ?_
 refine tail_end rfl ?_
 refine wpIn_seq ?_
 replace s:=s.drop [2]
 refine region_go 2 ((3, .s ((UF.eq ((.func (.func 106) #[] #[.pointer (some ⟨b1,0,none⟩)]))).toSF))::(2, .u (UF.eq ((.func (.func 106) #[] #[.pointer (some ⟨b1,0,none⟩)])))):: []) hmix s (by kernel_rfl)
  (oc (ok_mkfn1 (fun u W hb (h:(SF.pb b1 (CU.is [l]).cf).p u W)=>by rw [h.1];rfl))<|oc (ok_assign)<|obs_nil) fun a w2 s=> ?_
 refine tail_end rfl ?_
 refine wpIn_ret ?_
 obtain ⟨cs,e1,e2,e3⟩:=s.boxAt (c:=1) rfl
 exact StS.resN s (Below.refl _ _) rfl ⟨b1,cs,s.val (.head _),s.inB_new ⟨_, .head _,rfl,rfl⟩,e1,e2,e3⟩
theorem bls_below {S:Nat→Prop} {w0 w w1:World} (hb:Below w0.heap.size w0 w) (hr:BlS S w w1) (hC: ∀k,S k→w0.heap.size≤k):Below w0.heap.size w0 w1:=
 ⟨hr.os.trans hb.os,hr.tape.trans hb.tape,hr.output.trans hb.output,Nat.le_trans hb.size hr.size,fun k hk=>(hr.block k (Nat.lt_of_lt_of_le hk hb.size) (fun h=>by have:=hC k h;omega)).trans (hb.block k hk)⟩
theorem edges_it {w0 w_:World} {m b:Nat} {l:Value} {ps:List V2} {C:Nat→Prop} (hh:w_.heap[b]?=some (.cells #[l] 22 (0,0))) (hl:(SF.row 6 (pvs m ps)).p l w0) (hb0:Below w0.heap.size w0 w_) (hCl: ∀k,C k→k<w_.heap.size) (hC0: ∀k,C k→w0.heap.size≤k) (hCb: ¬C b) (hn:ps.length≤1000000):
  ItC Tryz.prog 106 #[.pointer (some ⟨b,0,none⟩)] (fun k=> [fPV m (at_ ps k),fPV m (at_ ps ((k+1) % ps.length))]) ps.length False C w_:=by
 intro l_ J Z W hwW hbW hkW hJs hZs hend hround hJ0
 have hlc:=row_plain hl
 have hw0:w0.heap.size≤w_.heap.size:=hb0.size
 have hbW0:Below w0.heap.size w0 W:=hb0.trans (hbW.mono hb0.size)
 have hlW:=(SF.row 6 (pvs m ps)).st _ _ _ hl hbW0
 have hhW:W.heap[b]?=some (.cells #[l] 22 (0,0)):=(hbW.block b (Array.getElem?_eq_some_iff.1 hh).1).trans hh
 refine it_calls Tryz.func106 rfl ?_
 have s:=st_begin (w:=W) (fn:=Tryz.f106) (args:=#[.func (.yield l_) #[] #[]]++#[.pointer (some ⟨b,0,none⟩)]) noS [(0,UF.eq (.func (.yield l_) #[] #[]))] [⟨1,22,CU.is [l],b,true⟩] (by kernel_rfl) (fun q hq=>by obtain rfl:=List.mem_singleton.1 hq;exact ⟨by simp,rfl⟩) ⟨⟨[l],rfl, .inl rfl,hhW,rfl,by simp [hlc.2],fun y hy=>by cases hy⟩,trivial⟩ (fun x hx=>by obtain rfl:=List.mem_singleton.1 hx;show 1<2;decide)
 generalize ({ tmps:=#[.func (.yield l_) #[] #[]]++#[.pointer (some ⟨b,0,none⟩)]++Array.replicate (Tryz.f106.ntmps - (#[.func (.yield l_) #[] #[]]++#[.pointer (some ⟨b,0,none⟩)]:Array Value).size) undef,defers:= [] }:Act)=a at s ⊢
 refine wpIn_seq ?_
 refine region_go 3 ((5, .u (UF.eq l))::(6, .u (UF.eq (.int .i64 ((((pvs (m) (ps)).length:Nat):Int)))))::(7, .u (UF.eq (.int .i64 (0)))):: []) hmix s (by kernel_rfl)
  (oc (ok_load1 (C:=(CU.is [l]).cf) (by kernel_rfl) (fun _ _ h=>h.2) (is_get))<|oc (ok_lenB (z:=6) (Cs:=pvs (m) (ps)) (by kernel_rfl) (fun v W hb h=>(by rw [show _=l from h];exact (SF.row 6 (pvs (m) (ps))).st _ _ _ hlW (s.up hb))) (fun _=>rfl))<|oc ok_move<|obs_nil) fun a w1 s=> ?_
 refine tail_end rfl ?_
 refine wpIn_block ?_
 have hJw:J 0 w1:=hJs 0 _ _ hJ0 (itr_below s.below (Nat.le_refl _))
 have hBw0:Below w0.heap.size w0 w1:=hbW0.trans (s.below.mono hbW0.size)
 have hW0:=s.gr.size
 replace s:=(s.keepK [(0, .u (UF.eq (.func (.yield l_) #[] #[]))),(5, .u (UF.eq l)),(6, .u (UF.eq (.int .i64 ((((pvs (m) (ps)).length:Nat):Int))))),(7, .u (UF.eq (.int .i64 (((0:Nat):Int)))))] (fmz ⟨mz3,fmz ⟨.head _,fmz ⟨mz1,fmz ⟨mz2,fnz⟩⟩⟩⟩)).self (allU_spec (by kernel_rfl))
 refine loop_while (fun k a w=>k≤ps.length∧J k w∧Below w0.heap.size w0 w∧W.heap.size≤w.heap.size∧StS (inB [⟨1,22,CU.is [l],b,true⟩]) w [(0, .u (UF.eq (.func (.yield l_) #[] #[]))),(5, .u (UF.eq l)),(6, .u (UF.eq (.int .i64 ((((pvs (m) (ps)).length:Nat):Int))))),(7, .u (UF.eq (.int .i64 (((k:Nat):Int)))))] [⟨1,22,CU.is [l],b,true⟩] Tryz.f106.ntmps [] a w) (fun k=>ps.length - k) 0 ⟨Nat.zero_le _,hJw,hBw0,hW0,s⟩ fun k a w ⟨hk,hJ,hBw,hWs,s⟩=> ?_
 have s0:=s
 replace s:=s.toSt (fun q ⟨x,hx,_,hr⟩=>by obtain rfl:=List.mem_singleton.1 hx;cases hr) rfl
 have hlw:=(SF.row 6 (pvs m ps)).st _ _ _ hl hBw
 refine wpIn_seq ?_
 refine region_go 1 ((8, .u (UF.eq (.bool (decide (((k:Nat):Int)<(((pvs (m) (ps)).length:Nat):Int)))))):: []) hmix s (by kernel_rfl)
  (oc (ok_cmpI .i64 (((k:Nat):Int)) ((((pvs (m) (ps)).length:Nat):Int)) (decide (((k:Nat):Int)<(((pvs (m) (ps)).length:Nat):Int))) iiz iiz rfl rfl)<|obs_nil) fun a w2 s=> ?_
 refine tail_end rfl ?_
 refine wpIn_seq ?_
 refine StS.cond s (decide (((k:Nat):Int)<(((pvs (m) (ps)).length:Nat):Int))) iiz (fun e=> ?_) (fun e=> ?_)
 ·have hkn:k<ps.length:=by have:=of_decide_eq_true e;simp at this;omega
  have hkm:(k+1) % ps.length<ps.length:=Nat.mod_lt _ (by omega)
  refine wpIn_skip ?_
  refine wpIn_seq ?_
  refine wpIn_block ?_
  refine wpIn_seq ?_
  refine region_go 3 ((9, .u (UF.eq (.int .i64 (((k:Nat):Int)))))::(10, .s (SF.ptr (CU.agg (fPV (m) ((at_ ps k)))).cf))::(11, .u (fPV (m) ((at_ ps k)))):: []) hmix s (by kernel_rfl)
   (oc ok_move<|oc (ok_indexB (z:=6) (Cs:=pvs (m) (ps)) (i:=k) (C:=CU.agg (fPV (m) ((at_ ps k)))) (by kernel_rfl) (pvs_get hkn) (fun v W hb h=>(by rw [show _=l from h];exact (SF.row 6 (pvs (m) (ps))).st _ _ _ hlw (s.up hb))) iiz)<|oc (ok_ldW (f:=fPV (m) ((at_ ps k))) 6 (by kernel_rfl) (hz:=pt_len _ _))<|obs_nil) fun a w3 s=> ?_
  refine t_alloc (CU.len 6) (cs:= [.bool false, .slice none 0 0, .slice none 0 0, .bool false, .slice none 0 0, .slice none 0 0]) (by kernel_rfl) rfl s (by kernel_rfl) (fun W=>rfl) rfl fun b4 a w s=> ?_
  refine t_set (UF.eq (.int .i64 (((k:Nat):Int)))) rfl s (by kernel_rfl) iiz fun a w s=> ?_
  refine t_store (CU.agg (fPV (m) ((at_ ps k)))) ((fPV (m) ((at_ ps k))).toSF) rfl s (by kernel_rfl) rfl rfl rfl iiz iiz (pt_store) fun a w s=> ?_
  refine tail_end rfl ?_
  refine wpIn_seq ?_
  refine region_goP [0,3] 10 ((12, .u (UF.eq (.func (.yield l_) #[] #[])))::(13, .u (fPV (m) ((at_ ps k))))::(14, .s ((UF.eq l).toSF))::(15, .s ((UF.eq (.int .i64 (((k:Nat):Int)))).toSF))::(16, .s ((UF.eq (.int .i64 (((k+1:Nat):Int)))).toSF))::(17, .s ((UF.eq l).toSF))::(18, .s ((UF.eq (.int .i64 ((((pvs (m) (ps)).length:Nat):Int)))).toSF))::(19, .s ((UF.eq (.int .i64 (((((k+1) % ps.length:Nat)):Int)))).toSF))::(20, .s (SF.ptr (CU.agg (fPV (m) ((at_ ps ((k+1) % ps.length))))).cf))::(21, .u (fPV (m) ((at_ ps ((k+1) % ps.length))))):: []) hmix s (by kernel_rfl)
   (oc ok_move<|oc (ok_ldW (f:=fPV (m) ((at_ ps k))) 6 (by kernel_rfl) (hz:=pt_len _ _))<|oc (ok_load1 (C:=(CU.is [l]).cf) (by kernel_rfl) (fun _ _ h=>h.2) (is_get))<|oc ok_move<|oc (ok_addI .i64 (((k:Nat):Int)) (1) (((k+1:Nat):Int)) iiz iiz (wrap64 _ _ (by omega) (by omega)))<|oc (ok_load1 (C:=(CU.is [l]).cf) (by kernel_rfl) (fun _ _ h=>h.2) (is_get))<|oc (ok_lenB (z:=6) (Cs:=pvs (m) (ps)) (by kernel_rfl) (fun v W hb h=>(by rw [show _=l from h];exact (SF.row 6 (pvs (m) (ps))).st _ _ _ hlw (s.up hb))) (fun _=>rfl))<|oc (ok_remI .i64 (((k+1:Nat):Int)) ((((pvs (m) (ps)).length:Nat):Int)) ((((k+1) % ps.length:Nat)):Int) iiz iiz (by simp only [List.length_map];omega) (by simp only [List.length_map];rw [Int.tmod_eq_emod_of_nonneg (by omega)];rfl))<|oc (ok_indexB (z:=6) (Cs:=pvs (m) (ps)) (i:=((k+1) % ps.length)) (C:=CU.agg (fPV (m) ((at_ ps ((k+1) % ps.length))))) (by kernel_rfl) (pvs_get hkm) (fun v W hb h=>(by rw [show _=l from h];exact (SF.row 6 (pvs (m) (ps))).st _ _ _ hlw (s.up hb))) iiz)<|oc (ok_ldW (f:=fPV (m) ((at_ ps ((k+1) % ps.length)))) 6 (by kernel_rfl) (hz:=pt_len _ _))<|obs_nil) fun Q' hQ a w4 s=> ?_
  have hJ1:J k w4:=hJs _ _ _ hJ (itr_below s.below hWs)
  have hB1:Below w0.heap.size w0 w4:=hBw.trans (s.below.mono hBw.size)
  have hb4:=s.inB_new (q:=b4) ⟨_, .head _,rfl,rfl⟩
  have hws:=s.gr.size
  have hcx: ∀x,x∈([⟨4,31,CU.agg (fPV (m) (at_ ps k)),b4,false⟩,⟨1,22,CU.is [l],b,true⟩]:List Bx)→ ¬C x.b:=fun x hx hc=>by
   rcases List.mem_cons.1 hx with rfl|hx
   ·have:=hCl _ hc;show False;have h9:b4<w_.heap.size:=this;omega
   ·obtain rfl:=List.mem_singleton.1 hx;exact hCb hc
  refine t_yield rfl s iiz (by kernel_rfl) (allU_spec (by kernel_rfl)) hcx (hround k _ _ hkn hJ1 ⟨by simp,fun j f hj=> ?_⟩) fun a w bv hr hbv s=> ?_
  ·match j,hj with
   |0,hj=>obtain rfl:=Option.some.inj hj;rw [ev2_0];exact s.at.sl 13
   |1,hj=>obtain rfl:=Option.some.inj hj;rw [ev2_1];exact s.at.sl 21
  have hB2:=rnd_below hB1 hr hw0 hC0
  have sy:=s
  refine t_gd (UF.eq (.bool (!bv))) rfl s (by kernel_rfl) (ok_not (bv) iiz (fun _=>rfl)) (by kernel_rfl) fun a w s=> ?_
  refine tail_end rfl (hQ _ _ ?_)
  have hsz2:=hr.size
  have hitr:=sy.itr_to (N:=W.heap.size) s.gr (fun x hx hr1=>by rcases List.mem_cons.1 hx with rfl|hx;show W.heap.size≤b4;omega;obtain rfl:=List.mem_singleton.1 hx;cases hr1) (by omega)
  refine StS.cond s (!bv) iiz (fun e=> ?_) (fun e=> ?_)
  ·have hz:=hZs _ _ (by rcases hbv with ⟨e2,_⟩|⟨_,hz⟩;rw [e2] at e;cases e;exact hz) hitr
   refine wpIn_ret ?_
   exact ⟨s.nd, .tuple #[],by simp [results,Tryz.results106],⟨_,rfl⟩, .inr hz⟩
  ·have hJ2:=hJs _ _ _ (by rcases hbv with ⟨_,hj⟩|⟨e2,_⟩;exact hj;rw [e2] at e;cases e) hitr
   have hB3:=(Below.refl w0.heap.size w0).trans (bls_below hB2 s.gr (fun q ⟨x,hx,e1,hr1⟩=>by rcases List.mem_cons.1 hx with rfl|hx;have e1:b4=q:=e1;omega;obtain rfl:=List.mem_singleton.1 hx;cases hr1))
   have hW3:=s.gr.size
   have sx:=s
   replace s:=s.self (allU_spec (by kernel_rfl))
   refine wpIn_skip ?_
   refine region_goS 1 ((24, .u (UF.eq (.int .i64 (((k+1:Nat):Int))))):: []) s (by kernel_rfl)
    (oc (ok_addI .i64 (((k:Nat):Int)) (1) (((k+1:Nat):Int)) iiz iiz (wrap64 _ _ (by omega) (by omega)))<|obs_nil) fun a w5 s=> ?_
   replace s:=s.drop [7]
   refine t_gd (UF.eq (.int .i64 (((k+1:Nat):Int)))) rfl s (by kernel_rfl) (ok_move) (by kernel_rfl) fun a w s=> ?_
   refine tail_end rfl ?_
   have hsz4:=s.gr.size
   have hit2:=sx.itr_to (N:=W.heap.size) s.gr (fun x hx hr1=>by rcases List.mem_cons.1 hx with rfl|hx;show W.heap.size≤b4;omega;obtain rfl:=List.mem_singleton.1 hx;cases hr1) (by omega)
   have hB4:=bls_below hB3 s.gr (fun q ⟨x,hx,e1,hr1⟩=>by rcases List.mem_cons.1 hx with rfl|hx;have e1:b4=q:=e1;omega;obtain rfl:=List.mem_singleton.1 hx;cases hr1)
   exact ⟨k+1,by show ps.length - (k+1)<ps.length - k;omega,hkn,hJs _ _ _ hJ2 hit2,hB4,by omega,((s.keepK _ (fmz ⟨mz11,fmz ⟨mz12,fmz ⟨mz13,fmz ⟨.head _,fnz⟩⟩⟩⟩)).popB).self (allU_spec (by kernel_rfl))⟩
 ·have hkn:k=ps.length:=by have h7:=of_decide_eq_false e;simp at h7;omega
  refine wpIn_exit ?_
  exact ⟨s.nd, .tuple #[],by simp [results,Tryz.results106],⟨_,rfl⟩, .inl (by rw [←hkn];exact hJs _ _ _ hJ (itr_below s.below hWs))⟩
end Go.Proofs.Wd

namespace Go.Proofs.Wd
set_option maxRecDepth 100000
set_option maxHeartbeats 1000000
open Go.RowKit Lb
def CU.isP (v:Value) (P:Prop):CU:=⟨fun cs _=>cs= [v]∧P,fun _ _ _ h _=>h⟩
theorem isP_get {u:Value} {P:Prop}: ∀cs W,(CU.isP u P).p cs W→ ∃x,cs[0]?=some x∧(UF.eq u).p x W:=fun cs W h=>by
 obtain ⟨rfl,_⟩:=h
 exact ⟨u,rfl,rfl⟩
theorem sp_bool {b:Bool} {C:CU} {Q:Prop} (hC: ∀cs W,C.p cs W→cs.length=1∧Q) (v:Value) (W:World) (h:(UF.eq (.bool b)).p v W):v.cells.size=1∧(∀u,u∈v.cells.toList→u.oneCell'=true)∧v.cells.toList.all noLimb=true∧ ∀cs,C.p cs W→0+1≤cs.length∧(CU.isP (.bool b) Q).p (splice cs 0 v.cells.toList) W:=by
 obtain rfl:v=_:=h
 refine ⟨rfl,fun u hu=>by simp [Value.cells] at hu;rw [hu];rfl,rfl,fun cs hc=> ?_⟩
 obtain ⟨hc',hq⟩:=hC cs W hc
 obtain ⟨c,rfl⟩:=List.length_eq_one_iff.1 hc'
 exact ⟨by simp,rfl,hq⟩
theorem agg_len {vs:List Value} {k:Nat} (h:vs.length=k): ∀cs:List Value, ∀W,(UF.eq (.agg vs.toArray)).p (.agg cs.toArray) W→cs.length=k:=fun cs W e=>by
 have:=congrArg Array.toList (agg_inj e)
 simp at this
 rw [this,h]
theorem agg_store {vs:List Value} {k:Nat} (h:vs.length=k) (h1: ∀u,u∈vs→u.oneCell'=true) (h2:vs.all noLimb=true) (v:Value) (W:World) (e:(UF.eq (.agg vs.toArray)).p v W): ∃us:List Value,v= .agg us.toArray∧us.length=k∧(∀u,u∈us→u.oneCell'=true)∧us.all noLimb=true∧(CU.agg (UF.eq (.agg vs.toArray))).p us W:=⟨vs,e,h,h1,h2,rfl⟩
theorem agg_get {vs:List Value} {k:Nat} {u:Value} (h:vs[k]?=some u): ∀cs W,(CU.agg (UF.eq (.agg vs.toArray))).p cs W→ ∃x,cs[k]?=some x∧(UF.eq u).p x W:=fun cs W e=>by
 have:=congrArg Array.toList (agg_inj e)
 simp at this
 rw [this]
 exact ⟨u,h,rfl⟩
section
variable {F:Fence} {m:Nat} {P:Program} {w0:World} {ops:Array Oper} {G:Nat→SF} {d:Tmp} {ty:TypeId} {pos:String} {aft:Array Edge}
def arrOff (P:Program) (t:TypeId) (i:Nat):Option Nat:=match P.underlying t with
 |some (.array n e)=>match P.info? e with
  |some ie=>if i<n then some (i*ie.size) else none
  |none=>none
 |_=>none
theorem ok_idxA {x y:Operand} {t:TypeId} {C:CF} (i k:Nat) (hk:arrOff P t i=some k) (hx: ∀v W,(fct G x).p v W→(SF.ptr C).p v W) (hy: ∀v W,(fct G y).p v W→v= .int .i64 (i:Int)) (hd: ∀v W,(SF.ptr (C.at k)).p v W→(G d).p v W:=by exact fun _ _ h=>h):GdOK F m P w0 ops G ⟨some d, .indexAddr t x y,ty,pos,aft,none⟩:=
 ok_pure (fun _ e=>by cases e) (fun _ e=>by cases e) fun b W hb hh=>by
  obtain ⟨a,q,cs,e,h2,h3⟩:=hx _ _ (hh x (by simp [Op.operands]))
  have e2:=hy _ _ (hh y (by simp [Op.operands]))
  unfold arrOff at hk
  split at hk<;>try cases hk
  rename_i n el hu
  split at hk<;>try cases hk
  rename_i ie hie
  split at hk<;>try cases hk
  rename_i hlt
  refine ⟨.pointer (some ⟨a,q+i*ie.size,none⟩), ?_,hd _ _ ⟨_,_,_,rfl,⟨cs,h2,rfl⟩,h3.drop _⟩⟩
  have h9: ¬n≤i:=by omega
  simp [execOp,Instr.indexAt,run_underlying hu,e,e2,Instr.sureAddr,sizeOf,typeInfo,hie,Addr.add_lit,asIntOf,hlt,h9]
theorem ok_idxV {x y:Operand} {t:TypeId} (u v r:Value) (hx: ∀q W,(fct G x).p q W→q=u) (hy: ∀q W,(fct G y).p q W→q=v) (hr: ∀W,(Instr.index t u v).run P W= .ok r W) (hd: ∀W,(G d).p r W:=by exact fun _=>rfl):GdOK F m P w0 ops G ⟨some d, .index t x y,ty,pos,aft,none⟩:=
 ok_pure (fun _ e=>by cases e) (fun _ e=>by cases e) fun b W hb hh=>by
  have e1:=hx _ _ (hh x (by simp [Op.operands]))
  have e2:=hy _ _ (hh y (by simp [Op.operands]))
  exact ⟨r,by simp [execOp,e1,e2,hr W],hd _⟩
end
theorem bA2 (A A':Option Addr) (n n' c c':Nat):Tryz.prog.built 90 [(0, .slice A n c),(1, .slice A' n' c')]=some #[.slice A n c, .slice A' n' c']:=by kernel_rfl
theorem bA22 (A A' B B':Option Addr) (n n' c c' k k' d d':Nat):Tryz.prog.built 91 [(0, .agg #[.slice A n c, .slice A' n' c']),(1, .agg #[.slice B k d, .slice B' k' d'])]=some #[.slice A n c, .slice A' n' c', .slice B k d, .slice B' k' d']:=by kernel_rfl
theorem ix0 (A A' B B':Option Addr) (n n' c c' k k' d d':Nat) (W:World):(Instr.index 91 (.agg #[.slice A n c, .slice A' n' c', .slice B k d, .slice B' k' d']) (.int .i64 0)).run Tryz.prog W= .ok (.agg #[.slice A n c, .slice A' n' c']) W:=by kernel_rfl
theorem ix1 (A A' B B':Option Addr) (n n' c c' k k' d d':Nat) (W:World):(Instr.index 91 (.agg #[.slice A n c, .slice A' n' c', .slice B k d, .slice B' k' d']) (.int .i64 1)).run Tryz.prog W= .ok (.agg #[.slice B k d, .slice B' k' d']) W:=by kernel_rfl
def Lo (W W':World):Prop:= ∀p:Addr,p.block<W.heap.size→W'.cell? p=W.cell? p
theorem lo_below {W w:World} (h:Below W.heap.size W w):Lo W w:=fun p hp=>h.cell hp
theorem Lo.trans {W w w':World} (h:Lo W w) (h': ∀p:Addr,p.block<W.heap.size→w'.cell? p=w.cell? p):Lo W w':=fun p hp=>(h' p hp).trans (h p hp)
theorem lo_bls {S:Nat→Prop} {W w w':World} (h:Lo W w) (hb:BlS S w w') (hW:W.heap.size≤w.heap.size) (hS: ∀k,S k→W.heap.size≤k):Lo W w':=
 h.trans fun p hp=>World.cell?_of_block (hb.block _ (Nat.lt_of_lt_of_le hp hW) fun h=>by have:=hS _ h;omega)
theorem row_lo {z:Nat} {Cs:List CU} {v:Value} {W W':World} (h:(SF.row z Cs).p v W) (hl:Lo W W'):(SF.row z Cs).p v W':=by
 obtain ⟨A,c,e,h2,h3,h4,h5⟩:=h
 have hk:KeepU W W':=fun p x hp=>(hl p (World.block_lt_of_cell? W _ hp)).trans hp
 refine ⟨A,c,e,h2,h3,h4,fun i C hi=> ?_⟩
 obtain ⟨b,o,cs,g1,g2,g3⟩:=h5 i C hi
 exact ⟨b,o,cs,g1,fun j u hj=>(hl _ (World.block_lt_of_cell? W _ (g2 j u hj))).trans (g2 j u hj),C.us _ _ _ g3 hk⟩
theorem tab_lo {W W':World} (h:Tab W) (hl:Lo W W'):Tab W':=fun j hj=>(hl _ (World.block_lt_of_cell? W _ (h j hj))).trans (h j hj)
theorem StS.resMP {w0:World} {K:List (Nat×KF)} {B:List Bx} {n:Nat} {ds:List Deferred} {a:Act} {w:World} {P:Program} (h:St w0 K B n ds a w) {fn:Func} (v:Value) {t:Nat} {e:TypeId} {C:CU} (hr:fn.results=#[.cell t e]) (hsz:isPlain P e=true) {y:Bx} (hB:getB B t=some y) (hyC:y.c=C) (hyl: ∀cs W,C.p cs W→cs= [v]):bodyPostM Fence.wide 0 P fn (Ret w0 (UF.eq v).toSF) .ret a w:=by
 obtain ⟨hy,rfl⟩:=getB_mem hB
 subst hyC
 obtain ⟨cs,h1,h2,h3,h4,h5⟩:=h.bx.mem y hy
 have e1:=hyl cs w h4
 have h0:a.tmps[y.t]?.getD undef= .pointer (some ⟨y.b,0,none⟩):=by rw [←Array.getD_eq_getD_getElem?];exact h1
 refine h.resM (v:=v) (fun w' ho=> ?_) fun w' ho=>rfl
 have hm:=mem_block (oth_cells ho h3)
 have:=run_loadVar_plain hsz hm (u:=v) (by rw [e1];rfl)
 simp [results,hr,asAddr,h0,this]
def noneYet (x y:List V2) (k:Nat):Prop:= ∀j,j<k→partsB (at_ x j) (at_ x ((j+1) % x.length)) y=false
theorem noneYet_all {x y:List V2} (h:noneYet x y x.length):oneB x y=false:=by
 unfold oneB
 rw [List.any_eq_false]
 intro i hi
 rw [h i (List.mem_range.1 hi)]
 simp
theorem some_one {x y:List V2} (h: ∃j,j<x.length∧partsB (at_ x j) (at_ x ((j+1) % x.length)) y=true):oneB x y=true:=by
 obtain ⟨j,hj,e⟩:=h
 exact List.any_eq_true.2 ⟨j,List.mem_range.2 hj,e⟩
theorem row_one {z:Nat} {Cs:List CU} {v:Value} {W:World} (h:(SF.row z Cs).p v W):v.oneCell'=true:=by
 obtain ⟨A,c,rfl,_⟩:=h
 rfl
theorem next_none {px py:List V2} {k:Nat} (hk:k<px.length) (h:noneYet px py k):if partsB (at_ px k) (at_ px ((k+1) % px.length)) py=true then ∃j,j<px.length∧partsB (at_ px j) (at_ px ((j+1) % px.length)) py=true else noneYet px py (k+1):=by
 by_cases e:partsB (at_ px k) (at_ px ((k+1) % px.length)) py=true
 ·rw [if_pos e];exact ⟨k,hk,e⟩
 ·rw [if_neg e]
  intro j hj
  rcases Nat.lt_or_eq_of_le (Nat.le_of_lt_succ hj) with h'|h'
  ·exact h j h'
  ·rw [h'];simpa using e
theorem apolys_s {m:Nat} {W:World} {A A':Option Addr} {c c':Nat} {ps qs:List V2} (hl:(SF.row 6 (pvs m ps)).p (.slice A (pvs m ps).length c) W) (hl2:(SF.row 6 (pvs m qs)).p (.slice A' (pvs m qs).length c') W) (hm:m≤60) (hm0:0<m) (hn:ps.length≤1000000) (hn2:qs.length≤1000000) (hT:Tab W):Calls Tryz.prog 16 #[.slice A (pvs m ps).length c, .slice A' (pvs m qs).length c'] W (Ret W (UF.eq (.bool (polysB ps qs))).toSF):=by
 refine run_stM [(UF.eq (.slice A (pvs m ps).length c)).toSF,(UF.eq (.slice A' (pvs m qs).length c')).toSF] Tryz.func16 rfl (by kernel_rfl) ⟨rfl,rfl,trivial⟩ fun a s=> ?_
 replace s:=s.renew [(0, .u (UF.eq (.slice A (pvs m ps).length c))),(1, .u (UF.eq (.slice A' (pvs m qs).length c')))] (fmz ⟨.inr ⟨_,rfl, .head _⟩,fmz ⟨.inr ⟨_,rfl,mz1⟩,fnz⟩⟩)
 refine wpIn_seq ?_
 refine region_go 0 [] hmix s (by kernel_rfl)
  obs_nil fun a w1 s=> ?_
 refine t_alloc (CU.isP (.bool false) True) (cs:= [.bool false]) (by kernel_rfl) rfl s (by kernel_rfl) (fun W=>⟨rfl,trivial⟩) rfl fun b4 a w s=> ?_
 refine tail_end rfl ?_
 refine (wpIn_wide (n:=0)).2 (wp_scope_straight ((wpIn_wide (n:=0)).1 ?_))
 refine wpIn_seq ?_
 refine region_go 7 ((10, .s ((UF.eq (.slice A (pvs m ps).length c)).toSF))::(11, .s ((UF.eq (.slice A' (pvs m qs).length c')).toSF))::(12, .s ((UF.eq (.agg #[.slice A (pvs m ps).length c, .slice A' (pvs m qs).length c'])).toSF))::(13, .s ((UF.eq (.slice A' (pvs m qs).length c')).toSF))::(14, .s ((UF.eq (.slice A (pvs m ps).length c)).toSF))::(15, .s ((UF.eq (.agg #[.slice A' (pvs m qs).length c', .slice A (pvs m ps).length c])).toSF))::(16, .u (UF.eq (.agg #[.slice A (pvs m ps).length c, .slice A' (pvs m qs).length c', .slice A' (pvs m qs).length c', .slice A (pvs m ps).length c]))):: []) hmix s (by kernel_rfl)
  (oc ok_move<|oc ok_move<|oc (ok_build2 (fun u v W (hu:u= .slice A (pvs m ps).length c) (hv:v= .slice A' (pvs m qs).length c')=>by subst hu hv;exact ⟨_,bA2 _ _ _ _ _ _,rfl⟩))<|oc ok_move<|oc ok_move<|oc (ok_build2 (fun u v W (hu:u= .slice A' (pvs m qs).length c') (hv:v= .slice A (pvs m ps).length c)=>by subst hu hv;exact ⟨_,bA2 _ _ _ _ _ _,rfl⟩))<|oc (ok_build2 (fun u v W (hu:u= .agg #[.slice A (pvs m ps).length c, .slice A' (pvs m qs).length c']) (hv:v= .agg #[.slice A' (pvs m qs).length c', .slice A (pvs m ps).length c])=>by subst hu hv;exact ⟨_,bA22 _ _ _ _ _ _ _ _ _ _ _ _,rfl⟩))<|obs_nil) fun a w2 s=> ?_
 refine t_alloc (CU.len 4) (cs:= [.slice none 0 0, .slice none 0 0, .slice none 0 0, .slice none 0 0]) (by kernel_rfl) rfl s (by kernel_rfl) (fun W=>rfl) rfl fun b5 a w s=> ?_
 refine t_store (CU.agg (UF.eq (.agg #[.slice A (pvs m ps).length c, .slice A' (pvs m qs).length c', .slice A' (pvs m qs).length c', .slice A (pvs m ps).length c]))) ((UF.eq (.agg #[.slice A (pvs m ps).length c, .slice A' (pvs m qs).length c', .slice A' (pvs m qs).length c', .slice A (pvs m ps).length c])).toSF) rfl s (by kernel_rfl) rfl rfl rfl iiz iiz (agg_store (vs:= [.slice A (pvs m ps).length c, .slice A' (pvs m qs).length c', .slice A' (pvs m qs).length c', .slice A (pvs m ps).length c]) rfl (by intro u hu;simp at hu;rcases hu with rfl|rfl|rfl|rfl<;>rfl) rfl) fun a w s=> ?_
 refine tail_end rfl ?_
 refine wpIn_seq ?_
 refine wpIn_label ?_
 refine wpIn_seq ?_
 refine wpIn_seq ?_
 refine region_go 2 ((17, .u (UF.eq (.agg #[.slice A (pvs m ps).length c, .slice A' (pvs m qs).length c', .slice A' (pvs m qs).length c', .slice A (pvs m ps).length c])))::(18, .u (UF.eq (.int .i64 (0)))):: []) hmix s (by kernel_rfl)
  (oc (ok_ldW (f:=UF.eq (.agg #[.slice A (pvs m ps).length c, .slice A' (pvs m qs).length c', .slice A' (pvs m qs).length c', .slice A (pvs m ps).length c])) 4 (by kernel_rfl) (hz:=agg_len (vs:= [.slice A (pvs m ps).length c, .slice A' (pvs m qs).length c', .slice A' (pvs m qs).length c', .slice A (pvs m ps).length c]) rfl))<|oc ok_move<|obs_nil) fun a w3 s=> ?_
 refine tail_end rfl ?_
 refine wpIn_block ?_
 refine st_while (fun (p:Nat×List Deferred)=>p.1≤2∧(1≤p.1→oneB ps qs=false)∧(2≤p.1→oneB qs ps=false)) (fun p=> [(0, .u (UF.eq (.slice A (pvs m ps).length c))),(1, .u (UF.eq (.slice A' (pvs m qs).length c'))),(17, .u (UF.eq (.agg #[.slice A (pvs m ps).length c, .slice A' (pvs m qs).length c', .slice A' (pvs m qs).length c', .slice A (pvs m ps).length c]))),(18, .u (UF.eq (.int .i64 (((p.1:Nat):Int)))))]) (fun _=> [⟨5,91,CU.agg (UF.eq (.agg #[.slice A (pvs m ps).length c, .slice A' (pvs m qs).length c', .slice A' (pvs m qs).length c', .slice A (pvs m ps).length c])),b5,false⟩,⟨4,4,CU.isP (.bool false) True,b4,false⟩]) (fun p=>p.2) (fun p=>2 - p.1) (0, []) ⟨by show 0≤2;decide,fun h=>absurd h (by show ¬1≤0;decide),fun h=>absurd h (by show ¬2≤0;decide)⟩ (s.keepK _ (fmz ⟨mz3,fmz ⟨mz4,fmz ⟨.head _,fmz ⟨mz1,fnz⟩⟩⟩⟩)) fun p a w hI s=> ?_
 refine wpIn_seq ?_
 refine region_go 1 ((19, .u (UF.eq (.bool (decide (((p.1:Nat):Int)<2))))):: []) hmix s (by kernel_rfl)
  (oc (ok_cmpI .i64 (((p.1:Nat):Int)) (2) (decide (((p.1:Nat):Int)<2)) iiz iiz rfl rfl)<|obs_nil) fun a w4 s=> ?_
 refine tail_end rfl ?_
 refine wpIn_seq ?_
 refine StS.cond s (decide (((p.1:Nat):Int)<2)) iiz (fun e=> ?_) (fun e=> ?_)
 ·have hp2:p.1<2:=by have:=of_decide_eq_true e;omega
  obtain ⟨x,y,px,py,hc⟩: ∃(x y:Value) (px py:List V2),(p.1=0∧x= .slice A (pvs m ps).length c∧y= .slice A' (pvs m qs).length c'∧px=ps∧py=qs)∨(p.1=1∧x= .slice A' (pvs m qs).length c'∧y= .slice A (pvs m ps).length c∧px=qs∧py=ps):=by
   rcases (by omega:p.1=0∨p.1=1) with h|h
   ·exact ⟨_,_,_,_, .inl ⟨h,rfl,rfl,rfl,rfl⟩⟩
   ·exact ⟨_,_,_,_, .inr ⟨h,rfl,rfl,rfl,rfl⟩⟩
  have hix: ∀W,(Instr.index 91 (.agg #[.slice A (pvs m ps).length c, .slice A' (pvs m qs).length c', .slice A' (pvs m qs).length c', .slice A (pvs m ps).length c]) (.int .i64 ((p.1:Nat):Int))).run Tryz.prog W= .ok (.agg #[x,y]) W:=by
   rcases hc with ⟨h,rfl,rfl,_⟩|⟨h,rfl,rfl,_⟩<;>rw [h]
   ·exact ix0 _ _ _ _ _ _ _ _ _ _ _ _
   ·exact ix1 _ _ _ _ _ _ _ _ _ _ _ _
  have hx:(SF.row 6 (pvs m px)).p x W:=by rcases hc with ⟨_,rfl,rfl,rfl,rfl⟩|⟨_,rfl,rfl,rfl,rfl⟩;exact hl;exact hl2
  have hy:(SF.row 6 (pvs m py)).p y W:=by rcases hc with ⟨_,rfl,rfl,rfl,rfl⟩|⟨_,rfl,rfl,rfl,rfl⟩;exact hl2;exact hl
  have hnx:px.length≤1000000:=by rcases hc with ⟨_,rfl,rfl,rfl,rfl⟩|⟨_,rfl,rfl,rfl,rfl⟩;exact hn;exact hn2
  have hny:py.length≤1000000:=by rcases hc with ⟨_,rfl,rfl,rfl,rfl⟩|⟨_,rfl,rfl,rfl,rfl⟩;exact hn2;exact hn
  have hxc:=row_plain hx
  have hyc:=row_plain hy
  have hx1:=row_one hx
  have hy1:=row_one hy
  refine wpIn_skip ?_
  refine wpIn_seq ?_
  refine wpIn_block ?_
  refine wpIn_seq ?_
  refine region_go 1 ((20, .u (UF.eq (.agg #[x,y]))):: []) hmix s (by kernel_rfl)
   (oc (ok_idxV (.agg #[.slice A (pvs m ps).length c, .slice A' (pvs m qs).length c', .slice A' (pvs m qs).length c', .slice A (pvs m ps).length c]) (.int .i64 ((p.1:Nat):Int)) (.agg #[x,y]) iiz iiz hix)<|obs_nil) fun a w5 s=> ?_
  refine t_alloc (CU.len 2) (cs:= [.slice none 0 0, .slice none 0 0]) (by kernel_rfl) rfl s (by kernel_rfl) (fun W=>rfl) rfl fun b7 a w s=> ?_
  refine t_store (CU.agg (UF.eq (.agg #[x,y]))) ((UF.eq (.agg #[x,y])).toSF) rfl s (by kernel_rfl) rfl rfl rfl iiz iiz (agg_store (vs:= [x,y]) rfl (by simp [hx1,hy1]) (by simp [hxc.2,hyc.2])) fun a w s=> ?_
  refine tail_end rfl ?_
  refine wpIn_seq ?_
  replace s:StS noS W _ [⟨7,90,CU.agg (UF.eq (.agg #[x,y])),b7,false⟩,⟨5,91,CU.agg (UF.eq (.agg #[.slice A (pvs m ps).length c, .slice A' (pvs m qs).length c', .slice A' (pvs m qs).length c', .slice A (pvs m ps).length c])),b5,false⟩,⟨4,4,CU.isP (.bool false) True,b4,false⟩] _ _ a _:=s
  have so23:=s.old
  have o7:b7<_:=so23 _ (.head _)
  have o5:b5<_:=so23 _ mz1
  have o4:b4<_:=so23 _ mz2
  refine region_goN 3 ((21, .s (SF.ptr ((CU.agg (UF.eq (.agg #[x,y]))).cf.at 0)))::(22, .s ((UF.eq x).toSF))::(23, .s (fClos w 106 22 (CU.is [x]))):: []) hmix s (by kernel_rfl)
   (oc (ok_idxA (C:=(CU.agg (UF.eq (.agg #[x,y]))).cf) 0 0 (by kernel_rfl) (fun _ _ h=>h.2) iiz)<|oc (ok_ld (C:=(CU.agg (UF.eq (.agg #[x,y]))).cf) (k:=0) (by kernel_rfl) (h:=agg_get (vs:= [x,y]) (k:=0) rfl))<|oc (ok_call1 wide_wide en_63 (fun u0 W hb (h0:u0=x)=>by rw [show u0=x from h0];exact (aedges_p (row_plain hx)).mono (Ret.to (fClos_old hb.size))))<|obs_nil) fun a w6 s hr=> ?_
  refine tail_end rfl ?_
  refine wpIn_block ?_
  obtain ⟨b23,cs23,e23,hb23,hh23,hc23,hn23⟩:=hr (_,_) mz2
  obtain rfl:cs23= [x]:=hc23
  replace s:=(s.keepK [(0, .u (UF.eq (.slice A (pvs m ps).length c))),(1, .u (UF.eq (.slice A' (pvs m qs).length c'))),(17, .u (UF.eq (.agg #[.slice A (pvs m ps).length c, .slice A' (pvs m qs).length c', .slice A' (pvs m qs).length c', .slice A (pvs m ps).length c]))),(18, .u (UF.eq (.int .i64 (((p.1:Nat):Int)))))] (fmz ⟨mz2,fmz ⟨mz3,fmz ⟨mz4,fmz ⟨mz5,fnz⟩⟩⟩⟩)).learn 23 _ e23
  replace s:StS noS W _ [⟨7,90,CU.agg (UF.eq (.agg #[x,y])),b7,false⟩,⟨5,91,CU.agg (UF.eq (.agg #[.slice A (pvs m ps).length c, .slice A' (pvs m qs).length c', .slice A' (pvs m qs).length c', .slice A (pvs m ps).length c])),b5,false⟩,⟨4,4,CU.isP (.bool false) (noneYet px py 0),b4,false⟩] Tryz.f16.ntmps _ a w6:=s.weakB 4 (CU.isP (.bool false) (noneYet px py 0)) rfl (nodup_of_B (by kernel_rfl)) (fun cs W h=>⟨h.1,fun j hj=>absurd hj (Nat.not_lt_zero _)⟩)
  have hCn: ∀q,inB ([⟨7,90,CU.agg (UF.eq (.agg #[x,y])),b7,false⟩,⟨5,91,CU.agg (UF.eq (.agg #[.slice A (pvs m ps).length c, .slice A' (pvs m qs).length c', .slice A' (pvs m qs).length c', .slice A (pvs m ps).length c])),b5,false⟩,⟨4,4,CU.isP (.bool false) (noneYet px py 0),b4,false⟩]) q→W.heap.size≤q:=fun q hq=>s.inB_new hq
  have hCl: ∀q,inB ([⟨7,90,CU.agg (UF.eq (.agg #[x,y])),b7,false⟩,⟨5,91,CU.agg (UF.eq (.agg #[.slice A (pvs m ps).length c, .slice A' (pvs m qs).length c', .slice A' (pvs m qs).length c', .slice A (pvs m ps).length c])),b5,false⟩,⟨4,4,CU.isP (.bool false) (noneYet px py 0),b4,false⟩]) q→q<w6.heap.size:=fun q ⟨z9,hz9,e9,_⟩=>e9▸s.old z9 hz9
  refine st_range (N:=px.length) (endless:=False) (fun k=> [⟨7,90,CU.agg (UF.eq (.agg #[x,y])),b7,false⟩,⟨5,91,CU.agg (UF.eq (.agg #[.slice A (pvs m ps).length c, .slice A' (pvs m qs).length c', .slice A' (pvs m qs).length c', .slice A (pvs m ps).length c])),b5,false⟩,⟨4,4,CU.isP (.bool false) (noneYet px py k),b4,false⟩]) ([⟨7,90,CU.agg (UF.eq (.agg #[x,y])),b7,false⟩,⟨5,91,CU.agg (UF.eq (.agg #[.slice A (pvs m ps).length c, .slice A' (pvs m qs).length c', .slice A' (pvs m qs).length c', .slice A (pvs m ps).length c])),b5,false⟩,⟨4,4,CU.isP (.bool true) (∃j,j<px.length∧partsB (at_ px j) (at_ px ((j+1) % px.length)) py=true),b4,false⟩]) (.exit 0) (fun k=> [(24, .u (fPV m (at_ px k))),(25, .u (fPV m (at_ px ((k+1) % px.length))))]) s iiz (enters_of Tryz.func106 (by kernel_rfl) rfl) (edges_it (w0:=W) hh23 hx s.below hCl hCn (fun ⟨z9,hz9,e9,_⟩=>by simp only [List.mem_cons,List.not_mem_nil,or_false] at hz9;rcases hz9 with rfl|rfl|rfl<;>(simp only at e9;omega)) hnx) (fun k=>rfl) ?_ rfl rfl rfl (fun k=>rfl) rfl (fun h=>h.elim) (fun l k xs WR hk so s=> ?_) (fun _ D WD s=> ?_) (fun D WD s=> ?_)
  ·intro k q hq
   rcases List.mem_cons.1 hq with rfl|hq
   ·exact .inr ⟨0,_,rfl,rfl,rfl⟩
   ·obtain rfl:=List.mem_singleton.1 hq;exact .inr ⟨1,_,rfl,rfl,rfl⟩
  ·have hLR:Lo W WR:=lo_below so.below
   have hWR:=so.gr.size
   have hSq: ∀q,(inB ([⟨7,90,CU.agg (UF.eq (.agg #[x,y])),b7,false⟩,⟨5,91,CU.agg (UF.eq (.agg #[.slice A (pvs m ps).length c, .slice A' (pvs m qs).length c', .slice A' (pvs m qs).length c', .slice A (pvs m ps).length c])),b5,false⟩,⟨4,4,CU.isP (.bool false) (noneYet px py 0),b4,false⟩]) q∨WR.heap.size≤q)→W.heap.size≤q:=fun q hq=>by rcases hq with hq|hq;exact hCn q hq;omega
   generalize ({ tmps:=_,defers:= [] }:Act)=a at s ⊢
   refine wpIn_seq ?_
   refine region_go 0 [] hmix s (by kernel_rfl)
    obs_nil fun a w7 s=> ?_
   refine t_alloc (CU.len 6) (cs:= [.bool false, .slice none 0 0, .slice none 0 0, .bool false, .slice none 0 0, .slice none 0 0]) (by kernel_rfl) rfl s (by kernel_rfl) (fun W=>rfl) rfl fun b8 a w s=> ?_
   refine t_store (CU.agg (fPV (m) ((at_ px k)))) ((fPV (m) ((at_ px k))).toSF) rfl s (by kernel_rfl) rfl rfl rfl iiz iiz (pt_store) fun a w s=> ?_
   refine tail_end rfl ?_
   refine region_go 0 [] hmix s (by kernel_rfl)
    obs_nil fun a w8 s=> ?_
   refine t_alloc (CU.len 6) (cs:= [.bool false, .slice none 0 0, .slice none 0 0, .bool false, .slice none 0 0, .slice none 0 0]) (by kernel_rfl) rfl s (by kernel_rfl) (fun W=>rfl) rfl fun b9 a w s=> ?_
   refine t_store (CU.agg (fPV (m) ((at_ px ((k+1) % px.length))))) ((fPV (m) ((at_ px ((k+1) % px.length)))).toSF) rfl s (by kernel_rfl) rfl rfl rfl iiz iiz (pt_store) fun a w s=> ?_
   refine tail_end rfl ?_
   refine ⟨s.gr,fun W2 hcell hW2=> ?_⟩
   have hL2:Lo W W2:=(lo_bls hLR s.gr hWR hSq).trans fun p _=>hcell p
   obtain ⟨_,_,h9c,_⟩:=s.bx.mem _ (.head _)
   have hb9:W.heap.size≤b9:=by rcases h9c with h|h|h;cases h;exact Nat.le_trans hWR h;exact hSq _ h
   replace s:=hW2 _ _ s
   have h9l:b9<W2.heap.size:=s.old _ (.head _)
   have hW2s:W.heap.size≤W2.heap.size:=by omega
   have hlo: ∀{w w':World},BlS (fun q=>inB ([⟨7,90,CU.agg (UF.eq (.agg #[x,y])),b7,false⟩,⟨5,91,CU.agg (UF.eq (.agg #[.slice A (pvs m ps).length c, .slice A' (pvs m qs).length c', .slice A' (pvs m qs).length c', .slice A (pvs m ps).length c])),b5,false⟩,⟨4,4,CU.isP (.bool false) (noneYet px py 0),b4,false⟩]) q∨WR.heap.size≤q) W2 w→Below w.heap.size w w'→Lo W w':=fun h1 h2=>(lo_bls hL2 h1 hW2s hSq).trans fun p hp=>h2.cell (Nat.lt_of_lt_of_le hp (Nat.le_trans hW2s h1.size))
   refine wpIn_block ?_
   refine wpIn_seq ?_
   refine region_go 5 ((26, .s ((fPV (m) ((at_ px k))).toSF))::(27, .s ((fPV (m) ((at_ px ((k+1) % px.length)))).toSF))::(28, .s (SF.ptr ((CU.agg (UF.eq (.agg #[x,y]))).cf.at 1)))::(29, .s ((UF.eq y).toSF))::(30, .u (UF.eq (.bool (partsB (at_ px k) (at_ px ((k+1) % px.length)) py)))):: []) hmix s (by kernel_rfl)
    (oc (ok_ldW (f:=fPV (m) ((at_ px k))) 6 (by kernel_rfl) (hz:=pt_len _ _))<|oc (ok_ldW (f:=fPV (m) ((at_ px ((k+1) % px.length)))) 6 (by kernel_rfl) (hz:=pt_len _ _))<|oc (ok_idxA (C:=(CU.agg (UF.eq (.agg #[x,y]))).cf) 1 1 (by kernel_rfl) (fun _ _ h=>h.2) iiz)<|oc (ok_ld (C:=(CU.agg (UF.eq (.agg #[x,y]))).cf) (k:=1) (by kernel_rfl) (h:=agg_get (vs:= [x,y]) (k:=1) rfl))<|oc (ok_call3 wide_wide en_64 (fun u0 u1 u2 W hb (h0:(fPV (m) ((at_ px k))).p u0 W) (h1:(fPV (m) ((at_ px ((k+1) % px.length)))).p u1 W) (h2:u2=y)=>by rw [show u2=y from h2];exact aparts_p h0 h1 (row_lo hy (hlo s.gr hb)) hm hm0 hny (tab_lo hT (hlo s.gr hb))))<|obs_nil) fun a w9 s=> ?_
   refine t_storeP (c:=4) (o:=0) (kk:=1) (CU.isP (.bool (partsB (at_ px k) (at_ px ((k+1) % px.length)) py)) (if partsB (at_ px k) (at_ px ((k+1) % px.length)) py=true then ∃j,j<px.length∧partsB (at_ px j) (at_ px ((j+1) % px.length)) py=true else noneYet px py (k+1))) ((UF.eq (.bool (partsB (at_ px k) (at_ px ((k+1) % px.length)) py))).toSF) rfl s (by kernel_rfl) rfl rfl (fun _ _ h=>h.1) iiz (sp_bool fun cs W h=>⟨by rw [h.1];rfl,next_none hk h.2⟩) fun a w s=> ?_
   refine tail_end rfl ?_
   refine wpIn_seq ?_
   refine region_go 1 ((31, .u (UF.eq (.bool (partsB (at_ px k) (at_ px ((k+1) % px.length)) py)))):: []) hmix s (by kernel_rfl)
    (oc (ok_load1 (C:=(CU.isP (.bool (partsB (at_ px k) (at_ px ((k+1) % px.length)) py)) (if partsB (at_ px k) (at_ px ((k+1) % px.length)) py=true then ∃j,j<px.length∧partsB (at_ px j) (at_ px ((j+1) % px.length)) py=true else noneYet px py (k+1))).cf) (by kernel_rfl) (fun _ _ h=>h.2) (isP_get))<|obs_nil) fun a w10 s=> ?_
   refine tail_end rfl ?_
   refine StS.cond s (partsB (at_ px k) (at_ px ((k+1) % px.length)) py) iiz (fun e=> ?_) (fun e=> ?_)
   ·refine wpIn_exit ?_
    replace s:=s.popB
    replace s:=s.popB
    exact ⟨rfl,(s.keepK [] (fnz)).weakB 4 (CU.isP (.bool true) (∃j,j<px.length∧partsB (at_ px j) (at_ px ((j+1) % px.length)) py=true)) rfl (nodup_of_B (by kernel_rfl)) (fun cs W h=>by rw [e] at h;simpa using h)⟩
   ·refine wpIn_skip ?_
    replace s:=s.popB
    replace s:=s.popB
    exact ⟨(s.keepK [] (fnz)).weakB 4 (CU.isP (.bool false) (noneYet px py (k+1))) rfl (nodup_of_B (by kernel_rfl)) (fun cs W h=>by rw [e] at h;simpa using h),fun h=>h.elim⟩
  ·have hone:oneB px py=false:=by obtain ⟨_,_,h9,_⟩:=s.boxAt (c:=4) rfl;exact noneYet_all h9.2
   replace s:StS noS W _ [⟨5,91,CU.agg (UF.eq (.agg #[.slice A (pvs m ps).length c, .slice A' (pvs m qs).length c', .slice A' (pvs m qs).length c', .slice A (pvs m ps).length c])),b5,false⟩,⟨4,4,CU.isP (.bool false) True,b4,false⟩] Tryz.f16.ntmps _ _ WD:=s.popB.weakB 4 (CU.isP (.bool false) True) rfl (nodup_of_B (by kernel_rfl)) (fun cs W h=>⟨h.1,trivial⟩)
   generalize ({ a with defers:=mark D::a.defers }:Act)=a at s ⊢
   refine region_goS 1 ((32, .u (UF.eq (.int .i64 (((p.1+1:Nat):Int))))):: []) s (by kernel_rfl)
    (oc (ok_addI .i64 (((p.1:Nat):Int)) (1) (((p.1+1:Nat):Int)) iiz iiz (wrap64 _ _ (by omega) (by omega)))<|obs_nil) fun a w11 s=> ?_
   replace s:=s.drop [18]
   refine t_gd (UF.eq (.int .i64 (((p.1+1:Nat):Int)))) rfl s (by kernel_rfl) (ok_move) (by kernel_rfl) fun a w s=> ?_
   refine tail_end rfl ?_
   refine ⟨(p.1+1,mark D::p.2),⟨by show p.1+1≤2;omega, ?_, ?_⟩,by show 2 - (p.1+1)<2 - p.1;omega,s.keepK _ (fmz ⟨mz3,fmz ⟨mz4,fmz ⟨mz5,fmz ⟨.head _,fnz⟩⟩⟩⟩)⟩
   ·intro _;rcases hc with ⟨_,_,_,rfl,rfl⟩|⟨e9,_⟩;exact hone;exact hI.2.1 (by omega)
   ·intro h9;rcases hc with ⟨e9,_⟩|⟨_,_,_,rfl,rfl⟩;have:2≤p.1+1:=h9;omega;exact hone
  ·have hans:polysB ps qs=true:=by
    obtain ⟨_,_,h9,_⟩:=s.boxAt (c:=4) rfl
    have h8:=some_one h9.2
    unfold polysB
    rcases hc with ⟨_,_,_,rfl,rfl⟩|⟨_,_,_,rfl,rfl⟩<;>simp [h8]
   generalize ({ a with defers:=mark D::a.defers }:Act)=a at s ⊢
   refine wpIn_exit ?_
   refine wpIn_seq ?_
   refine region_go 1 ((33, .u (UF.eq (.bool true))):: []) hmix s (by kernel_rfl)
    (oc (ok_load1 (C:=(CU.isP (.bool true) (∃j,j<px.length∧partsB (at_ px j) (at_ px ((j+1) % px.length)) py=true)).cf) (by kernel_rfl) (fun _ _ h=>h.2) (isP_get))<|obs_nil) fun a w12 s=> ?_
   refine t_storeP (c:=4) (o:=0) (kk:=1) (CU.isP (.bool true) True) ((UF.eq (.bool true)).toSF) rfl s (by kernel_rfl) rfl rfl (fun _ _ h=>h.1) iiz (sp_bool fun cs W h=>⟨by rw [h.1];rfl,trivial⟩) fun a w s=> ?_
   refine tail_end rfl ?_
   refine wpIn_ret ?_
   exact hans▸s.resMP (.bool true) rfl (by kernel_rfl) rfl rfl (fun cs W h=>h.1)
 ·have hp2:p.1=2:=by have h7:=of_decide_eq_false e;have h8:=hI.1;omega
  have hans:polysB ps qs=false:=by unfold polysB;rw [hI.2.1 (by omega),hI.2.2 (by omega)];rfl
  refine wpIn_exit ?_
  refine wpIn_seq ?_
  refine region_go 1 ((33, .u (UF.eq (.bool false))):: []) hmix s (by kernel_rfl)
   (oc (ok_load1 (C:=(CU.isP (.bool false) (True)).cf) (by kernel_rfl) (fun _ _ h=>h.2) (isP_get))<|obs_nil) fun a w13 s=> ?_
  refine t_storeP (c:=4) (o:=0) (kk:=1) (CU.isP (.bool false) True) ((UF.eq (.bool false)).toSF) rfl s (by kernel_rfl) rfl rfl (fun _ _ h=>h.1) iiz (sp_bool fun cs W h=>⟨by rw [h.1];rfl,trivial⟩) fun a w s=> ?_
  refine tail_end rfl ?_
  refine wpIn_ret ?_
  exact hans▸s.resMP (.bool false) rfl (by kernel_rfl) rfl rfl (fun cs W h=>h.1)
theorem apolys_p {m:Nat} {W:World} {u v:Value} {ps qs:List V2} (hl:(SF.row 6 (pvs m ps)).p u W) (hl2:(SF.row 6 (pvs m qs)).p v W) (hm:m≤60) (hm0:0<m) (hn:ps.length≤1000000) (hn2:qs.length≤1000000) (hT:Tab W):Calls Tryz.prog 16 #[u,v] W (Ret W (fB (polysB ps qs)).toSF):=by
 obtain ⟨A,c,rfl,_⟩:=id hl
 obtain ⟨A',c',rfl,_⟩:=id hl2
 exact apolys_s hl hl2 hm hm0 hn hn2 hT
end Go.Proofs.Wd

namespace Go.Proofs.Wd
set_option maxRecDepth 100000
set_option maxHeartbeats 1000000
open Go.RowKit Lb
abbrev V6:=V2×V2×V2
abbrev tl (t:V6):List V2:= [t.1,t.2.1,t.2.2]
def at3 (l:List V6) (i:Nat):V6:=l.getD i ((0,0),(0,0),(0,0))
def TRp (m:Nat) (t:V6) (v:Value) (w:World):Prop:= ∃a b c:List Value,v= .agg (a++b++c).toArray∧(CU.agg (fPV m t.1)).p a w∧(CU.agg (fPV m t.2.1)).p b w∧(CU.agg (fPV m t.2.2)).p c w
def fTR (m:Nat) (t:V6):UF:= .mk' (TRp m t) fun _ _ _ ⟨a,b,c,e,h1,h2,h3⟩ k=>⟨a,b,c,e,(CU.agg _).us _ _ _ h1 k,(CU.agg _).us _ _ _ h2 k,(CU.agg _).us _ _ _ h3 k⟩
theorem tr_parts {m:Nat} {t:V6} {cs:List Value} {W:World} (h:TRp m t (.agg cs.toArray) W): ∃a b c:List Value,cs=a++b++c∧a.length=6∧b.length=6∧c.length=6∧(CU.agg (fPV m t.1)).p a W∧(CU.agg (fPV m t.2.1)).p b W∧(CU.agg (fPV m t.2.2)).p c W:=by
 obtain ⟨a,b,c,e,h1,h2,h3⟩:=h
 have:=congrArg Array.toList (agg_inj e)
 simp only [List.toList_toArray] at this
 exact ⟨a,b,c,this,(pt_ok _ _ a W h1).1,(pt_ok _ _ b W h2).1,(pt_ok _ _ c W h3).1,h1,h2,h3⟩
theorem tr_ok (m:Nat) (t:V6):CU.ok 18 (CU.agg (fTR m t)):=fun cs W h=>by
 obtain ⟨a,b,c,rfl,l1,l2,l3,h1,h2,h3⟩:=tr_parts h
 have o1:=pt_ok _ _ a W h1;have o2:=pt_ok _ _ b W h2;have o3:=pt_ok _ _ c W h3
 refine ⟨by simp [l1,l2,l3],all_app o1.2.1 o2.2.1 o3.2.1,fun u hu=> ?_⟩
 rcases List.mem_append.1 hu with hu|hu
 ·rcases List.mem_append.1 hu with hu|hu
  ·exact o1.2.2 u hu
  ·exact o2.2.2 u hu
 ·exact o3.2.2 u hu
theorem tr_len (m:Nat) (t:V6): ∀cs:List Value, ∀W,(fTR m t).p (.agg cs.toArray) W→cs.length=18:=fun cs W h=>(tr_ok m t cs W h).1
theorem tr_box {m:Nat} {t:V6} {v:Value} {W:World} (h:(fTR m t).p v W):(CU.agg (fTR m t)).p v.cells.toList W∧v.cells.toList.all noLimb=true:=by
 obtain ⟨a,b,c,rfl,h1⟩:=id h
 exact ⟨h,(tr_ok m t _ W h).2.1⟩
theorem tr_store {m:Nat} {t:V6} (v:Value) (W:World) (h:(fTR m t).p v W): ∃vs:List Value,v= .agg vs.toArray∧vs.length=18∧(∀u,u∈vs→u.oneCell'=true)∧vs.all noLimb=true∧(CU.agg (fTR m t)).p vs W:=by
 obtain ⟨a,b,c,rfl,h1⟩:=id h
 have:=tr_ok m t _ W h
 exact ⟨_,rfl,this.1,this.2.2,this.2.1,h⟩
theorem tr_mono {m m':Nat} {t:V6} (hm:m≤m') {v:Value} {W:World} (h:(fTR m t).p v W):(fTR m' t).p v W:=by
 obtain ⟨a,b,c,e,h1,h2,h3⟩:=h
 exact ⟨a,b,c,e,pv_mono hm h1,pv_mono hm h2,pv_mono hm h3⟩
abbrev trs (m:Nat) (ts:List V6):List CU:=ts.map fun t=>CU.agg (fTR m t)
theorem trs_get {m:Nat} {ts:List V6} {i:Nat} (h:i<ts.length):(trs m ts)[i]?=some (CU.agg (fTR m (at3 ts i))):=by
 unfold trs at3;rw [List.getElem?_map,List.getD_eq_getElem?_getD,List.getElem?_eq_getElem h];rfl
theorem trs_mono {m m':Nat} (hm:m≤m') {ts:List V6} (v:Value) (W:World) (hv:(SF.row 18 (trs m ts)).p v W):(SF.row 18 (trs m' ts)).p v W:=
 row_imp (by simp) (fun i C D hC hD cs W h=>by
  have hi:i<ts.length:=by have:=(List.getElem?_eq_some_iff.1 hC).1;simpa using this
  rw [trs_get hi] at hC
  rw [trs_get hi] at hD
  cases hC;cases hD
  exact tr_mono hm h) v W hv
theorem pvs_mono {m m':Nat} (hm:m≤m') {ps:List V2} (v:Value) (W:World) (hv:(SF.row 6 (pvs m ps)).p v W):(SF.row 6 (pvs m' ps)).p v W:=
 row_imp (by simp) (fun i C D hC hD cs W h=>by
  have hi:i<ps.length:=by have:=(List.getElem?_eq_some_iff.1 hC).1;simpa using this
  rw [pvs_get hi] at hC
  rw [pvs_get hi] at hD
  cases hC;cases hD
  exact pv_mono hm h) v W hv
theorem tr_row {m:Nat} {t:V6} {b o:Nat} {cs:List Value} {W:World} (h:(CU.agg (fTR m t)).p cs W) (hm:Mem W b o cs):(SF.row 6 (pvs m (tl t))).p (.slice (some ⟨b,o,none⟩) 3 3) W:=by
 obtain ⟨x,y,z,rfl,l1,l2,l3,h1,h2,h3⟩:=tr_parts h
 refine ⟨_,3,rfl,Nat.le_refl _,by decide,fun e=>(by cases e),fun i C hi=> ?_⟩
 have hlt:=(List.getElem?_eq_some_iff.1 hi).1
 simp at hlt
 rcases (by omega:i=0∨i=1∨i=2) with rfl|rfl|rfl
 ·obtain rfl:CU.agg (fPV m t.1)=C:=by simpa using hi
  exact ⟨b,o,x,rfl,fun j u hj=>by rw [Nat.zero_mul];exact hm j u (by rw [List.append_assoc,List.getElem?_append_left (List.getElem?_eq_some_iff.1 hj).1];exact hj),h1⟩
 ·obtain rfl:CU.agg (fPV m t.2.1)=C:=by simpa using hi
  refine ⟨b,o,y,rfl,fun j u hj=> ?_,h2⟩
  have hj':=(List.getElem?_eq_some_iff.1 hj).1
  have:=hm (6+j) u (by rw [List.append_assoc,List.getElem?_append_right (by omega),List.getElem?_append_left (by omega)];rw [show 6+j - x.length=j by omega];exact hj)
  rwa [←Nat.add_assoc] at this
 ·obtain rfl:CU.agg (fPV m t.2.2)=C:=by simpa using hi
  refine ⟨b,o,z,rfl,fun j u hj=> ?_,h3⟩
  have:=hm (12+j) u (by rw [List.getElem?_append_right (by simp;omega)];rw [show 12+j - (x++y).length=j by simp;omega];exact hj)
  rwa [←Nat.add_assoc] at this
section
variable {F:Fence} {m:Nat} {P:Program} {w0:World} {ops:Array Oper} {G:Nat→SF} {d:Tmp} {ty:TypeId} {pos:String} {aft:Array Edge}
theorem ok_sliceA {x:Operand} {t:TypeId} {C:CF} (n:Nat) (el:TypeId) (ht:P.underlying t=some (.array n el)) (hi:(P.info? el).isSome=true) (hx: ∀v W,(fct G x).p v W→(SF.ptr C).p v W) (hd: ∀b o cs W,C.p cs W→Mem W b o cs→(G d).p (.slice (some ⟨b,o,none⟩) n n) W):GdOK F m P w0 ops G ⟨some d, .slice t x none none none,ty,pos,aft,none⟩:=
 ok_pure (fun _ e=>by cases e) (fun _ e=>by cases e) fun b W hb hh=>by
  obtain ⟨a,q,cs,e,h2,h3⟩:=hx _ _ (hh x (by simp [Op.operands]))
  obtain ⟨ie,hie⟩:=Option.isSome_iff_exists.1 hi
  refine ⟨.slice (some ⟨a,q,none⟩) n n, ?_,hd a q cs W h2 h3⟩
  simp [execOp,Instr.sliceAt,run_underlying ht,e,Instr.sureAddr,Instr.sliceBounds,sizeOf,typeInfo,hie,Addr.add_lit]
end
def TBt (m:Nat) (g:V6→Bool) (xs:Array Value) (W:World) (R:SF):Prop:= ∃u t,xs=#[u]∧(fTR m t).p u W∧Tab W∧R=(fB (g t)).toSF
theorem mem_at3 {l:List V6} {p:V6} (h:p∈l): ∃i,i<l.length∧at3 l i=p:=by
 obtain ⟨i,hi,e⟩:=List.getElem_of_mem h
 exact ⟨i,hi,by unfold at3;rw [List.getD_eq_getElem?_getD,List.getElem?_eq_getElem hi];exact e⟩
theorem at3_mem {l:List V6} {i:Nat} (h:i<l.length):at3 l i∈l:=by
 unfold at3;rw [List.getD_eq_getElem?_getD,List.getElem?_eq_getElem h];exact List.getElem_mem h
theorem idx3_at {g:V6→Bool} {l:List V6} {k:Nat} (hk:k<l.length) (h0: ∀j,j<k→g (at3 l j)=false) (h1:g (at3 l k)=true):idxV g l=((k:Nat):Int):=by
 have ha:l.any g=true:=List.any_eq_true.2 ⟨_,at3_mem hk,h1⟩
 unfold idxV
 rw [if_pos ha]
 congr 1
 refine (List.findIdx_eq hk).2 ⟨by have:=h1;unfold at3 at this;rwa [List.getD_eq_getElem?_getD,List.getElem?_eq_getElem hk] at this,fun j hj=> ?_⟩
 have:=h0 j hj
 unfold at3 at this
 rwa [List.getD_eq_getElem?_getD,List.getElem?_eq_getElem (Nat.lt_trans hj hk)] at this
theorem idx3_none {g:V6→Bool} {l:List V6} (h0: ∀j,j<l.length→g (at3 l j)=false):idxV g l= -1:=by
 unfold idxV
 rw [if_neg]
 intro ha
 obtain ⟨p,hp,e⟩:=List.any_eq_true.1 ha
 obtain ⟨j,hj,rfl⟩:=mem_at3 hp
 rw [h0 j hj] at e
 cases e
theorem ixt_p {m:Nat} {g:V6→Bool} {W:World} {l f:Value} {ts:List V6} (hl:(SF.row 18 (trs m ts)).p l W) (hf:(SF.fn Tryz.prog (TBt m g)).p f W) (hn:ts.length≤1000000) (hT:Tab W):Calls Tryz.prog 105 #[l,f] W (Ret W (fI (idxV g ts)).toSF):=by
 refine run_st [SF.row 18 (trs m ts),SF.fn Tryz.prog (TBt m g)] Tryz.func105 rfl (by kernel_rfl) ⟨hl,hf,trivial⟩ fun a s=> ?_
 refine wpIn_seq ?_
 refine region_go 1 ((4, .u (UF.eq (.int .i64 (0)))):: []) hmix s (by kernel_rfl)
  (oc (ok_assign)<|obs_nil) fun a w1 s=> ?_
 refine tail_end rfl ?_
 refine wpIn_seq ?_
 refine wpIn_seq ?_
 refine region_go 3 ((6, .s (SF.row 18 (trs (m) (ts))))::(7, .u (UF.eq (.int .i64 ((((trs (m) (ts)).length:Nat):Int)))))::(8, .u (UF.eq (.int .i64 (0)))):: []) hmix s (by kernel_rfl)
  (oc ok_move<|oc (ok_lenR (z:=18) (Cs:=trs (m) (ts)) (by kernel_rfl) iiz (fun _=>rfl))<|oc ok_move<|obs_nil) fun a w2 s=> ?_
 refine tail_end rfl ?_
 refine wpIn_block ?_
 refine st_whileK (fun k=>k≤ts.length∧ ∀j,j<k→g (at3 ts j)=false) (fun k=> [(0, .o (SF.row 18 (trs (m) (ts)))),(1, .o (SF.fn Tryz.prog (TBt m g))),(7, .u (UF.eq (.int .i64 ((((trs (m) (ts)).length:Nat):Int))))),(8, .u (UF.eq (.int .i64 (((k:Nat):Int)))))]) (fun k=>ts.length - k) ((0:Nat)) (⟨Nat.zero_le _,fun j hj=>absurd hj (Nat.not_lt_zero _)⟩) (s.keepK _ (fmz ⟨mz3,fmz ⟨mz4,fmz ⟨.head _,fmz ⟨mz1,fnz⟩⟩⟩⟩)) fun k a w hx s=> ?_
 refine wpIn_seq ?_
 refine region_go 1 ((9, .u (UF.eq (.bool (decide (((k:Nat):Int)<(((trs (m) (ts)).length:Nat):Int)))))):: []) hmix s (by kernel_rfl)
  (oc (ok_cmpI .i64 (((k:Nat):Int)) ((((trs (m) (ts)).length:Nat):Int)) (decide (((k:Nat):Int)<(((trs (m) (ts)).length:Nat):Int))) iiz iiz rfl rfl)<|obs_nil) fun a w3 s=> ?_
 refine tail_end rfl ?_
 refine wpIn_seq ?_
 refine StS.cond s (decide (((k:Nat):Int)<(((trs (m) (ts)).length:Nat):Int))) iiz (fun e=> ?_) (fun e=> ?_)
 ·have hk:k<ts.length:=by have:=of_decide_eq_true e;simp at this;omega
  refine wpIn_skip ?_
  refine wpIn_seq ?_
  refine wpIn_block ?_
  refine wpIn_seq ?_
  refine region_go 2 ((10, .s ((UF.eq (.int .i64 (((k:Nat):Int)))).toSF))::(5, .u (UF.eq (.int .i64 (((k:Nat):Int))))):: []) hmix s (by kernel_rfl)
   (oc ok_move<|oc (ok_assign)<|obs_nil) fun a w4 s=> ?_
  refine tail_end rfl ?_
  refine wpIn_seq ?_
  refine region_go 6 ((11, .s (SF.fn Tryz.prog (TBt m g)))::(12, .s (SF.row 18 (trs (m) (ts))))::(13, .s ((UF.eq (.int .i64 (((k:Nat):Int)))).toSF))::(14, .s (SF.ptr (CU.agg (fTR (m) ((at3 ts k)))).cf))::(15, .s ((fTR (m) ((at3 ts k))).toSF))::(16, .u (UF.eq (.bool (g (at3 ts k))))):: []) hmix s (by kernel_rfl)
   (oc ok_move<|oc ok_move<|oc ok_move<|oc (ok_index (z:=18) (Cs:=trs (m) (ts)) (i:=k) (C:=CU.agg (fTR (m) ((at3 ts k)))) (by kernel_rfl) (trs_get hk) iiz iiz)<|oc (ok_ldW (f:=fTR (m) ((at3 ts k))) 18 (by kernel_rfl) (hz:=tr_len _ _))<|oc (ok_fn1 (TBt m g) wide_wide iiz (fun u W hb (h:(fTR (m) (at3 ts k)).p u W)=>⟨u,_,rfl,h,(hT.below (s.up hb)),rfl⟩))<|obs_nil) fun a w5 s=> ?_
  refine tail_end rfl ?_
  refine StS.cond s (g (at3 ts k)) iiz (fun e=> ?_) (fun e=> ?_)
  ·refine wpIn_seq ?_
   refine region_go 2 ((17, .s ((UF.eq (.int .i64 (((k:Nat):Int)))).toSF))::(4, .u (UF.eq (.int .i64 (((k:Nat):Int))))):: []) hmix s (by kernel_rfl)
    (oc ok_move<|oc (ok_assign)<|obs_nil) fun a w6 s=> ?_
   refine tail_end rfl ?_
   refine wpIn_ret ?_
   exact StS.res1 s (t:=4) rfl (fun v W h=>by rw [idx3_at hk hx.2 e];exact h)
  ·refine wpIn_skip ?_
   refine region_goS 1 ((18, .u (UF.eq (.int .i64 (((k+1:Nat):Int))))):: []) s (by kernel_rfl)
    (oc (ok_addI .i64 (((k:Nat):Int)) (1) (((k+1:Nat):Int)) iiz iiz (wrap64 _ _ (by omega) (by omega)))<|obs_nil) fun a w7 s=> ?_
   replace s:=s.drop [8]
   refine t_gd (UF.eq (.int .i64 (((k+1:Nat):Int)))) rfl s (by kernel_rfl) (ok_move) (by kernel_rfl) fun a w s=> ?_
   refine tail_end rfl ?_
   exact ⟨k+1,⟨hk,fun j hj=>by rcases Nat.lt_or_eq_of_le (Nat.le_of_lt_succ hj) with h|h;exact hx.2 j h;rw [h];exact e⟩,(by show ts.length - (k+1)<ts.length - k;omega),s.keepK _ (fmz ⟨mz5,fmz ⟨mz6,fmz ⟨mz7,fmz ⟨.head _,fnz⟩⟩⟩⟩)⟩
 ·have hk:k=ts.length:=by have h7:=of_decide_eq_false e;have h8:=hx.1;simp at h7;omega
  refine wpIn_exit ?_
  refine wpIn_seq ?_
  refine region_go 1 ((4, .u (UF.eq (.int .i64 (-1)))):: []) hmix s (by kernel_rfl)
   (oc (ok_assign)<|obs_nil) fun a w8 s=> ?_
  refine tail_end rfl ?_
  refine wpIn_ret ?_
  exact StS.res1 s (t:=4) rfl (fun v W h=>by rw [idx3_none (fun j hj=>hx.2 j (by omega))];exact h)
theorem cft_p {m:Nat} {g:V6→Bool} {W:World} {l f:Value} {ts:List V6} (hl:(SF.row 18 (trs m ts)).p l W) (hf:(SF.fn Tryz.prog (TBt m g)).p f W) (hn:ts.length≤1000000) (hT:Tab W):Calls Tryz.prog 61 #[l,f] W (Ret W (fB (ts.any g)).toSF):=by
 refine run_st [SF.row 18 (trs m ts),SF.fn Tryz.prog (TBt m g)] Tryz.func61 rfl (by kernel_rfl) ⟨hl,hf,trivial⟩ fun a s=> ?_
 refine wpIn_seq ?_
 refine region_go 1 ((4, .u (UF.eq (.bool false))):: []) hmix s (by kernel_rfl)
  (oc (ok_assign)<|obs_nil) fun a w1 s=> ?_
 refine tail_end rfl ?_
 refine wpIn_seq ?_
 replace s:=s.drop [4]
 refine region_go 5 ((5, .s (SF.row 18 (trs (m) (ts))))::(6, .s (SF.fn Tryz.prog (TBt m g)))::(7, .s ((UF.eq (.int .i64 (idxV g ts))).toSF))::(8, .s ((UF.eq (.bool (decide (idxV g ts≥0)))).toSF))::(4, .u (UF.eq (.bool (decide (idxV g ts≥0))))):: []) hmix s (by kernel_rfl)
  (oc ok_move<|oc ok_move<|oc (ok_call2 wide_wide en_105 (fun u0 u1 W hb (h0:(SF.row 18 (trs (m) (ts))).p u0 W) (h1:(SF.fn Tryz.prog (TBt m g)).p u1 W)=>ixt_p h0 h1 hn (hT.below (s.up hb))))<|oc (ok_cmpI .i64 (idxV g ts) (0) (decide (idxV g ts≥0)) iiz iiz rfl rfl)<|oc (ok_assign)<|obs_nil) fun a w2 s=> ?_
 refine tail_end rfl ?_
 refine wpIn_ret ?_
 exact StS.res1 s (t:=4) rfl (fun v W h=>by rw [←idxV_any];exact h)
theorem afree1_p {m:Nat} {W:World} {u v r:Value} {t:V6} {rs:List V2} (h1:(fTR m t).p u W) (h2:(SF.ptr (CU.is [r]).cf).p v W) (hr_:(SF.row 6 (pvs m rs)).p r W) (hm:m≤60) (hm0:0<m) (hn:rs.length≤1000000) (hT:Tab W):Calls Tryz.prog 62 #[u,v] W (Ret W (fB (!(polysB rs (tl t)))).toSF):=by
 refine run_st [(fTR m t).toSF,SF.ptr (CU.is [r]).cf] Tryz.func62 rfl (by kernel_rfl) ⟨h1,h2,trivial⟩ fun a s=> ?_
 refine wpIn_seq ?_
 refine region_go 0 [] hmix s (by kernel_rfl)
  obs_nil fun a w1 s=> ?_
 refine t_box (CU.agg (fTR (m) (t))) rfl s (by kernel_rfl) (fun v W h=>tr_box h) fun b2 a w s=> ?_
 refine t_set (UF.eq (.bool false)) rfl s (by kernel_rfl) iiz fun a w s=> ?_
 refine tail_end rfl ?_
 refine wpIn_seq ?_
 replace s:=s.drop [3]
 refine region_go 5 ((4, .s ((UF.eq r).toSF))::(5, .s (SF.row 6 (pvs (m) (tl (t)))))::(6, .s ((UF.eq (.bool (polysB rs (tl t)))).toSF))::(7, .s ((UF.eq (.bool (!(polysB rs (tl t))))).toSF))::(3, .u (UF.eq (.bool (!(polysB rs (tl t)))))):: []) hmix s (by kernel_rfl)
  (oc (ok_load1 (C:=(CU.is [r]).cf) (by kernel_rfl) iiz (is_get))<|oc (ok_sliceA (C:=(CU.agg (fTR (m) (t))).cf) 3 31 (by kernel_rfl) (by kernel_rfl) (fun _ _ h=>h.2) (fun b o cs W h hm=>tr_row h hm))<|oc (ok_call2 wide_wide en_16 (fun u0 u1 W hb (h0:u0=r) (h1:(SF.row 6 (pvs (m) (tl (t)))).p u1 W)=>apolys_p (by rw [show _=r from h0];exact (SF.row 6 (pvs (m) (rs))).st _ _ _ hr_ (s.up hb)) h1 hm hm0 hn (by simp) (hT.below (s.up hb))))<|oc (ok_not (polysB rs (tl t)) iiz (fun _=>rfl))<|oc (ok_assign)<|obs_nil) fun a w2 s=> ?_
 refine tail_end rfl ?_
 refine wpIn_ret ?_
 exact StS.res1 s (t:=3) rfl iiz
theorem newRow_old {W W':World} {e:TypeId} {z:Nat} {Cs:List CU} (h:W.heap.size≤W'.heap.size) (v:Value) (w:World) (hv:(SF.newRow W' e z Cs).p v w):(SF.newRow W e z Cs).p v w:=RowN.mono hv h
theorem sp_plain {u:Value} (h1:u.cells=#[u]) (h2:noLimb u=true) (h3:u.oneCell'=true) (v:Value) (W:World) (h:(UF.eq u).p v W):v.cells.size=1∧(∀u,u∈v.cells.toList→u.oneCell'=true)∧v.cells.toList.all noLimb=true∧ ∀cs,(CU.len 1).p cs W→0+1≤cs.length∧(CU.is [u]).p (splice cs 0 v.cells.toList) W:=by
 obtain rfl:v=u:=h
 rw [h1]
 refine ⟨rfl,fun u hu=>by simp at hu;rw [hu];exact h3,by simp [h2],fun cs hc=> ?_⟩
 have hc':cs.length=1:=hc
 obtain ⟨c,rfl⟩:=List.length_eq_one_iff.1 hc'
 exact ⟨by simp,rfl⟩
theorem shift_qb {m:Nat} {rs:List V2} {p:V2} (hr: ∀x,x∈rs→QB x.1 m∧QB x.2 m) (hp:QB p.1 m∧QB p.2 m): ∀x,x∈shiftV rs p→QB x.1 (2*m+1)∧QB x.2 (2*m+1):=fun x hx=>by
 obtain ⟨y,hy,rfl⟩:=List.mem_map.1 hx
 have:=hr y hy
 exact ⟨(this.1.add hp.1).mono (by omega),(this.2.add hp.2).mono (by omega)⟩
theorem pvs_qb {m:Nat} (hm0:0<m) {ps:List V2} {v:Value} {W:World} (h:(SF.row 6 (pvs m ps)).p v W): ∀x,x∈ps→QB x.1 m∧QB x.2 m:=fun x hx=>by
 obtain ⟨i,hi,rfl⟩:=mem_at hx
 obtain ⟨_,_,_,_,_,_,h5⟩:=h
 obtain ⟨b,o,cs,_,_,h6⟩:=h5 i _ (pvs_get hi)
 exact pv_qb hm0 (v:= .agg cs.toArray) h6
theorem afree_p {m:Nat} {W:World} {r l v:Value} {rs:List V2} {ts:List V6} {p:V2} (hr_:(SF.row 6 (pvs m rs)).p r W) (ht:(SF.row 18 (trs m ts)).p l W) (h1:(fPV m p).p v W) (hm:m≤25) (hm0:0<m) (hn:rs.length≤1000000) (hnt:ts.length≤1000000) (hT:Tab W):Calls Tryz.prog 14 #[r,l,v] W (Ret W (fB (!(ts.any (fun t=> !(polysB (shiftV rs p) (tl t)))))).toSF):=by
 have hsh:=shift_qb (pvs_qb hm0 hr_) (pv_qb hm0 h1)
 refine run_st [SF.row 6 (pvs m rs),SF.row 18 (trs m ts),(fPV m p).toSF] Tryz.func14 rfl (by kernel_rfl) ⟨hr_,ht,h1,trivial⟩ fun a s=> ?_
 refine wpIn_seq ?_
 refine region_go 0 [] hmix s (by kernel_rfl)
  obs_nil fun a w1 s=> ?_
 refine t_box (CU.agg (fPV (m) (p))) rfl s (by kernel_rfl) (fun v W h=>pt_box h) fun b5 a w s=> ?_
 refine t_set (UF.eq (.bool false)) rfl s (by kernel_rfl) iiz fun a w s=> ?_
 refine tail_end rfl ?_
 refine wpIn_seq ?_
 refine region_goN 3 ((8, .s (SF.row 6 (pvs (m) (rs))))::(9, .s ((fPV (m) (p)).toSF))::(10, .s (SF.newRow w 31 6 (pns (shiftV rs p)))):: []) hmix s (by kernel_rfl)
  (oc ok_move<|oc (ok_ldW (f:=fPV (m) (p)) 6 (by kernel_rfl) (hz:=pt_len _ _))<|oc (ok_call2 wide_wide en_17 (fun u0 u1 W hb (h0:(SF.row 6 (pvs (m) (rs))).p u0 W) (h1:(fPV (m) (p)).p u1 W)=>(ashift_p h0 h1 (by omega) hm0 hn (hT.below (s.up hb))).mono (Ret.to (newRow_old hb.size))))<|obs_nil) fun a w2 s hr=> ?_
 obtain ⟨v10,e10⟩: ∃v,a.tmps.getD 10 undef=v:=⟨_,rfl⟩
 have hv10:(SF.row 6 (pvs (2*m+1) (shiftV rs p))).p v10 w2:=e10▸pns_pvs hsh _ _ (newRow_row _ _ (hr (_,_) mz2))
 have hvp:=row_plain hv10
 replace s:=s.learn 10 v10 e10
 have hb0:=s.below
 have hT0:=hT
 replace hT:=hT.below hb0
 replace s:StS _ _ _ [⟨5,31,CU.agg (fPV (m) (p)),b5,true⟩] _ _ _ _:=s.freeze
 replace s:=s.reb rfl [(10, .u (UF.eq (v10))),(6, .u (UF.eq (.bool false))),(0, .o (SF.row 6 (pvs (m) (rs)))),(1, .o (SF.row 18 (trs (m) (ts)))),(2, .o ((fPV (m) (p)).toSF))] (fmz ⟨.inl (.head _),fmz ⟨.inl mz1,fmz ⟨.inl mz2,fmz ⟨.inl mz3,fmz ⟨.inl mz4,fnz⟩⟩⟩⟩⟩)
 refine t_alloc (CU.len 1) (cs:= [.slice none 0 0]) (by kernel_rfl) rfl s (by kernel_rfl) (fun W=>rfl) rfl fun b7 a w s=> ?_
 refine t_storeP (c:=7) (o:=0) (kk:=1) (CU.is [v10]) ((UF.eq v10).toSF) rfl s (by kernel_rfl) rfl rfl (fun _ _ h=>h.1) iiz (sp_plain hvp.1 hvp.2 (row_one hv10)) fun a w s=> ?_
 refine tail_end rfl ?_
 refine wpIn_seq ?_
 replace s:=s.drop [6]
 refine region_go 5 ((11, .s (SF.row 18 (trs (m) (ts))))::(12, .s (SF.fn Tryz.prog (TBt (2*m+1) (fun t=> !(polysB (shiftV rs p) (tl t))))))::(13, .s ((UF.eq (.bool (ts.any (fun t=> !(polysB (shiftV rs p) (tl t)))))).toSF))::(14, .s ((UF.eq (.bool (!(ts.any (fun t=> !(polysB (shiftV rs p) (tl t))))))).toSF))::(6, .u (UF.eq (.bool (!(ts.any (fun t=> !(polysB (shiftV rs p) (tl t)))))))):: []) hmix s (by kernel_rfl)
  (oc ok_move<|oc (ok_mkfn1 (fun u W hb (h:(SF.pb b7 (CU.is [v10]).cf).p u W)=>fn_one (enters_of Tryz.func62 (by kernel_rfl) rfl) (fun W' hb' args R ⟨u1,t,e,h1,hT',hR⟩=>by subst e hR;simpa using afree1_p h1 ((SF.ptr _).st _ _ _ h.2 hb') ((SF.row 6 _).st _ _ _ ((SF.row 6 _).st _ _ _ hv10 (s.up hb)) hb') (by omega) (by omega) (by rw [shift_len];exact hn) hT')))<|oc (ok_call2 wide_wide en_61 (fun u0 u1 W hb (h0:(SF.row 18 (trs (m) (ts))).p u0 W) (h1:(SF.fn Tryz.prog (TBt (2*m+1) (fun t=> !(polysB (shiftV rs p) (tl t))))).p u1 W)=>cft_p (trs_mono (by omega) _ _ h0) h1 hnt (hT.below (s.up hb))))<|oc (ok_not (ts.any (fun t=> !(polysB (shiftV rs p) (tl t)))) iiz (fun _=>rfl))<|oc (ok_assign)<|obs_nil) fun a w3 s=> ?_
 refine tail_end rfl ?_
 refine wpIn_ret ?_
 exact StS.resB s hb0 (t:=6) rfl iiz
end Go.Proofs.Wd
