/- Natural numbers as values; the walks of gcd's Reduce, Lcm, Coprime; Th and what it needs. -/
import Derived.Test.YtdfhaibojmnmkaaGreatDoorMRO18
import Derived.Test.YtdfhaibojmnmkaaGreatDoorMRO13
import Derived.Test.YtdfhaibojmnmkaaGreatDoorMRO7
import Derived.Test.YtdfhaibojmnmkaaGreatDoorMRO19
import Derived.Test.YtdfhaibojmnmkaaGreatDoorMRO17
import Derived.Test.YtdfhaibojmnmkaaGreatDoorMRO6
import Derived.Test.YtdfhaibojmnmkaaGreatDoorMRO1
import Derived.Test.YtdfhaibojmnmkaaGreatDoorMRO9
import Derived.Test.YtdfhaibojmnmkaaGreatDoorMRO16
namespace Go.Proofs.Wd
set_option maxHeartbeats 1000000
open Go.RowKit Lb
theorem zTo {W:World} {m:Nat} {v v':Value} {a b:Nat} (h:LV W m v a) (h':LV W m v' b) (hm:m≤2000) (hT:Tab W):Calls Tryz.prog 199 #[v,v'] W (zMJ W (Nat.gcd a b)):=by
 obtain ⟨A,n,c,l,rfl,h1,h2,h3,rfl⟩:=h
 obtain ⟨A',n',c',l',rfl,h1',h2',h3',rfl⟩:=h'
 exact (zQB A n c l A' n' c' l' W h1 h1' h2 h2' (by omega) (by omega) hT).mono fun _ _=>q6.v
theorem zOZ {a b m:Nat} (ha:a<BB^m) (hb:b<BB^m):Nat.gcd a b<BB^m:=by
 rcases Nat.eq_zero_or_pos a with rfl|h
 ·rwa [Nat.gcd_zero_left]
 ·exact Nat.lt_of_le_of_lt (Nat.gcd_le_left b h) ha
theorem zMu {m:Nat} {v vg:Value} {a g B:Nat} {W:World} (h:LV W m v a) (hg:LV W m vg g) (hm:m≤2000) (hg0:0<g) (hc:W.cell? ⟨B,0,none⟩=some vg):
  Calls Tryz.prog 207 #[v, .pointer (some ⟨B,0,none⟩)] W (zMJ W (a / g)):=by
 obtain ⟨A,n,c,l,rfl,h1,h2,h3,h4⟩:=h
 obtain ⟨A',n',c',l',rfl,h1',h2',h3',h4'⟩:=hg
 have hd:=zIQ a g hg0 A n c l A' n' c' l' W h1 h2 h1' h2' h4 h4' (by omega) (by omega)
 have H4:=hid h4;have H4':=hid h4'
 clear h4 h4'
 go_enter Tryz.func207,Tryz.ntmps207
 go_wp2_with fail
 refine hd.mono ?_
 rintro e w4 ⟨A4,n4,c4,l4,A5,n5,c5,l5,rfl,hi4,hr4,hi5,hr5,hb5⟩
 go_wp2_with fail
 go_ret
 exact ⟨_,rfl,⟨A4,n4,c4,l4,rfl,hi4,hr4⟩,hb5⟩
theorem zSO (A:Option Addr) (n c:Nat) (w:World):
  Calls Tryz.prog 200 #[.slice A n c] w fun e w'=>e= .returned (.func (.func 207) #[] #[.pointer (some ⟨w.heap.size,0,none⟩)])∧w'=w.alloc (.cells #[.slice A n c] 24):=by
 go_enter Tryz.func200,Tryz.ntmps200
 go_wp2
 go_ret
 exact ⟨rfl,rfl⟩
theorem zNk {W:World} {m:Nat} {v v':Value} {a b:Nat} (h:LV W m v a) (h':LV W m v' b) (hm:m≤2000) (hT:Tab W):Calls Tryz.prog 188 #[v,v'] W (zTS W (a / Nat.gcd a b) (b / Nat.gcd a b)):=by
 have hgc:=zTo h h' hm hT
 have hgl:=zOZ h.bound h'.bound
 have hen: ∀args w,(callFunc 207 args).run Tryz.prog w= .ok (.enter 207 args) w:=enters_of Tryz.func207 (by kernel_rfl) rfl
 obtain ⟨g,hg⟩: ∃g,Nat.gcd a b=g:=⟨_,rfl⟩
 rw [hg] at hgc hgl ⊢
 rcases Nat.eq_zero_or_pos g with h0|h0
 ·have HZ:=hid h0
  go_enter Tryz.func188,Tryz.ntmps188
  go_wp2_with fail
  refine hgc.mono ?_
  rintro e w4 ⟨v4,rfl,⟨A4,n4,c4,l4,rfl,hi4,hr4⟩,hb4⟩
  obtain rfl:n4=0:=by rw [←hr4.len];exact hi4.zero_iff.1 HZ.out
  go_wp2_with fail
  go_ret2
  exact ⟨_,_,rfl,⟨none,0,0, [],rfl,by rw [HZ.out,Nat.div_zero];exact Is.nil,Rd.nil_ _⟩,⟨none,0,0, [],rfl,by rw [HZ.out,Nat.div_zero];exact Is.nil,Rd.nil_ _⟩,hb4⟩
 ·clear hg
  go_enter Tryz.func188,Tryz.ntmps188
  go_wp2_with fail
  refine hgc.mono ?_
  rintro e w4 ⟨v4,rfl,⟨A4,n4,c4,l4,rfl,hi4,hr4⟩,hb4⟩
  have hn4:0<n4:=by rw [←hr4.len];exact hi4.pos_iff.1 h0
  have hb5:=hb4.trans ((Below.refl _ w4).alloc (Nat.le_refl _) (.cells #[.slice A4 n4 c4] 24)|>.mono hb4.size)
  have x5:=Boxed.new w4 24 (.slice A4 n4 c4)
  obtain ⟨W5,hW5⟩: ∃W5,w4.alloc (.cells #[.slice A4 n4 c4] 24)=W5:=⟨_,rfl⟩
  rw [hW5] at hb5 x5
  have hg5:LV W5 m (.slice A4 n4 c4) g:=by rw [←hW5];exact (qH.lv ⟨A4,n4,c4,l4,rfl,hi4,hr4⟩ hgl).below ((Below.refl _ w4).alloc (Nat.le_refl _) _)
  have hby:=zSO A4 n4 c4 w4
  rw [hW5] at hby
  clear hW5
  go_wp2_with fail
  refine hby.mono ?_
  rintro e w6 ⟨rfl,rfl⟩
  go_wp2_with fail
  refine (zMu (h.below hb5) hg5 hm h0 x5.cell).mono ?_
  rintro e w7 ⟨v7,rfl,hv7,hb7⟩
  go_wp2_with fail
  refine (zMu ((h'.below hb5).below hb7) (hg5.below hb7) hm h0 ((hb7.cell (p:=⟨w4.heap.size,0,none⟩) (zZ x5.cell)).trans x5.cell)).mono ?_
  rintro e w8 ⟨v8,rfl,hv8,hb8⟩
  go_wp2_with fail
  go_ret2
  have t1:=hb5.trans (hb7.mono hb5.size)
  exact ⟨_,_,rfl,hv7.below hb8,hv8,t1.trans (hb8.mono t1.size)⟩
end Go.Proofs.Wd

namespace Go.Proofs.Wd
set_option maxRecDepth 100000
open Go.RowKit Lb
theorem zOz {W:World} {m:Nat} {v:Value} {x:Nat} (h:LV W m v x) (hm:m≤100000):Calls Tryz.prog 186 #[v] W (zMJ W x):=by
 obtain ⟨A,n,c,l,rfl,h1,h2,h3,rfl⟩:=h
 exact (qN A n c l W h1 h2 (by omega)).mono fun _ _=>q6.v
theorem Tab.bls {W w:World} {b:Nat} {cs:List Value} {te:TypeId} (hT:Tab W) (hb:W.heap[b]?=some (.cells cs.toArray te (0,0))) (h0: ∃s,cs[0]?=some (.bool s)) (hg:BlS (fun k=>k=b) W w):Tab w:=fun j hj=>by
 have h1:=hT j hj
 have hne:(0:Nat)≠b:=fun e=>by
  have h2:=hT 0 (by decide)
  obtain ⟨s,hs⟩:=h0
  unfold World.cell? at h2
  rw [show ((⟨0,0,none⟩:Addr).block)=b from e,hb] at h2
  simp [hs] at h2
 exact (World.cell?_of_block (a:=⟨0,j,none⟩) (hg.block _ (zZ h1) hne)).trans h1
theorem zHR {m:Nat} {k:Int} {d:Nat} {cs:List Value} {W:World} (h:QVp m k d (.agg cs.toArray) W): ∃s,cs[0]?=some (.bool s):=by
 obtain ⟨u,h1,s,rfl⟩:=zRt cs W h
 exact ⟨s,h1⟩
theorem zBL {m:Nat} {k:Int} {d:Nat} {cs:List Value} {W:World} (h:QVp m k d (.agg cs.toArray) W):cs.all yG=true:=by
 have:=(zEU (v:= .agg cs.toArray) h).2
 simpa [Value.cells] using this
theorem zFE {W:World} {v:Value} {x:Nat} (h:qH W v x):Calls Tryz.prog 164 #[v] W (Ret W (fNV (x:Int)).toSF):=by
 refine z7 [(qT x).toSF] Tryz.func164 rfl (by kernel_rfl) ⟨h,trivial⟩ fun a s=> ?_
 refine wpIn_seq ?_
 refine zB 0 [] hmix s (by kernel_rfl)
  zE fun a w1 s=> ?_
 refine zY (CU.len 2) (cs:= [.bool false, .slice none 0 0]) (by kernel_rfl) rfl s (by kernel_rfl) (fun W=>rfl) rfl fun b2 a w s=> ?_
 refine zA rfl ?_
 refine wpIn_seq ?_
 refine zB 2 ((3, .s ((qT x).toSF))::(4, .u (fNV (x:Int))):: []) hmix s (by kernel_rfl)
  (oc zC<|oc (zE2 (fun u W (hu:qH W u x)=>zMx hu))<|zE) fun a w2 s=> ?_
 refine zV (CU.agg (fNV (x:Int))) ((fNV (x:Int)).toSF) rfl s (by kernel_rfl) rfl rfl rfl iiz iiz zF7 fun a w s=> ?_
 refine zA rfl ?_
 refine wpIn_ret ?_
 exact StS.resC s (CU.agg (fNV (x:Int))) rfl (by kernel_rfl) rfl rfl (zOU _) (fun cs W h=>h)
theorem zPK {W:World} (z:Int) (hz: -9223372036854775808≤z∧z≤9223372036854775807):Calls Tryz.prog 135 #[.int .i64 z] W (Ret W (fQN (z:Rat)).toSF):=by
 refine z7 [(fI z).toSF] Tryz.func135 rfl (by kernel_rfl) ⟨rfl,trivial⟩ fun a s=> ?_
 refine wpIn_seq ?_
 refine zB 0 [] hmix s (by kernel_rfl)
  zE fun a w1 s=> ?_
 refine zY (CU.len 3) (cs:=zR3) (by kernel_rfl) rfl s (by kernel_rfl) (fun W=>rfl) rfl fun b2 a w s=> ?_
 refine zA rfl ?_
 refine wpIn_seq ?_
 refine zB 4 ((3, .s ((UF.eq (.int .i64 z)).toSF))::(4, .s ((fNV z).toSF))::(5, .s ((qT 1).toSF))::(6, .u (fQN (z:Rat))):: []) hmix s (by kernel_rfl)
  (oc zC<|oc (zI zD zSl (fun u0 W hb (h0:u0= .int .i64 z)=>by subst h0;exact zUh z hz))<|oc (zA2 (fun u W (hu:u= .int .u32 1)=>zOF hu))<|oc (qM (fun u v W (hu:NV W u z) (hv:qH W v 1)=>zHq (q:=(z:Rat)) hu hv))<|zE) fun a w2 s=> ?_
 refine zV (CU.agg (fQN (z:Rat))) ((fQN (z:Rat)).toSF) rfl s (by kernel_rfl) rfl rfl rfl iiz iiz yK fun a w s=> ?_
 refine zA rfl ?_
 refine wpIn_ret ?_
 exact StS.resC s (CU.agg (fQN (z:Rat))) rfl (by kernel_rfl) rfl rfl (qX _) (fun cs W h=>h)
theorem zPL {W:World} {b m:Nat} {k:Int} {d:Nat} {cs:List Value} (hh:W.heap[b]?=some (.cells cs.toArray 160 (0,0))) (hc:QVp m k d (.agg cs.toArray) W) (hm:m≤2000) (hd:d=0):Calls Tryz.prog 168 #[.pointer (some ⟨b,0,none⟩)] W (zMI W b 160 (CU.agg (fQN ((0:Int):Rat))) (UF.eq (.bool false)).toSF):=by
 have hz:true=decide (d=0):=(decide_eq_true hd).symm
 refine zFP b [(0,UF.eq (.pointer (some ⟨b,0,none⟩)))] [⟨0,160,CU.agg (fQV m k d),b,false⟩] Tryz.func168 rfl (by kernel_rfl) (fun q hq=>by simp at hq;subst hq;exact ⟨by simp,rfl⟩) ⟨⟨cs,rfl, .inr (.inr rfl),hh,hc,zBL hc,fun y hy=>by cases hy⟩,trivial⟩ (fun x hx=>by simp at hx;subst hx;simp) fun a s=> ?_
 refine wpIn_seq ?_
 refine zB 1 ((2, .u (UF.eq (.bool false))):: []) hmix s (by kernel_rfl)
  (oc zG<|zE) fun a w1 s=> ?_
 refine zA rfl ?_
 refine wpIn_seq ?_
 refine wpIn_seq ?_
 refine zB 8 ((3, .s (SF.pb b (CU.agg (fQV m k d)).cf))::(4, .s (SF.ptr (CU.agg (fQV m k d)).cf))::(5, .s (SF.ptr ((CU.agg (fQV m k d)).cf.at 0)))::(6, .s (SF.ptr ((CU.agg (fQV m k d)).cf.at 2)))::(7, .s ((fLV m d).toSF))::(8, .s ((qT d).toSF))::(9, .s (zO2 d))::(10, .u (UF.eq (.bool true))):: []) hmix s (by kernel_rfl)
  (oc zC<|oc (zAn (C:=(CU.agg (fQV m k d)).cf))<|oc (zN (C:=(CU.agg (fQV m k d)).cf) 0 (by kernel_rfl))<|oc (yT (C:=(CU.agg (fQV m k d)).cf) 0 2 (by kernel_rfl))<|oc (jE (C:=(CU.agg (fQV m k d)).cf) (k:=2) (by kernel_rfl) (h:=zGT))<|oc (zI zD zO5 (fun u0 W hb (h0:LV W m u0 d)=>zOz h0 (by omega)))<|oc (zDP (by kernel_rfl) iiz)<|oc (zDQ hz)<|zE) fun a w2 s=> ?_
 refine zA rfl ?_
 refine StS.cond s true iiz (fun e=> ?_) (fun e=>by cases e)
 refine wpIn_seq ?_
 refine zB 4 ((11, .s ((UF.eq (.pointer (some ⟨b,0,none⟩))).toSF))::(12, .u (fQN ((0:Int):Rat)))::(13, .s ((UF.eq (.pointer (some ⟨b,0,none⟩))).toSF))::(14, .u (UF.eq (.pointer (some ⟨b,0,none⟩)))):: []) hmix s (by kernel_rfl)
  (oc (zC (fun _ _ _ h=>h.1))<|oc (zI zD zSr (fun u0 W hb (h0:u0= .int .i64 0)=>by subst h0;exact zPK 0 (by decide)))<|oc (zBY (a:=⟨b,0,none⟩) iiz)<|oc (jK (b:=b) (o:=0) 0 (by kernel_rfl) iiz)<|zE) fun a w3 s=> ?_
 refine jP (c:=0) (o:=0) (kk:=3) (CU.agg (fQN ((0:Int):Rat))) ((fQN ((0:Int):Rat)).toSF) rfl s (by kernel_rfl) rfl rfl iiz iiz zM7 fun a w s=> ?_
 refine zA rfl ?_
 refine wpIn_seq ?_
 replace s:=s.drop [2]
 refine zB 1 ((2, .u (UF.eq (.bool false))):: []) hmix s (by kernel_rfl)
  (oc zG<|zE) fun a w4 s=> ?_
 refine zA rfl ?_
 refine wpIn_ret ?_
 exact StS.resS1 s (c:=0) (C:=CU.agg (fQN ((0:Int):Rat))) rfl rfl rfl rfl iiz
theorem zPM {W:World} {b m:Nat} {k:Int} {d:Nat} {cs:List Value} (hh:W.heap[b]?=some (.cells cs.toArray 160 (0,0))) (hc:QVp m k d (.agg cs.toArray) W) (hm:m≤2000) (hd0:0<d) (hT:Tab W):Calls Tryz.prog 168 #[.pointer (some ⟨b,0,none⟩)] W (zMI W b 160 (CU.agg (fQN (mkRat k d))) (UF.eq (.bool true)).toSF):=by
 have hz:false=decide (d=0):=(decide_eq_false (by omega)).symm
 have bk:k.natAbs<BB^m:=by obtain ⟨_,_,_,_,h1,_⟩:=hc;exact h1.bound
 have hred: ∀W u0 u1,Tab W→LV W m u0 k.natAbs→LV W m u1 d→Calls Tryz.prog 188 #[u0,u1] W (Ret W (SF.tup2 (qT (k.natAbs / Nat.gcd k.natAbs d)).toSF (qT (d / Nat.gcd k.natAbs d)).toSF)):=fun W u0 u1 hT h0 h1=>(zNk h0 h1 hm hT).mono fun e w' ⟨v,v',e1,h1,h2,hb⟩=>⟨_,e1,⟨v,v',rfl,h1,h2⟩,hb⟩
 refine zFP b [(0,UF.eq (.pointer (some ⟨b,0,none⟩)))] [⟨0,160,CU.agg (fQV m k d),b,false⟩] Tryz.func168 rfl (by kernel_rfl) (fun q hq=>by simp at hq;subst hq;exact ⟨by simp,rfl⟩) ⟨⟨cs,rfl, .inr (.inr rfl),hh,hc,zBL hc,fun y hy=>by cases hy⟩,trivial⟩ (fun x hx=>by simp at hx;subst hx;simp) fun a s=> ?_
 refine wpIn_seq ?_
 refine zB 1 ((2, .u (UF.eq (.bool false))):: []) hmix s (by kernel_rfl)
  (oc zG<|zE) fun a w1 s=> ?_
 refine zA rfl ?_
 refine wpIn_seq ?_
 refine wpIn_seq ?_
 refine zB 8 ((3, .s (SF.pb b (CU.agg (fQV m k d)).cf))::(4, .s (SF.ptr (CU.agg (fQV m k d)).cf))::(5, .s (SF.ptr ((CU.agg (fQV m k d)).cf.at 0)))::(6, .s (SF.ptr ((CU.agg (fQV m k d)).cf.at 2)))::(7, .s ((fLV m d).toSF))::(8, .s ((qT d).toSF))::(9, .s (zO2 d))::(10, .u (UF.eq (.bool false))):: []) hmix s (by kernel_rfl)
  (oc zC<|oc (zAn (C:=(CU.agg (fQV m k d)).cf))<|oc (zN (C:=(CU.agg (fQV m k d)).cf) 0 (by kernel_rfl))<|oc (yT (C:=(CU.agg (fQV m k d)).cf) 0 2 (by kernel_rfl))<|oc (jE (C:=(CU.agg (fQV m k d)).cf) (k:=2) (by kernel_rfl) (h:=zGT))<|oc (zI zD zO5 (fun u0 W hb (h0:LV W m u0 d)=>zOz h0 (by omega)))<|oc (zDP (by kernel_rfl) iiz)<|oc (zDQ hz)<|zE) fun a w2 s=> ?_
 refine zA rfl ?_
 refine StS.cond s false iiz (fun e=>by cases e) (fun e=> ?_)
 refine wpIn_skip ?_
 refine wpIn_seq ?_
 refine zB 10 ((15, .s ((UF.eq (.pointer (some ⟨b,0,none⟩))).toSF))::(16, .s (SF.pb b (CU.agg (fQV m k d)).cf))::(17, .s (SF.ptr (CU.agg (fQV m k d)).cf))::(18, .s (SF.ptr ((CU.agg (fQV m k d)).cf.at 0)))::(19, .s (SF.ptr ((CU.agg (fQV m k d)).cf.at 0)))::(20, .s ((fUV m k).toSF))::(21, .u (fNV k))::(22, .s ((UF.eq (.pointer (some ⟨b,0,none⟩))).toSF))::(23, .s ((UF.eq (.pointer (some ⟨b,0,none⟩))).toSF))::(24, .u (UF.eq (.pointer (some ⟨b,0,none⟩)))):: []) hmix s (by kernel_rfl)
  (oc (zC (fun _ _ _ h=>h.1))<|oc zC<|oc (zAn (C:=(CU.agg (fQV m k d)).cf))<|oc (zN (C:=(CU.agg (fQV m k d)).cf) 0 (by kernel_rfl))<|oc (yT (C:=(CU.agg (fQV m k d)).cf) 0 0 (by kernel_rfl))<|oc (zX (C:=(CU.agg (fQV m k d)).cf) (k:=0) 2 (by kernel_rfl) (h:=zLj))<|oc (zI zD zSd (fun u0 W hb (h0:UV W m u0 k)=>zRL h0 (by omega)))<|oc (zBY (a:=⟨b,0,none⟩) iiz)<|oc (jK (b:=b) (o:=0) 0 (by kernel_rfl) iiz)<|oc (jK (b:=b) (o:=0) 0 (by kernel_rfl) iiz)<|zE) fun a w3 s=> ?_
 refine jP (c:=0) (o:=0) (kk:=2) (CU.agg (fQM m k d)) ((fNV k).toSF) rfl s (by kernel_rfl) rfl rfl iiz iiz zPB fun a w s=> ?_
 refine zA rfl ?_
 refine wpIn_seq ?_
 refine yL [0,1,2,8] 15 ((26, .u (UF.eq (.pointer (some ⟨b,0,none⟩))))::(27, .u (UF.eq (.pointer (some ⟨b,0,none⟩))))::(28, .s (SF.pb b (CU.agg (fQM m k d)).cf))::(29, .s (SF.ptr (CU.agg (fQM m k d)).cf))::(30, .s (SF.ptr ((CU.agg (fQM m k d)).cf.at 0)))::(31, .s (SF.ptr ((CU.agg (fQM m k d)).cf.at 0)))::(32, .s (SF.ptr ((CU.agg (fQM m k d)).cf.at 1)))::(33, .s ((qT (k.natAbs)).toSF))::(34, .s (SF.pb b (CU.agg (fQM m k d)).cf))::(35, .s (SF.ptr (CU.agg (fQM m k d)).cf))::(36, .s (SF.ptr ((CU.agg (fQM m k d)).cf.at 0)))::(37, .s (SF.ptr ((CU.agg (fQM m k d)).cf.at 2)))::(38, .s ((fLV m d).toSF))::(39, .s ((zAQ (qT (k.natAbs / Nat.gcd k.natAbs d)) (qT (d / Nat.gcd k.natAbs d))).toSF))::(25, .u (zAQ (qT (k.natAbs / Nat.gcd k.natAbs d)) (qT (d / Nat.gcd k.natAbs d)))):: []) hmix s (by kernel_rfl)
  (oc (zC (fun _ _ _ h=>h.1))<|oc (zC (fun _ _ _ h=>h.1))<|oc zC<|oc (zAn (C:=(CU.agg (fQM m k d)).cf))<|oc (zN (C:=(CU.agg (fQM m k d)).cf) 0 (by kernel_rfl))<|oc (yT (C:=(CU.agg (fQM m k d)).cf) 0 0 (by kernel_rfl))<|oc (yT (C:=(CU.agg (fQM m k d)).cf) 0 1 (by kernel_rfl))<|oc (jE (C:=(CU.agg (fQM m k d)).cf) (k:=1) (by kernel_rfl) (h:=zRx))<|oc zC<|oc (zAn (C:=(CU.agg (fQM m k d)).cf))<|oc (zN (C:=(CU.agg (fQM m k d)).cf) 0 (by kernel_rfl))<|oc (yT (C:=(CU.agg (fQM m k d)).cf) 0 2 (by kernel_rfl))<|oc (jE (C:=(CU.agg (fQM m k d)).cf) (k:=2) (by kernel_rfl) (h:=zRw))<|oc (zH zD zSc (fun u0 u1 W hb (h0:qH W u0 (k.natAbs)) (h1:LV W m u1 d)=>hred W u0 u1 (hT.bls hh (zHR hc) (s.gr.trans hb)) (qH.lv h0 bk) h1))<|oc zC<|zE) fun Q' hQ a w4 s=> ?_
 refine zBH (qT (k.natAbs / Nat.gcd k.natAbs d)) rfl s (by kernel_rfl) (zAY (A:=(qT (k.natAbs / Nat.gcd k.natAbs d)).toSF) (B:=(qT (d / Nat.gcd k.natAbs d)).toSF) iiz) (by kernel_rfl) fun a w s=> ?_
 refine zBH (qT (d / Nat.gcd k.natAbs d)) rfl s (by kernel_rfl) (zAX (A:=(qT (k.natAbs / Nat.gcd k.natAbs d)).toSF) (B:=(qT (d / Nat.gcd k.natAbs d)).toSF) iiz) (by kernel_rfl) fun a w s=> ?_
 refine zBH (UF.eq (.pointer (some ⟨b,0,none⟩))) rfl s (by kernel_rfl) (zBY (a:=⟨b,0,none⟩) iiz) (by kernel_rfl) fun a w s=> ?_
 refine zBH (UF.eq (.pointer (some ⟨b,0,none⟩))) rfl s (by kernel_rfl) (jK (b:=b) (o:=0) 0 (by kernel_rfl) iiz) (by kernel_rfl) fun a w s=> ?_
 refine zBH (UF.eq (.pointer (some ⟨b,0,none⟩))) rfl s (by kernel_rfl) (jK (b:=b) (o:=0) 0 (by kernel_rfl) iiz) (by kernel_rfl) fun a w s=> ?_
 refine zBH (UF.eq (.pointer (some ⟨b,1,none⟩))) rfl s (by kernel_rfl) (jK (b:=b) (o:=0) 1 (by kernel_rfl) iiz) (by kernel_rfl) fun a w s=> ?_
 refine jP (c:=0) (o:=1) (kk:=1) (CU.agg (fQA m (decide (k<0)) (k.natAbs / Nat.gcd k.natAbs d) d)) ((qT (k.natAbs / Nat.gcd k.natAbs d)).toSF) rfl s (by kernel_rfl) rfl rfl iiz iiz zRa fun a w s=> ?_
 refine zBH (UF.eq (.pointer (some ⟨b,0,none⟩))) rfl s (by kernel_rfl) (zBY (a:=⟨b,0,none⟩) iiz) (by kernel_rfl) fun a w s=> ?_
 refine zBH (UF.eq (.pointer (some ⟨b,0,none⟩))) rfl s (by kernel_rfl) (jK (b:=b) (o:=0) 0 (by kernel_rfl) iiz) (by kernel_rfl) fun a w s=> ?_
 refine zBH (UF.eq (.pointer (some ⟨b,2,none⟩))) rfl s (by kernel_rfl) (jK (b:=b) (o:=0) 2 (by kernel_rfl) iiz) (by kernel_rfl) fun a w s=> ?_
 refine jP (c:=0) (o:=2) (kk:=1) (CU.agg (fQN (mkRat k d))) ((qT (d / Nat.gcd k.natAbs d)).toSF) rfl s (by kernel_rfl) rfl rfl iiz iiz (zQ9 (zB2 k d hd0).symm (zDo k d hd0).symm (zCp k d hd0).symm) fun a w s=> ?_
 refine zA rfl (hQ _ _ ?_)
 refine wpIn_seq ?_
 replace s:=s.drop [2]
 refine zB 1 ((2, .u (UF.eq (.bool true))):: []) hmix s (by kernel_rfl)
  (oc zG<|zE) fun a w5 s=> ?_
 refine zA rfl ?_
 refine wpIn_ret ?_
 exact StS.resS1 s (c:=0) (C:=CU.agg (fQN (mkRat k d))) rfl rfl rfl rfl iiz
theorem zEP {W:World} {b m:Nat} {k:Int} {d:Nat} {cs:List Value} (hh:W.heap[b]?=some (.cells cs.toArray 160 (0,0))) (hc:QVp m k d (.agg cs.toArray) W) (hm:m≤2000) (hT:Tab W):Calls Tryz.prog 168 #[.pointer (some ⟨b,0,none⟩)] W (zMI W b 160 (CU.agg (fQN (mkRat k d))) (UF.eq (.bool (decide (0<d)))).toSF):=by
 rcases Nat.eq_zero_or_pos d with h|h
 ·have:=zPL hh hc hm h
  rw [h,Rat.mkRat_zero,decide_eq_false (by omega)]
  exact this
 ·rw [decide_eq_true h]
  exact zPM hh hc hm h hT
end Go.Proofs.Wd

namespace Go.Proofs.Wd
set_option maxRecDepth 100000
open Go.RowKit Lb
theorem zTe {W:World} {m:Nat} {v:Value} {k:Int} {d:Nat} (h:QVp m k d v W) (hm:m≤2000) (hT:Tab W):Calls Tryz.prog 141 #[v] W (Ret W (SF.newBox W 160 (CU.agg (fQN (mkRat k d))))):=by
 refine z7 [(fQV m k d).toSF] Tryz.func141 rfl (by kernel_rfl) ⟨h,trivial⟩ fun a s=> ?_
 refine wpIn_seq ?_
 refine zB 0 [] hmix s (by kernel_rfl)
  zE fun a w1 s=> ?_
 refine yJ (CU.agg (fQV m k d)) rfl s (by kernel_rfl) (fun v W h=>zEU h) fun b1 a w s=> ?_
 refine yU (UF.eq (.pointer none)) rfl s (by kernel_rfl) iiz fun a w s=> ?_
 refine zA rfl ?_
 refine wpIn_seq ?_
 refine zB 2 ((4, .s ((fQV m k d).toSF))::(5, .u (fQV m k d)):: []) hmix s (by kernel_rfl)
  (oc (zK (f:=fQV m k d) 3 (by kernel_rfl) (hz:=zON _ _ _))<|oc (zE2 (fun u W (hu:QVp m k d u W)=>zSP hu))<|zE) fun a w2 s=> ?_
 refine yJ (CU.agg (fQV m k d)) rfl s (by kernel_rfl) (fun v W h=>zEU h) fun b6 a w s=> ?_
 refine zS7 rfl s (by kernel_rfl) fun a w s=> ?_
 refine zA rfl ?_
 refine wpIn_seq ?_
 refine zB 1 ((7, .u (UF.eq (.pointer (some ⟨b6,0,none⟩)))):: []) hmix s (by kernel_rfl)
  (oc (zC (fun _ _ _ h=>h.1))<|zE) fun a w3 s=> ?_
 refine zFI (c:=3) (CU.agg (fQN (mkRat k d))) (UF.any) rfl zD zMm s (by kernel_rfl) rfl rfl iiz (fun cs h1 h2=> ?_) fun a w s=> ?_
 ·exact (zEP h1 h2 hm (hT.below s.gr.below)).mono fun e w' ⟨v,g1,_,g2⟩=>⟨v,g1,trivial,g2⟩
 refine zA rfl ?_
 refine wpIn_seq ?_
 replace s:=s.drop [2]
 refine zB 2 ((9, .s (SF.pb b6 (CU.agg (fQN (mkRat k d))).cf))::(2, .u (UF.eq (.pointer (some ⟨b6,0,none⟩)))):: []) hmix s (by kernel_rfl)
  (oc zC<|oc (zG (fun _ _ _ h=>h.1))<|zE) fun a w4 s=> ?_
 refine zA rfl ?_
 refine wpIn_ret ?_
 exact StS.resNew s (t:=2) (c:=3) rfl rfl rfl iiz
theorem zNR {W:World} {b b' m m':Nat} {q q':Rat} {cs cs':List Value} (hh:W.heap[b]?=some (.cells cs.toArray 160 (0,0))) (hc:QNp q (.agg cs.toArray) W) (hh':W.heap[b']?=some (.cells cs'.toArray 160 (0,0))) (hc':QNp q' (.agg cs'.toArray) W) (hne:b'≠b) (hq:QB q m) (hq':QB q' m') (hm:m+m'+1≤2000) (hT:Tab W):Calls Tryz.prog 152 #[.pointer (some ⟨b,0,none⟩), .pointer (some ⟨b',0,none⟩)] W (zMI W b 160 (CU.agg (fQN (q+q'))) SF.any):=by
 have bk:Bd (((q).num*(((q').den:Nat):Int))+((q').num*(((q).den:Nat):Int))) (m+m'+1):=hq.num_add hq'
 rw [Rat.add_def']
 refine zFP b [(0,UF.eq (.pointer (some ⟨b,0,none⟩))),(1,UF.eq (.pointer (some ⟨b',0,none⟩)))] [⟨0,160,CU.agg (fQN q),b,false⟩,⟨1,160,CU.agg (fQN q'),b',true⟩] Tryz.func152 rfl (by kernel_rfl) (fun x hx=>by simp at hx;rcases hx with rfl|rfl<;>exact ⟨by simp,rfl⟩) ⟨⟨cs,rfl, .inr (.inr rfl),hh,hc,zBL (zHS hc hq),fun y hy=>by simp at hy;subst hy;exact .inl hne⟩,⟨cs',rfl, .inl rfl,hh',hc',zBL (zHS hc' hq'),fun y hy=>by cases hy⟩,trivial⟩ (fun x hx=>by simp at hx;rcases hx with rfl|rfl<;>simp) fun a s=> ?_
 refine wpIn_seq ?_
 refine yL [0,1,6,14,19] 32 ((4, .s ((UF.eq (.pointer (some ⟨b,0,none⟩))).toSF))::(5, .s (SF.pb b (CU.agg (fQN q)).cf))::(6, .s (SF.ptr (CU.agg (fQN q)).cf))::(7, .s (SF.ptr ((CU.agg (fQN q)).cf.at 0)))::(8, .s (SF.ptr ((CU.agg (fQN q)).cf.at 0)))::(9, .s ((fNV ((q).num)).toSF))::(10, .s (SF.pb b' (CU.agg (fQN q')).cf))::(11, .s (SF.ptr (CU.agg (fQN q')).cf))::(12, .s (SF.ptr ((CU.agg (fQN q')).cf.at 0)))::(13, .s (SF.ptr ((CU.agg (fQN q')).cf.at 2)))::(14, .s ((qT ((q').den)).toSF))::(15, .s ((fNV (((q').den:Nat):Int)).toSF))::(16, .s (zKa (m+m') [(q).num,(((q').den:Nat):Int)]))::(17, .s ((fNV ((q).num*(((q').den:Nat):Int))).toSF))::(18, .s (SF.pb b' (CU.agg (fQN q')).cf))::(19, .s (SF.ptr (CU.agg (fQN q')).cf))::(20, .s (SF.ptr ((CU.agg (fQN q')).cf.at 0)))::(21, .s (SF.ptr ((CU.agg (fQN q')).cf.at 0)))::(22, .s ((fNV ((q').num)).toSF))::(23, .s (SF.pb b (CU.agg (fQN q)).cf))::(24, .s (SF.ptr (CU.agg (fQN q)).cf))::(25, .s (SF.ptr ((CU.agg (fQN q)).cf.at 0)))::(26, .s (SF.ptr ((CU.agg (fQN q)).cf.at 2)))::(27, .s ((qT ((q).den)).toSF))::(28, .s ((fNV (((q).den:Nat):Int)).toSF))::(29, .s (zKa (m+m') [(q').num,(((q).den:Nat):Int)]))::(30, .s ((fNV ((q').num*(((q).den:Nat):Int))).toSF))::(31, .s (zKa (m+m') [((q).num*(((q').den:Nat):Int)),((q').num*(((q).den:Nat):Int))]))::(32, .u (fNV (((q).num*(((q').den:Nat):Int))+((q').num*(((q).den:Nat):Int)))))::(33, .s ((UF.eq (.pointer (some ⟨b,0,none⟩))).toSF))::(34, .s ((UF.eq (.pointer (some ⟨b,0,none⟩))).toSF))::(35, .u (UF.eq (.pointer (some ⟨b,0,none⟩)))):: []) hmix s (by kernel_rfl)
  (oc (zC (fun _ _ _ h=>h.1))<|oc zC<|oc (zAn (C:=(CU.agg (fQN q)).cf))<|oc (zN (C:=(CU.agg (fQN q)).cf) 0 (by kernel_rfl))<|oc (yT (C:=(CU.agg (fQN q)).cf) 0 0 (by kernel_rfl))<|oc (zX (C:=(CU.agg (fQN q)).cf) (k:=0) 2 (by kernel_rfl) (h:=zA9))<|oc zC<|oc (zAn (C:=(CU.agg (fQN q')).cf))<|oc (zN (C:=(CU.agg (fQN q')).cf) 0 (by kernel_rfl))<|oc (yT (C:=(CU.agg (fQN q')).cf) 0 2 (by kernel_rfl))<|oc (jE (C:=(CU.agg (fQN q')).cf) (k:=2) (by kernel_rfl) (h:=zAR))<|oc (zI zD zJs (fun u0 W hb (h0:qH W u0 ((q').den))=>zFE h0))<|oc (yE (fun u v W (hu:NV W u ((q).num)) (hv:NV W v (((q').den:Nat):Int))=>zAV (NV.uv' hu (Bd.mono (hq).1 (m':=(m+m')) (by first|omega|decide))) (NV.uv' hv (Bd.mono (qP hq'.2) (m':=(m+m')) (by first|omega|decide)))))<|oc (zI zD zHk (fun u0 W hb (h0:ISV W (m+m') u0 [(q).num,(((q').den:Nat):Int)])=>zLN (k:=((q).num*(((q').den:Nat):Int))) h0 (by show (m+m')*2+(m+m')+1≤40000;omega) (by simp) (by simp)))<|oc zC<|oc (zAn (C:=(CU.agg (fQN q')).cf))<|oc (zN (C:=(CU.agg (fQN q')).cf) 0 (by kernel_rfl))<|oc (yT (C:=(CU.agg (fQN q')).cf) 0 0 (by kernel_rfl))<|oc (zX (C:=(CU.agg (fQN q')).cf) (k:=0) 2 (by kernel_rfl) (h:=zA9))<|oc zC<|oc (zAn (C:=(CU.agg (fQN q)).cf))<|oc (zN (C:=(CU.agg (fQN q)).cf) 0 (by kernel_rfl))<|oc (yT (C:=(CU.agg (fQN q)).cf) 0 2 (by kernel_rfl))<|oc (jE (C:=(CU.agg (fQN q)).cf) (k:=2) (by kernel_rfl) (h:=zAR))<|oc (zI zD zJs (fun u0 W hb (h0:qH W u0 ((q).den))=>zFE h0))<|oc (yE (fun u v W (hu:NV W u ((q').num)) (hv:NV W v (((q).den:Nat):Int))=>zAV (NV.uv' hu (Bd.mono (hq').1 (m':=(m+m')) (by first|omega|decide))) (NV.uv' hv (Bd.mono (qP hq.2) (m':=(m+m')) (by first|omega|decide)))))<|oc (zI zD zHk (fun u0 W hb (h0:ISV W (m+m') u0 [(q').num,(((q).den:Nat):Int)])=>zLN (k:=((q').num*(((q).den:Nat):Int))) h0 (by show (m+m')*2+(m+m')+1≤40000;omega) (by simp) (by simp)))<|oc (yE (fun u v W (hu:NV W u ((q).num*(((q').den:Nat):Int))) (hv:NV W v ((q').num*(((q).den:Nat):Int)))=>zAV (NV.uv' hu (Bd.mono (Bd.mul (hq).1 (qP hq'.2)) (by omega))) (NV.uv' hv (Bd.mono (Bd.mul (hq').1 (qP hq.2)) (by omega)))))<|oc (zI zD zSi (fun u0 W hb (h0:ISV W (m+m') u0 [((q).num*(((q').den:Nat):Int)),((q').num*(((q).den:Nat):Int))])=>zTO (k:=(((q).num*(((q').den:Nat):Int))+((q').num*(((q).den:Nat):Int)))) h0 (by omega) (by simp) (by simp)))<|oc (zBY (a:=⟨b,0,none⟩) iiz)<|oc (jK (b:=b) (o:=0) 0 (by kernel_rfl) iiz)<|oc (jK (b:=b) (o:=0) 0 (by kernel_rfl) iiz)<|zE) fun Q' hQ a w1 s=> ?_
 refine jP (c:=0) (o:=0) (kk:=2) (CU.agg (fQK (((q).num*(((q').den:Nat):Int))+((q').num*(((q).den:Nat):Int))) ((q).den))) ((fNV (((q).num*(((q').den:Nat):Int))+((q').num*(((q).den:Nat):Int)))).toSF) rfl s (by kernel_rfl) rfl rfl iiz iiz (zHF (k0:=q.num) (d:=q.den)) fun a w s=> ?_
 refine zA rfl (hQ _ _ ?_)
 refine wpIn_seq ?_
 refine yL [0,1,6] 15 ((36, .s ((UF.eq (.pointer (some ⟨b,0,none⟩))).toSF))::(37, .s (SF.pb b (CU.agg (fQK (((q).num*(((q').den:Nat):Int))+((q').num*(((q).den:Nat):Int))) ((q).den))).cf))::(38, .s (SF.ptr (CU.agg (fQK (((q).num*(((q').den:Nat):Int))+((q').num*(((q).den:Nat):Int))) ((q).den))).cf))::(39, .s (SF.ptr ((CU.agg (fQK (((q).num*(((q').den:Nat):Int))+((q').num*(((q).den:Nat):Int))) ((q).den))).cf.at 0)))::(40, .s (SF.ptr ((CU.agg (fQK (((q).num*(((q').den:Nat):Int))+((q').num*(((q).den:Nat):Int))) ((q).den))).cf.at 2)))::(41, .s ((qT ((q).den)).toSF))::(42, .s (SF.pb b' (CU.agg (fQN q')).cf))::(43, .s (SF.ptr (CU.agg (fQN q')).cf))::(44, .s (SF.ptr ((CU.agg (fQN q')).cf.at 0)))::(45, .s (SF.ptr ((CU.agg (fQN q')).cf.at 2)))::(46, .s ((qT ((q').den)).toSF))::(47, .u (qT (((q).den)*((q').den))))::(48, .s ((UF.eq (.pointer (some ⟨b,0,none⟩))).toSF))::(49, .s ((UF.eq (.pointer (some ⟨b,0,none⟩))).toSF))::(50, .u (UF.eq (.pointer (some ⟨b,2,none⟩)))):: []) hmix s (by kernel_rfl)
  (oc (zC (fun _ _ _ h=>h.1))<|oc zC<|oc (zAn (C:=(CU.agg (fQK (((q).num*(((q').den:Nat):Int))+((q').num*(((q).den:Nat):Int))) ((q).den))).cf))<|oc (zN (C:=(CU.agg (fQK (((q).num*(((q').den:Nat):Int))+((q').num*(((q).den:Nat):Int))) ((q).den))).cf) 0 (by kernel_rfl))<|oc (yT (C:=(CU.agg (fQK (((q).num*(((q').den:Nat):Int))+((q').num*(((q).den:Nat):Int))) ((q).den))).cf) 0 2 (by kernel_rfl))<|oc (jE (C:=(CU.agg (fQK (((q).num*(((q').den:Nat):Int))+((q').num*(((q).den:Nat):Int))) ((q).den))).cf) (k:=2) (by kernel_rfl) (h:=zRz))<|oc zC<|oc (zAn (C:=(CU.agg (fQN q')).cf))<|oc (zN (C:=(CU.agg (fQN q')).cf) 0 (by kernel_rfl))<|oc (yT (C:=(CU.agg (fQN q')).cf) 0 2 (by kernel_rfl))<|oc (jE (C:=(CU.agg (fQN q')).cf) (k:=2) (by kernel_rfl) (h:=zAR))<|oc (zH zD zO6 (fun u0 u1 W hb (h0:qH W u0 ((q).den)) (h1:qH W u1 ((q').den))=>zRN (LV.mono (qH.lv h0 hq.2) (m':=(m+m')) (by omega)) (LV.mono (qH.lv h1 hq'.2) (m':=(m+m')) (by omega)) (by omega)))<|oc (zBY (a:=⟨b,0,none⟩) iiz)<|oc (jK (b:=b) (o:=0) 0 (by kernel_rfl) iiz)<|oc (jK (b:=b) (o:=0) 2 (by kernel_rfl) iiz)<|zE) fun Q' hQ a w2 s=> ?_
 refine jP (c:=0) (o:=2) (kk:=1) (CU.agg (fQK (((q).num*(((q').den:Nat):Int))+((q').num*(((q).den:Nat):Int))) (((q).den)*((q').den)))) ((qT (((q).den)*((q').den))).toSF) rfl s (by kernel_rfl) rfl rfl iiz iiz zKC fun a w s=> ?_
 refine zA rfl (hQ _ _ ?_)
 refine zB 1 ((51, .u (UF.eq (.pointer (some ⟨b,0,none⟩)))):: []) hmix s (by kernel_rfl)
  (oc (zC (fun _ _ _ h=>h.1))<|zE) fun a w3 s=> ?_
 refine zFI (c:=0) (CU.agg (fQN (mkRat (((q).num*(((q').den:Nat):Int))+((q').num*(((q).den:Nat):Int))) ((q).den*(q').den)))) (UF.any) rfl zD zMm s (by kernel_rfl) rfl rfl iiz (fun cs h1 h2=> ?_) fun a w s=> ?_
 ·exact (zEP (m:=m+m'+1) h1 (zRy h2 bk (Nat.lt_of_lt_of_le (hq.den_mul hq') (Nat.pow_le_pow_right yZ (by omega)))) (by omega) (hT.bls hh (zHR (zHS hc hq)) s.gr)).mono fun e w' ⟨v,g1,_,g2⟩=>⟨v,g1,trivial,g2⟩
 refine zA rfl ?_
 exact StS.resS0 s (c:=0) (C:=CU.agg (fQN (mkRat (((q).num*(((q').den:Nat):Int))+((q').num*(((q).den:Nat):Int))) ((q).den*(q').den)))) rfl rfl rfl rfl (fun _=>trivial)
theorem zNQ {W:World} {b b' m m':Nat} {q q':Rat} {cs cs':List Value} (hh:W.heap[b]?=some (.cells cs.toArray 160 (0,0))) (hc:QNp q (.agg cs.toArray) W) (hh':W.heap[b']?=some (.cells cs'.toArray 160 (0,0))) (hc':QNp q' (.agg cs'.toArray) W) (hne:b'≠b) (hq:QB q m) (hq':QB q' m') (hm:m+m'+1≤2000) (hT:Tab W):Calls Tryz.prog 169 #[.pointer (some ⟨b,0,none⟩), .pointer (some ⟨b',0,none⟩)] W (zMI W b 160 (CU.agg (fQN (q*q'))) SF.any):=by
 have bk:Bd ((q).num*(q').num) (m+m'+1):=(hq.1.mul hq'.1).mono (by omega)
 rw [Rat.mul_def']
 refine zFP b [(0,UF.eq (.pointer (some ⟨b,0,none⟩))),(1,UF.eq (.pointer (some ⟨b',0,none⟩)))] [⟨0,160,CU.agg (fQN q),b,false⟩,⟨1,160,CU.agg (fQN q'),b',true⟩] Tryz.func169 rfl (by kernel_rfl) (fun x hx=>by simp at hx;rcases hx with rfl|rfl<;>exact ⟨by simp,rfl⟩) ⟨⟨cs,rfl, .inr (.inr rfl),hh,hc,zBL (zHS hc hq),fun y hy=>by simp at hy;subst hy;exact .inl hne⟩,⟨cs',rfl, .inl rfl,hh',hc',zBL (zHS hc' hq'),fun y hy=>by cases hy⟩,trivial⟩ (fun x hx=>by simp at hx;rcases hx with rfl|rfl<;>simp) fun a s=> ?_
 refine wpIn_seq ?_
 refine yL [0,1,2,7,14,19] 28 ((4, .s ((UF.eq (.pointer (some ⟨b,0,none⟩))).toSF))::(5, .u (UF.eq (.pointer (some ⟨b,0,none⟩))))::(6, .s (SF.pb b (CU.agg (fQN q)).cf))::(7, .s (SF.ptr (CU.agg (fQN q)).cf))::(8, .s (SF.ptr ((CU.agg (fQN q)).cf.at 0)))::(9, .s (SF.ptr ((CU.agg (fQN q)).cf.at 0)))::(10, .s ((fNV ((q).num)).toSF))::(11, .s (SF.pb b' (CU.agg (fQN q')).cf))::(12, .s (SF.ptr (CU.agg (fQN q')).cf))::(13, .s (SF.ptr ((CU.agg (fQN q')).cf.at 0)))::(14, .s (SF.ptr ((CU.agg (fQN q')).cf.at 0)))::(15, .s ((fNV ((q').num)).toSF))::(16, .s (zKa (m+m') [(q).num,(q').num]))::(17, .u (fNV ((q).num*(q').num)))::(18, .s (SF.pb b (CU.agg (fQN q)).cf))::(19, .s (SF.ptr (CU.agg (fQN q)).cf))::(20, .s (SF.ptr ((CU.agg (fQN q)).cf.at 0)))::(21, .s (SF.ptr ((CU.agg (fQN q)).cf.at 2)))::(22, .s ((qT ((q).den)).toSF))::(23, .s (SF.pb b' (CU.agg (fQN q')).cf))::(24, .s (SF.ptr (CU.agg (fQN q')).cf))::(25, .s (SF.ptr ((CU.agg (fQN q')).cf.at 0)))::(26, .s (SF.ptr ((CU.agg (fQN q')).cf.at 2)))::(27, .s ((qT ((q').den)).toSF))::(28, .u (qT (((q).den)*((q').den))))::(29, .s ((UF.eq (.pointer (some ⟨b,0,none⟩))).toSF))::(30, .s ((UF.eq (.pointer (some ⟨b,0,none⟩))).toSF))::(31, .u (UF.eq (.pointer (some ⟨b,0,none⟩)))):: []) hmix s (by kernel_rfl)
  (oc (zC (fun _ _ _ h=>h.1))<|oc (zC (fun _ _ _ h=>h.1))<|oc zC<|oc (zAn (C:=(CU.agg (fQN q)).cf))<|oc (zN (C:=(CU.agg (fQN q)).cf) 0 (by kernel_rfl))<|oc (yT (C:=(CU.agg (fQN q)).cf) 0 0 (by kernel_rfl))<|oc (zX (C:=(CU.agg (fQN q)).cf) (k:=0) 2 (by kernel_rfl) (h:=zA9))<|oc zC<|oc (zAn (C:=(CU.agg (fQN q')).cf))<|oc (zN (C:=(CU.agg (fQN q')).cf) 0 (by kernel_rfl))<|oc (yT (C:=(CU.agg (fQN q')).cf) 0 0 (by kernel_rfl))<|oc (zX (C:=(CU.agg (fQN q')).cf) (k:=0) 2 (by kernel_rfl) (h:=zA9))<|oc (yE (fun u v W (hu:NV W u ((q).num)) (hv:NV W v ((q').num))=>zAV (NV.uv' hu (Bd.mono (hq).1 (m':=(m+m')) (by first|omega|decide))) (NV.uv' hv (Bd.mono (hq').1 (m':=(m+m')) (by first|omega|decide)))))<|oc (zI zD zHk (fun u0 W hb (h0:ISV W (m+m') u0 [(q).num,(q').num])=>zLN (k:=((q).num*(q').num)) h0 (by show (m+m')*2+(m+m')+1≤40000;omega) (by simp) (by simp)))<|oc zC<|oc (zAn (C:=(CU.agg (fQN q)).cf))<|oc (zN (C:=(CU.agg (fQN q)).cf) 0 (by kernel_rfl))<|oc (yT (C:=(CU.agg (fQN q)).cf) 0 2 (by kernel_rfl))<|oc (jE (C:=(CU.agg (fQN q)).cf) (k:=2) (by kernel_rfl) (h:=zAR))<|oc zC<|oc (zAn (C:=(CU.agg (fQN q')).cf))<|oc (zN (C:=(CU.agg (fQN q')).cf) 0 (by kernel_rfl))<|oc (yT (C:=(CU.agg (fQN q')).cf) 0 2 (by kernel_rfl))<|oc (jE (C:=(CU.agg (fQN q')).cf) (k:=2) (by kernel_rfl) (h:=zAR))<|oc (zH zD zO6 (fun u0 u1 W hb (h0:qH W u0 ((q).den)) (h1:qH W u1 ((q').den))=>zRN (LV.mono (qH.lv h0 hq.2) (m':=(m+m')) (by omega)) (LV.mono (qH.lv h1 hq'.2) (m':=(m+m')) (by omega)) (by omega)))<|oc (zBY (a:=⟨b,0,none⟩) iiz)<|oc (jK (b:=b) (o:=0) 0 (by kernel_rfl) iiz)<|oc (jK (b:=b) (o:=0) 0 (by kernel_rfl) iiz)<|zE) fun Q' hQ a w1 s=> ?_
 refine jP (c:=0) (o:=0) (kk:=2) (CU.agg (fQK ((q).num*(q').num) ((q).den))) ((fNV ((q).num*(q').num)).toSF) rfl s (by kernel_rfl) rfl rfl iiz iiz (zHF (k0:=q.num) (d:=q.den)) fun a w s=> ?_
 refine zBH (UF.eq (.pointer (some ⟨b,0,none⟩))) rfl s (by kernel_rfl) (zBY (a:=⟨b,0,none⟩) iiz) (by kernel_rfl) fun a w s=> ?_
 refine zBH (UF.eq (.pointer (some ⟨b,0,none⟩))) rfl s (by kernel_rfl) (jK (b:=b) (o:=0) 0 (by kernel_rfl) iiz) (by kernel_rfl) fun a w s=> ?_
 refine zBH (UF.eq (.pointer (some ⟨b,2,none⟩))) rfl s (by kernel_rfl) (jK (b:=b) (o:=0) 2 (by kernel_rfl) iiz) (by kernel_rfl) fun a w s=> ?_
 refine jP (c:=0) (o:=2) (kk:=1) (CU.agg (fQK ((q).num*(q').num) (((q).den)*((q').den)))) ((qT (((q).den)*((q').den))).toSF) rfl s (by kernel_rfl) rfl rfl iiz iiz zKC fun a w s=> ?_
 refine zA rfl (hQ _ _ ?_)
 refine zB 1 ((35, .u (UF.eq (.pointer (some ⟨b,0,none⟩)))):: []) hmix s (by kernel_rfl)
  (oc (zC (fun _ _ _ h=>h.1))<|zE) fun a w2 s=> ?_
 refine zFI (c:=0) (CU.agg (fQN (mkRat ((q).num*(q').num) ((q).den*(q').den)))) (UF.any) rfl zD zMm s (by kernel_rfl) rfl rfl iiz (fun cs h1 h2=> ?_) fun a w s=> ?_
 ·exact (zEP (m:=m+m'+1) h1 (zRy h2 bk (Nat.lt_of_lt_of_le (hq.den_mul hq') (Nat.pow_le_pow_right yZ (by omega)))) (by omega) (hT.bls hh (zHR (zHS hc hq)) s.gr)).mono fun e w' ⟨v,g1,_,g2⟩=>⟨v,g1,trivial,g2⟩
 refine zA rfl ?_
 exact StS.resS0 s (c:=0) (C:=CU.agg (fQN (mkRat ((q).num*(q').num) ((q).den*(q').den)))) rfl rfl rfl rfl (fun _=>trivial)
end Go.Proofs.Wd

namespace Go.Proofs.Wd
set_option maxRecDepth 100000
open Go.RowKit Lb
theorem zKU {W:World} {m:Nat} {v:Value} {q:Rat} (h:RVp m q v W) (hm:m≤2000) (hT:Tab W):Calls Tryz.prog 141 #[v] W (Ret W (SF.newBox W 160 (CU.agg (fQN q)))):=by
 obtain ⟨k,d,h1,rfl⟩:=h
 exact zTe h1 hm hT
theorem zPV {W:World} {m:Nat} {v:Value} {q:Rat} (h:RVp m q v W) (hm:m≤2000) (hm0:0<m) (hT:Tab W):Calls Tryz.prog 107 #[v] W (Ret W (fI q.num.sign).toSF):=by
 have hq:QB q m:=h.qb hm0
 refine z7 [(fRV m q).toSF] Tryz.func107 rfl (by kernel_rfl) ⟨h,trivial⟩ fun a s=> ?_
 refine wpIn_seq ?_
 refine zB 0 [] hmix s (by kernel_rfl)
  zE fun a w1 s=> ?_
 refine yJ (CU.agg (fRV m q)) rfl s (by kernel_rfl) (fun v W h=>jT h) fun b1 a w s=> ?_
 refine yU (UF.eq (.int .i64 0)) rfl s (by kernel_rfl) iiz fun a w s=> ?_
 refine zA rfl ?_
 refine wpIn_seq ?_
 replace s:=s.drop [2]
 refine zB 8 ((3, .s ((fRV m q).toSF))::(4, .s (SF.newBox w 160 (CU.agg (fQN q))))::(5, .s (SF.ptr (CU.agg (fQN q)).cf))::(6, .s (SF.ptr ((CU.agg (fQN q)).cf.at 0)))::(7, .s (SF.ptr ((CU.agg (fQN q)).cf.at 0)))::(8, .s ((fNV ((q).num)).toSF))::(9, .s ((UF.eq (.int .i64 (q.num.sign))).toSF))::(2, .u (UF.eq (.int .i64 (q.num.sign)))):: []) hmix s (by kernel_rfl)
  (oc (zK (f:=fRV m q) 3 (by kernel_rfl) (hz:=qD _ _))<|oc (zI zD zJu (fun u0 W hb (h0:RVp m q u0 W)=>(zKU h0 (by omega) (hT.below (s.up hb))).mono (Ret.to (zCG hb.size))))<|oc (zAn (C:=(CU.agg (fQN q)).cf) zJ4)<|oc (zN (C:=(CU.agg (fQN q)).cf) 0 (by kernel_rfl))<|oc (yT (C:=(CU.agg (fQN q)).cf) 0 0 (by kernel_rfl))<|oc (zX (C:=(CU.agg (fQN q)).cf) (k:=0) 2 (by kernel_rfl) (h:=zA9))<|oc (zI zD zSo (fun u0 W hb (h0:NV W u0 ((q).num))=>zEz (zRg (NV.uv' h0 (hq).1) (by omega))))<|oc zG<|zE) fun a w2 s=> ?_
 refine zA rfl ?_
 refine wpIn_ret ?_
 exact StS.res1 s (t:=2) rfl iiz
theorem zD5 {W:World} {m:Nat} {v v':Value} {q q':Rat} (h:RVp m q v W) (h':RVp m q' v' W) (hm:m≤2000) (hm0:0<m) (hT:Tab W):Calls Tryz.prog 136 #[v,v'] W (Ret W (fI (qsg q q')).toSF):=by
 have hq:QB q m:=h.qb hm0
 have hq':QB q' m:=h'.qb hm0
 refine z7 [(fRV m q).toSF,(fRV m q').toSF] Tryz.func136 rfl (by kernel_rfl) ⟨h,h',trivial⟩ fun a s=> ?_
 refine wpIn_seq ?_
 refine zB 0 [] hmix s (by kernel_rfl)
  zE fun a w1 s=> ?_
 refine yJ (CU.agg (fRV m q)) rfl s (by kernel_rfl) (fun v W h=>jT h) fun b2 a w s=> ?_
 refine yJ (CU.agg (fRV m q')) rfl s (by kernel_rfl) (fun v W h=>jT h) fun b3 a w s=> ?_
 refine yU (UF.eq (.int .i64 0)) rfl s (by kernel_rfl) iiz fun a w s=> ?_
 refine zA rfl ?_
 refine wpIn_seq ?_
 have so:=s.old;have sg:=s.gr
 refine jW 6 ((7, .s ((fRV m q).toSF))::(8, .s (SF.newBox w 160 (CU.agg (fQN q))))::(9, .s ((fRV m q').toSF))::(10, .s (SF.newBox w 160 (CU.agg (fQN q'))))::(5, .s (SF.newBox w 160 (CU.agg (fQN q))))::(6, .s (SF.newBox w 160 (CU.agg (fQN q')))):: []) hmix s (by kernel_rfl)
  (oc (zK (f:=fRV m q) 3 (by kernel_rfl) (hz:=qD _ _))<|oc (zI zD zJu (fun u0 W hb (h0:RVp m q u0 W)=>(zKU h0 (by omega) (hT.below (s.up hb))).mono (Ret.to (zCG hb.size))))<|oc (zK (f:=fRV m q') 3 (by kernel_rfl) (hz:=qD _ _))<|oc (zI zD zJu (fun u0 W hb (h0:RVp m q' u0 W)=>(zKU h0 (by omega) (hT.below (s.up hb))).mono (Ret.to (zCG hb.size))))<|oc zG<|oc zG<|zE) fun a w2 s hr=> ?_
 obtain ⟨b5,_,s⟩:=s.adopt true 5 (hr (_,_) mz4) sg (fun y hy=> .inl (so y hy))
 obtain ⟨b6,_,s⟩:=s.adopt true 6 (hr (_,_) mz5) sg (fun y hy=>by rcases List.mem_cons.1 hy with rfl|hy;exact .inr ⟨rfl,rfl⟩;exact .inl (so y hy))
 refine zA rfl ?_
 refine wpIn_seq ?_
 replace s:=s.drop [4]
 refine zB 28 ((11, .s (SF.pb b5 (CU.agg (fQN q)).cf))::(12, .s (SF.ptr (CU.agg (fQN q)).cf))::(13, .s (SF.ptr ((CU.agg (fQN q)).cf.at 0)))::(14, .s (SF.ptr ((CU.agg (fQN q)).cf.at 0)))::(15, .s ((fNV ((q).num)).toSF))::(16, .s (SF.pb b6 (CU.agg (fQN q')).cf))::(17, .s (SF.ptr (CU.agg (fQN q')).cf))::(18, .s (SF.ptr ((CU.agg (fQN q')).cf.at 0)))::(19, .s (SF.ptr ((CU.agg (fQN q')).cf.at 2)))::(20, .s ((qT ((q').den)).toSF))::(21, .s ((fNV (((q').den:Nat):Int)).toSF))::(22, .s (zKa (m+m) [(q).num,(((q').den:Nat):Int)]))::(23, .s ((fNV ((q).num*(((q').den:Nat):Int))).toSF))::(24, .s (SF.pb b6 (CU.agg (fQN q')).cf))::(25, .s (SF.ptr (CU.agg (fQN q')).cf))::(26, .s (SF.ptr ((CU.agg (fQN q')).cf.at 0)))::(27, .s (SF.ptr ((CU.agg (fQN q')).cf.at 0)))::(28, .s ((fNV ((q').num)).toSF))::(29, .s (SF.pb b5 (CU.agg (fQN q)).cf))::(30, .s (SF.ptr (CU.agg (fQN q)).cf))::(31, .s (SF.ptr ((CU.agg (fQN q)).cf.at 0)))::(32, .s (SF.ptr ((CU.agg (fQN q)).cf.at 2)))::(33, .s ((qT ((q).den)).toSF))::(34, .s ((fNV (((q).den:Nat):Int)).toSF))::(35, .s (zKa (m+m) [(q').num,(((q).den:Nat):Int)]))::(36, .s ((fNV ((q').num*(((q).den:Nat):Int))).toSF))::(37, .s ((UF.eq (.int .i64 (qsg q q'))).toSF))::(4, .u (UF.eq (.int .i64 (qsg q q')))):: []) hmix s (by kernel_rfl)
  (oc zC<|oc (zAn (C:=(CU.agg (fQN q)).cf))<|oc (zN (C:=(CU.agg (fQN q)).cf) 0 (by kernel_rfl))<|oc (yT (C:=(CU.agg (fQN q)).cf) 0 0 (by kernel_rfl))<|oc (zX (C:=(CU.agg (fQN q)).cf) (k:=0) 2 (by kernel_rfl) (h:=zA9))<|oc zC<|oc (zAn (C:=(CU.agg (fQN q')).cf))<|oc (zN (C:=(CU.agg (fQN q')).cf) 0 (by kernel_rfl))<|oc (yT (C:=(CU.agg (fQN q')).cf) 0 2 (by kernel_rfl))<|oc (jE (C:=(CU.agg (fQN q')).cf) (k:=2) (by kernel_rfl) (h:=zAR))<|oc (zI zD zJs (fun u0 W hb (h0:qH W u0 ((q').den))=>zFE h0))<|oc (yE (fun u v W (hu:NV W u ((q).num)) (hv:NV W v (((q').den:Nat):Int))=>zAV (NV.uv' hu (Bd.mono (hq).1 (m':=(m+m)) (by first|omega|decide))) (NV.uv' hv (Bd.mono (qP hq'.2) (m':=(m+m)) (by first|omega|decide)))))<|oc (zI zD zHk (fun u0 W hb (h0:ISV W (m+m) u0 [(q).num,(((q').den:Nat):Int)])=>zLN (k:=((q).num*(((q').den:Nat):Int))) h0 (by show (m+m)*2+(m+m)+1≤40000;omega) (by simp) (by simp)))<|oc zC<|oc (zAn (C:=(CU.agg (fQN q')).cf))<|oc (zN (C:=(CU.agg (fQN q')).cf) 0 (by kernel_rfl))<|oc (yT (C:=(CU.agg (fQN q')).cf) 0 0 (by kernel_rfl))<|oc (zX (C:=(CU.agg (fQN q')).cf) (k:=0) 2 (by kernel_rfl) (h:=zA9))<|oc zC<|oc (zAn (C:=(CU.agg (fQN q)).cf))<|oc (zN (C:=(CU.agg (fQN q)).cf) 0 (by kernel_rfl))<|oc (yT (C:=(CU.agg (fQN q)).cf) 0 2 (by kernel_rfl))<|oc (jE (C:=(CU.agg (fQN q)).cf) (k:=2) (by kernel_rfl) (h:=zAR))<|oc (zI zD zJs (fun u0 W hb (h0:qH W u0 ((q).den))=>zFE h0))<|oc (yE (fun u v W (hu:NV W u ((q').num)) (hv:NV W v (((q).den:Nat):Int))=>zAV (NV.uv' hu (Bd.mono (hq').1 (m':=(m+m)) (by first|omega|decide))) (NV.uv' hv (Bd.mono (qP hq.2) (m':=(m+m)) (by first|omega|decide)))))<|oc (zI zD zHk (fun u0 W hb (h0:ISV W (m+m) u0 [(q').num,(((q).den:Nat):Int)])=>zLN (k:=((q').num*(((q).den:Nat):Int))) h0 (by show (m+m)*2+(m+m)+1≤40000;omega) (by simp) (by simp)))<|oc (zH zD zSk (fun u0 u1 W hb (h0:NV W u0 ((q).num*(((q').den:Nat):Int))) (h1:NV W u1 ((q').num*(((q).den:Nat):Int)))=>zEz (zTK (NV.uv' h0 (Bd.mul (hq).1 (qP hq'.2))) (NV.uv' h1 (Bd.mul (hq').1 (qP hq.2))) (by omega))))<|oc zG<|zE) fun a w3 s=> ?_
 refine zA rfl ?_
 refine wpIn_ret ?_
 exact StS.res1 s (t:=4) rfl iiz
theorem zK2 {W:World} {m:Nat} {v v':Value} {q q':Rat} (h:RVp m q v W) (h':RVp m q' v' W) (hm:m≤2000) (hm0:0<m) (hT:Tab W):Calls Tryz.prog 195 #[v,v'] W (Ret W (fB (qsg q q'==0)).toSF):=by
 refine z7 [(fRV m q).toSF,(fRV m q').toSF] Tryz.func195 rfl (by kernel_rfl) ⟨h,h',trivial⟩ fun a s=> ?_
 refine wpIn_seq ?_
 refine zB 0 [] hmix s (by kernel_rfl)
  zE fun a w1 s=> ?_
 refine yJ (CU.agg (fRV m q)) rfl s (by kernel_rfl) (fun v W h=>jT h) fun b2 a w s=> ?_
 refine yJ (CU.agg (fRV m q')) rfl s (by kernel_rfl) (fun v W h=>jT h) fun b3 a w s=> ?_
 refine yU (UF.eq (.bool false)) rfl s (by kernel_rfl) iiz fun a w s=> ?_
 refine zA rfl ?_
 refine wpIn_seq ?_
 replace s:=s.drop [4]
 refine zB 5 ((5, .s ((fRV m q).toSF))::(6, .s ((fRV m q').toSF))::(7, .s ((UF.eq (.int .i64 (qsg q q'))).toSF))::(8, .s ((UF.eq (.bool (qsg q q'==0))).toSF))::(4, .u (UF.eq (.bool (qsg q q'==0)))):: []) hmix s (by kernel_rfl)
  (oc (zK (f:=fRV m q) 3 (by kernel_rfl) (hz:=qD _ _))<|oc (zK (f:=fRV m q') 3 (by kernel_rfl) (hz:=qD _ _))<|oc (zH zD zEd (fun u0 u1 W hb (h0:RVp m q u0 W) (h1:RVp m q' u1 W)=>zD5 h0 h1 hm hm0 (hT.below (s.up hb))))<|oc (zCn (.int .i64 (qsg q q')) (.int .i64 0) (.bool (qsg q q'==0)) iiz iiz (fun _=>rfl) (fun _=>rfl) (fun _=>rfl))<|oc zG<|zE) fun a w2 s=> ?_
 refine zA rfl ?_
 refine wpIn_ret ?_
 exact StS.res1 s (t:=4) rfl iiz
theorem zRp {W:World} {m:Nat} {v:Value} {q:Rat} (h:RVp m q v W) (hm:m≤2000) (hm0:0<m) (hT:Tab W):Calls Tryz.prog 165 #[v] W (Ret W (fQN (-q)).toSF):=by
 have hq:QB q m:=h.qb hm0
 refine z7 [(fRV m q).toSF] Tryz.func165 rfl (by kernel_rfl) ⟨h,trivial⟩ fun a s=> ?_
 refine wpIn_seq ?_
 refine zB 0 [] hmix s (by kernel_rfl)
  zE fun a w1 s=> ?_
 refine yJ (CU.agg (fRV m q)) rfl s (by kernel_rfl) (fun v W h=>jT h) fun b1 a w s=> ?_
 refine zY (CU.len 3) (cs:=zR3) (by kernel_rfl) rfl s (by kernel_rfl) (fun W=>rfl) rfl fun b2 a w s=> ?_
 refine zA rfl ?_
 refine wpIn_seq ?_
 have so:=s.old;have sg:=s.gr
 refine jW 3 ((4, .s ((fRV m q).toSF))::(5, .s (SF.newBox w 160 (CU.agg (fQN q))))::(3, .s (SF.newBox w 160 (CU.agg (fQN q)))):: []) hmix s (by kernel_rfl)
  (oc (zK (f:=fRV m q) 3 (by kernel_rfl) (hz:=qD _ _))<|oc (zI zD zJu (fun u0 W hb (h0:RVp m q u0 W)=>(zKU h0 (by omega) (hT.below (s.up hb))).mono (Ret.to (zCG hb.size))))<|oc zG<|zE) fun a w2 s hr=> ?_
 obtain ⟨b3,_,s⟩:=s.adopt false 3 (hr (_,_) mz2) sg (fun y hy=> .inl (so y hy))
 refine zA rfl ?_
 refine wpIn_seq ?_
 refine zB 10 ((6, .s ((UF.eq (.pointer (some ⟨b3,0,none⟩))).toSF))::(7, .s (SF.pb b3 (CU.agg (fQN q)).cf))::(8, .s (SF.ptr (CU.agg (fQN q)).cf))::(9, .s (SF.ptr ((CU.agg (fQN q)).cf.at 0)))::(10, .s (SF.ptr ((CU.agg (fQN q)).cf.at 0)))::(11, .s ((fNV ((q).num)).toSF))::(12, .u (fNV (-(q).num)))::(13, .s ((UF.eq (.pointer (some ⟨b3,0,none⟩))).toSF))::(14, .s ((UF.eq (.pointer (some ⟨b3,0,none⟩))).toSF))::(15, .u (UF.eq (.pointer (some ⟨b3,0,none⟩)))):: []) hmix s (by kernel_rfl)
  (oc (zC (fun _ _ _ h=>h.1))<|oc zC<|oc (zAn (C:=(CU.agg (fQN q)).cf))<|oc (zN (C:=(CU.agg (fQN q)).cf) 0 (by kernel_rfl))<|oc (yT (C:=(CU.agg (fQN q)).cf) 0 0 (by kernel_rfl))<|oc (zX (C:=(CU.agg (fQN q)).cf) (k:=0) 2 (by kernel_rfl) (h:=zA9))<|oc (zI zD zSe (fun u0 W hb (h0:NV W u0 ((q).num))=>zTl (NV.uv' h0 (hq).1) (by omega)))<|oc (zBY (a:=⟨b3,0,none⟩) iiz)<|oc (jK (b:=b3) (o:=0) 0 (by kernel_rfl) iiz)<|oc (jK (b:=b3) (o:=0) 0 (by kernel_rfl) iiz)<|zE) fun a w3 s=> ?_
 refine jP (c:=3) (o:=0) (kk:=2) (CU.agg (fQN (-q))) ((fNV (-(q).num)).toSF) rfl s (by kernel_rfl) rfl rfl iiz iiz (zHF (k0:=q.num) (d:=q.den)) fun a w s=> ?_
 refine zA rfl ?_
 refine wpIn_seq ?_
 refine zB 4 ((16, .s (SF.pb b3 (CU.agg (fQN (-q))).cf))::(17, .s (SF.ptr (CU.agg (fQN (-q))).cf))::(18, .s (SF.ptr ((CU.agg (fQN (-q))).cf.at 0)))::(19, .u (fQN (-q))):: []) hmix s (by kernel_rfl)
  (oc zC<|oc (zAn (C:=(CU.agg (fQN (-q))).cf))<|oc (zN (C:=(CU.agg (fQN (-q))).cf) 0 (by kernel_rfl))<|oc (zX (C:=(CU.agg (fQN (-q))).cf) (k:=0) 3 (by kernel_rfl) (h:=zNz))<|zE) fun a w4 s=> ?_
 refine zV (CU.agg (fQN (-q))) ((fQN (-q)).toSF) rfl s (by kernel_rfl) rfl rfl rfl iiz iiz yK fun a w s=> ?_
 refine zA rfl ?_
 refine wpIn_ret ?_
 exact StS.resC s (CU.agg (fQN (-q))) rfl (by kernel_rfl) rfl rfl (qX _) (fun cs W h=>h)
end Go.Proofs.Wd

namespace Go.Proofs.Wd
set_option maxRecDepth 100000
set_option maxHeartbeats 1000000
open Go.RowKit Lb
attribute [local go_sem] Oper.semAt_some y9 yC
structure QRd (m:Nat) (w:World) (A:Option Addr) (n:Nat) (qs:List Rat):Prop where
 len:qs.length=n
 cells: ∀i,i<n→ ∃b o c0 c1 c2 q,A=some ⟨b,o,none⟩∧w.cell? ⟨b,o+i*3,none⟩=some c0∧w.cell? ⟨b,o+i*3+1,none⟩=some c1∧w.cell? ⟨b,o+i*3+2,none⟩=some c2∧qs[i]?=some q∧RVp m q (.agg #[c0,c1,c2]) w
theorem RVp.keep {m:Nat} {q:Rat} {v:Value} {w w':World} (h:RVp m q v w) (hk: ∀p:Addr,p.block<w.heap.size→w'.cell? p=w.cell? p):RVp m q v w':=by
 obtain ⟨k,d,⟨b,s,t,e,⟨sg,A,n,c,l,e1,h1,h2⟩,A',n',c',l',e2,h1',h2'⟩,h3⟩:=h
 exact ⟨k,d,⟨b,s,t,e,⟨sg,A,n,c,l,e1,h1.keep hk,h2⟩,A',n',c',l',e2,h1'.keep hk,h2'⟩,h3⟩
theorem QRd.keep {m:Nat} {w w':World} {A:Option Addr} {n:Nat} {qs:List Rat} (h:QRd m w A n qs) (hk: ∀p:Addr,p.block<w.heap.size→w'.cell? p=w.cell? p):QRd m w' A n qs:=
 ⟨h.len,fun i hi=>by
  obtain ⟨b,o,c0,c1,c2,q,e,g0,g1,g2,h1,h2⟩:=h.cells i hi
  exact ⟨b,o,c0,c1,c2,q,e,(hk _ (World.block_lt_of_cell? w _ g0)).trans g0,(hk _ (World.block_lt_of_cell? w _ g1)).trans g1,(hk _ (World.block_lt_of_cell? w _ g2)).trans g2,h1,h2.keep hk⟩⟩
theorem QRd.below {m:Nat} {w w':World} {A:Option Addr} {n:Nat} {qs:List Rat} (h:QRd m w A n qs) (hb:Below w.heap.size w w'):QRd m w' A n qs:=h.keep fun _ hp=>hb.cell hp
theorem RVp.below {m:Nat} {q:Rat} {v:Value} {w w':World} (h:RVp m q v w) (hb:Below w.heap.size w w'):RVp m q v w':=h.keep fun _ hp=>hb.cell hp
def qAt (qs:List Rat) (k:Nat):Rat:=(qs[k]?).getD 0
def zPo (W:World) (B:Nat) (q:Rat):Prop:= ∃cs:List Value,W.heap[B]?=some (.cells cs.toArray 160 (0,0))∧QNp q (.agg cs.toArray) W
theorem QNp.keepU {q:Rat} {v:Value} {w w':World} (h:QNp q v w) (hk:jM w w'):QNp q v w':=(fQN q).us _ _ _ h hk
def zUy (N0:Nat) (qs:List Rat) (k:Nat) (xs:Array Value) (W:World):Prop:= ∃B,xs=#[.pointer (some ⟨B,0,none⟩)]∧N0≤B∧zPo W B (qAt qs k)
theorem zIS (A:Option Addr) (n c:Nat) (w:World):
  Calls Tryz.prog 151 #[.slice A n c] w fun e w'=>e= .returned (.func (.func 173) #[] #[.pointer (some ⟨w.heap.size,0,none⟩)])∧w'=w.alloc (.cells #[.slice A n c] 110):=by
 go_enter Tryz.func151,Tryz.ntmps151
 go_wp2
 go_ret
 exact ⟨rfl,rfl⟩
theorem zTf {W:World} {m:Nat} {c0 c1 c2:Value} {q:Rat} (h:RVp m q (.agg #[c0,c1,c2]) W) (hm:m≤2000) (hT:Tab W):Calls Tryz.prog 141 #[.agg #[c0,c1,c2]] W fun e w'=> ∃B,e= .returned (.pointer (some ⟨B,0,none⟩))∧W.heap.size≤B∧zPo w' B q∧Below W.heap.size W w':=
 (zKU h hm hT).mono fun _ _ ⟨_,e1,⟨B,cs,e2,h1,h2,h3,_⟩,hb⟩=>⟨B,by rw [e1,e2],h1,⟨cs,h2,h3⟩,hb⟩
theorem zFu (m:Nat) (hm:m≤2000) (A:Option Addr) (n c:Nat) (qs:List Rat) (b1:Nat) (w w0:World) (h:QRd m w A n qs) (hT:Tab w) (hw0:Below w.heap.size w w0) (hn:n≤c) (hc:c≤9223372036854775807)
  (hc1:w0.cell? ⟨b1,0,none⟩=some (.slice A n c)) {S:Nat→Prop} (hS: ∀b,S b→b<w0.heap.size) (_hS1:S b1) (hSA: ∀b,b<w.heap.size→S b):
  zOs Tryz.prog 173 #[.pointer (some ⟨b1,0,none⟩)] (zUy w0.heap.size qs) n (zFf S) Mk (fun _=>True) w0:=by
 intro lp J W hW hJ hY h0
 have hl1:=zZ hc1
 have hw1:=(hW.cell (p:=⟨b1,0,none⟩) hl1).trans hc1
 refine zBg Tryz.func173 rfl ?_
 simp only [Tryz.ntmps173,List.size_toArray,List.length_cons,List.length_nil,Nat.reduceAdd,Nat.reduceSub,Array.replicate_succ,Array.replicate_zero,List.push_toArray,List.append_toArray,List.nil_append,List.cons_append]
 gi_wp2
 gi_loopw [7] (fun i wr=> ∃k:Nat,k≤n∧i= .int .i64 k∧J k wr∧yV S w0 wr∧w0.heap.size≤wr.heap.size) (fun i _=>n - (intOf i).toNat)
 case atStart=>exact ⟨0,Nat.zero_le _,rfl,h0,yV.of_below hW hS,hW.size⟩
 case round=>
  obtain ⟨k,hk,rfl,hj,hb,hz⟩:=hrel
  by_cases hkn:k<n
  ·have hkeep: ∀p:Addr,p.block<w.heap.size→wr.cell? p=w.cell? p:=fun p hp=>(hb.cell (hSA _ hp)).trans (hw0.cell hp)
   obtain ⟨b,o,c0,c1,c2,q,rfl,p0,p1,p2,hi,hr⟩:=(h.keep (w':=wr) hkeep).cells k hkn
   have hTr:Tab wr:=fun j hj=>(hkeep ⟨0,j,none⟩ (zZ (hT j hj))).trans (hT j hj)
   have hid1:qAt qs k=q:=by simp [qAt,hi]
   have hjk:=hJ k wr
   have hHI:=hid hi
   clear hi
   obtain ⟨sg,A1,n1,d1,A2,n2,d2,rfl,rfl,rfl⟩: ∃sg A1 n1 d1 A2 n2 d2,c0= .bool sg∧c1= .slice A1 n1 d1∧c2= .slice A2 n2 d2:=by
    obtain ⟨k',d',hq,_⟩:=hr
    obtain ⟨sg,A1,n1,d1,A2,n2,d2,e⟩:=zDK hq
    have:=congrArg Array.toList (jF e)
    simp at this
    exact ⟨sg,A1,n1,d1,A2,n2,d2,this.1,this.2.1,this.2.2⟩
   gi_wp2_with (first|(gi_at_call 141;refine CallsIn.mono (callsIn_wide.2 (zTf (hr.below (zCx _ _)) hm (hTr.below (zCx _ _)))) ?_;rintro e w2 ⟨B2,rfl,hB2,hn2,hb2⟩;have hmk:Mk wr w2:=((Below.refl _ wr).alloc lr _).trans (hb2.mono (by simp));obtain ⟨fn,tmps,assign,body,hy,hR⟩:=hY k w2 #[.pointer (some ⟨B2,0,none⟩)] hkn (hjk _ hj hmk) ⟨B2,rfl,Nat.le_trans hz (Nat.le_trans (by simp) hB2),by rw [hid1];exact hn2⟩)|(refine hR.mono ?_;rintro e W3 ⟨rfl,hJ3,hk3⟩))
   refine ⟨⟨k+1,by omega,rfl,hJ3,(hb.trans (yV.of_below hmk fun b hb=>Nat.lt_of_lt_of_le (hS b hb) hz)).trans hk3.1,Nat.le_trans hz (Nat.le_trans hmk.size hk3.2)⟩, ?_⟩
   simp [intOf]
   omega
  ·obtain rfl:k=n:=by omega
   gi_wp2
   go_end0
   exact ⟨⟨_,rfl⟩,hj,trivial⟩
def zC1 (qs:List Rat):Nat→Rat
 |0=>0
 |k+1=>zC1 qs k+qAt qs k
def qU (qs:List Rat):Nat→Rat
 |0=>1
 |k+1=>qU qs k*qAt qs k
def zQW (w:World) (B0 P:Nat) (f:Nat→Rat) (k:Nat) (W:World):Prop:=
 zPo W B0 (f k)∧Boxed W P 161 (.pointer (some ⟨B0,0,none⟩))∧qS W w.heap.size 28 #[.bool false, .slice none 0 0, .slice none 0 0]∧Below w.heap.size w W∧P+2≤W.heap.size∧w.heap.size<B0
theorem zPo.abide {W W':World} {B C:Nat} {q:Rat} {row:Option Nat} (h:zPo W B q) (hg:W.grownBy W' row) (hr: ∀r,row=some r→C≤r∧ ∃o,W.heap[r]?=some o∧o.isCells=false):zPo W' B q:=by
 obtain ⟨cs,h1,h2⟩:=h
 have hk:jM W W':=fun p x hp=>zFA hp hg hr
 refine ⟨cs,(hg.block _ (Array.getElem?_eq_some_iff.1 h1).1 fun e=> ?_).trans h1,h2.keepU hk⟩
 obtain ⟨_,o,ho,hc⟩:=hr _ e.symm
 rw [h1] at ho
 cases ho
 cases hc
theorem zC7 (w:World) (B0 P:Nat) (f:Nat→Rat) {C:Nat} (hC:w.heap.size≤C):OwnFrom C (zQW w B0 P f):=by
 rintro k W W' row ⟨h1,h2,h3,h4,h5,h6⟩ hg hr
 exact ⟨h1.abide hg hr,qI h2 hg hr,h3.abide hg hr,zAe h4 hg lr hC hr,Nat.le_trans h5 hg.size,h6⟩
theorem zNo (m M:Nat) (A:Option Addr) (n c:Nat) (qs:List Rat) (w:World) (h:QRd m w A n qs) (hn:n≤c) (hc:c≤9223372036854775807) (hm:m≤2000) (hm0:0<m) (hM:M+m+1≤2000) (hp: ∀k,k≤n→QB (zC1 qs k) M) (hT:Tab w):
  Calls Tryz.prog 119 #[.slice A n c] w (Ret w (fQN (zC1 qs n)).toSF):=by
 refine qR Tryz.func119 rfl ?_
 simp only [Tryz.ntmps119,List.size_toArray,List.length_cons,List.length_nil,Nat.reduceAdd,Nat.reduceSub,Array.replicate_succ,Array.replicate_zero,List.push_toArray,List.append_toArray,List.nil_append,List.cons_append]
 go_wp2_with (first|(go_at_call 135;refine (zPK 0 (by decide)).mono ?_;rintro e w1 ⟨v1,rfl,hv1,hb1⟩;obtain ⟨A1,n1,c1,A2,n2,c2,rfl⟩:=zCg hv1)|(go_at_call 151;refine (zIS A n c _).mono ?_;rintro e w3 ⟨rfl,rfl⟩))
 have hv2:QNp 0 (.agg #[.bool false, .slice A1 n1 c1, .slice A2 n2 c2]) w1:=hv1
 obtain ⟨W0,hW0⟩: ∃W0,(((w1.alloc (.cells #[.bool false, .slice A1 n1 c1, .slice A2 n2 c2] 160)).alloc (.cells #[.pointer (some ⟨w1.heap.size,0,none⟩)] 161)).alloc (.cells #[.slice A n c] 110))=W0:=⟨_,rfl⟩
 have hsz:W0.heap.size=w1.heap.size+3:=by rw [←hW0];simp
 have hbw1:Below w.heap.size w w1:=((Below.refl _ w).alloc lr _).trans (hb1.mono (by simp))
 have hsz1:w.heap.size<w1.heap.size:=Nat.lt_of_lt_of_le (by simp) hb1.size
 have hb01:Below w1.heap.size w1 W0:=by rw [←hW0];exact (((Below.refl _ w1).alloc lr _).alloc (by simp) _).alloc (by simp;omega) _
 have hB1:Below w.heap.size w W0:=hbw1.trans (hb01.mono hbw1.size)
 have x0:zPo W0 w1.heap.size 0:=⟨[_,_,_],(by rw [←hW0];exact ((qS.new w1 _ #[.bool false, .slice A1 n1 c1, .slice A2 n2 c2]).alloc _).alloc _),hv2.keepU (zU hb01)⟩
 have x1:Boxed W0 (w1.heap.size+1) 161 (.pointer (some ⟨w1.heap.size,0,none⟩)):=by rw [←hW0];exact (zAl _ _ _ (by simp)).alloc _
 have x2:Boxed W0 (w1.heap.size+1+1) 110 (.slice A n c):=by rw [←hW0];exact zAl _ _ _ (by simp)
 have x3:qS W0 w.heap.size 28 #[.bool false, .slice none 0 0, .slice none 0 0]:=(qS.kept (qS.kept (qS.new w _ _) hb1) hb01)
 rw [hW0]
 clear hW0
 have hSb: ∀b,(b<w.heap.size∨b=w1.heap.size+1+1)→b<W0.heap.size:=fun b hb=>by have:=hbw1.size;omega
 refine zB9 (gf:=173) rfl (enters_of Tryz.func173 (by kernel_rfl) rfl) (zFu m hm A n c qs (w1.heap.size+1+1) w W0 h hT hB1 hn hc x2.cell (S:=fun b=>b<w.heap.size∨b=w1.heap.size+1+1) hSb (.inr rfl) (fun b hb=> .inl hb)) ?hE ?hps zFf.trans (zGc hSb)
  (zQW w w1.heap.size (w1.heap.size+1) (zC1 qs)) (zC7 w _ _ _ hB1.size) (zBh (zC7 w _ _ _ lr)) Mk.keeps (fun _ _ _ _ _ _ _ _=>trivial) ⟨x0,x1,x3,hB1,by omega,hsz1⟩
  (fun xs=>{ tmps:=#[.slice A n c,undef, .pointer (some ⟨w.heap.size,0,none⟩), .pointer (some ⟨w1.heap.size+1,0,none⟩),xs.getD 0 undef, .agg #[.bool false, .slice A1 n1 c1, .slice A2 n2 c2], .agg #[.bool false, .slice A1 n1 c1, .slice A2 n2 c2], .pointer (some ⟨w1.heap.size,0,none⟩), .slice A n c, .func (.func 173) #[] #[.pointer (some ⟨w1.heap.size+1+1,0,none⟩)],xs.getD 0 undef,undef,undef,undef,undef,undef,undef,undef],defers:= [] }) ?assign ?body ?done
 case hE=>
  rintro k xs W l o o' ⟨B,rfl,h1,h2⟩ ho hc
  exact ⟨B,rfl,h1,h2.abide (C:=0) (grownBy_putObj' W l o') (fun r e=>by cases e;exact ⟨Nat.zero_le _,o,ho,hc⟩)⟩
 case hps=>
  rintro k xs W ⟨B,rfl,_⟩
  rfl
 case assign=>
  rintro lp k xs W K ⟨B,rfl,h1,h2⟩ hK
  gi_wp2
  exact hK
 case body=>
  rintro lp k xs W hk ⟨h1,h2,h3,h4,h5,h6⟩ ⟨B,rfl,hB,hnb⟩
  have hc2:=h2.cell
  have hne:B≠w1.heap.size:=by omega
  have hbd:=hp k (Nat.le_of_lt hk)
  have hbd2:QB (qAt qs k) m:=by
   obtain ⟨_,_,_,_,_,q,_,_,_,_,e,hr⟩:=h.cells k hk
   rw [show qAt qs k=q from by simp [qAt,e]]
   exact hr.qb hm0
  have hTW:Tab W:=hT.below h4
  gi_wp2_with (gi_at_call 152;refine CallsIn.mono (callsIn_wide.2 (by
   obtain ⟨cs,g1,g2⟩:=h1
   obtain ⟨cs',g1',g2'⟩:=hnb
   exact zNR g1 g2 g1' g2' hne hbd hbd2 (by omega) hTW)) ?_;rintro e w3 ⟨u,rfl,_,hg3,cs3,hh3,hc3,_⟩)
  refine ⟨(KeepsOthers.of_grownBy hg3 (fun j o e ho=>by cases e;obtain ⟨cs,g1,_⟩:=h1;rw [g1] at ho;cases ho;rfl)).from _,⟨(yV.refl _ _).grown hg3 (fun b hb=>⟨by have:=h4.size;rcases hb with hb|hb<;>omega,fun e=>by have:=Option.some.inj e;omega⟩),hg3.size⟩,⟨cs3,hh3,hc3⟩,h2.kept hg3 (fun e=>by have:=Option.some.inj e;omega),(hg3.block _ h3.lt (fun e=>by have:=Option.some.inj e;omega)).trans h3,zAy h4 hg3 h4.size (by omega),Nat.le_trans h5 hg3.size,h6⟩
 case done=>
  rintro D W hD ⟨h1,h2,h3,h4,h5,h6⟩ _ hd
  obtain ⟨cs,hh,hq⟩:=h1
  obtain ⟨A3,n3,c3,A4,n4,c4,ecs⟩:=zCg hq
  have ecs:=congrArg Array.toList (jF ecs)
  simp at ecs
  subst ecs
  obtain ⟨g0,g1,g2⟩:W.cell? ⟨w1.heap.size,0,none⟩=some (.bool (decide ((zC1 qs n).num<0)))∧W.cell? ⟨w1.heap.size,0+1,none⟩=some (.slice A3 n3 c3)∧W.cell? ⟨w1.heap.size,0+2,none⟩=some (.slice A4 n4 c4):=⟨zAL hh 0 _ rfl,zAL hh 1 _ rfl,zAL hh 2 _ rfl⟩
  simp only [Nat.zero_add] at g1 g2
  have hc2:=h2.cell
  have q0:W.cell? ⟨w.heap.size,0,none⟩=some (.bool false):=h3.cell 0
  have q1:W.cell? ⟨w.heap.size,1,none⟩=some (.slice none 0 0):=h3.cell 1
  have q2:W.cell? ⟨w.heap.size,2,none⟩=some (.slice none 0 0):=h3.cell 2
  have q3:=h3.frozen 0;have q4:=h3.frozen 1;have q5:=h3.frozen 2
  go_wp2
  have hb5:qS (((W.setCell ⟨w.heap.size,0,none⟩ (.bool (decide ((zC1 qs n).num<0)))).setCell ⟨w.heap.size,1,none⟩ (.slice A3 n3 c3)).setCell ⟨w.heap.size,2,none⟩ (.slice A4 n4 c4)) w.heap.size 28 #[.bool (decide ((zC1 qs n).num<0)), .slice A3 n3 c3, .slice A4 n4 c4]:=((h3.set 0 _).set 1 _).set 2 _
  have hM2:Marks w.heap.size (((W.setCell ⟨w.heap.size,0,none⟩ (.bool (decide ((zC1 qs n).num<0)))).setCell ⟨w.heap.size,1,none⟩ (.slice A3 n3 c3)).setCell ⟨w.heap.size,2,none⟩ (.slice A4 n4 c4)) [mark D] [D]:=((Marks.nil w.heap.size W).more (D:=D) (by simp) (by have:=hB1.size;omega) hd).others (((KeepsOthers.setCell _ _ _).trans (KeepsOthers.setCell _ _ _)).trans (KeepsOthers.setCell _ _ _))
  have hrow: ∀(W':World) (i:Nat) (v u:Value),W'.cell? ⟨w.heap.size,i,none⟩=some u→yG u=true→jM W' (W'.setCell ⟨w.heap.size,i,none⟩ v):=fun W' i v u hu hn p x hp=>(World.cell?_setCell_other _ _ _ _ (fun e=>by rw [←e] at hp;rw [hu] at hp;cases hp;cases hn)).trans hp
  have hk3:jM W (((W.setCell ⟨w.heap.size,0,none⟩ (.bool (decide ((zC1 qs n).num<0)))).setCell ⟨w.heap.size,1,none⟩ (.slice A3 n3 c3)).setCell ⟨w.heap.size,2,none⟩ (.slice A4 n4 c4)):=((hrow _ _ _ _ q0 rfl).trans (hrow _ _ _ _ ((h3.set 0 _).cell 1) rfl)).trans (hrow _ _ _ _ (((h3.set 0 _).set 1 _).cell 2) rfl)
  have hq3:=hq.keepU hk3
  have hb3:Below w.heap.size w (((W.setCell ⟨w.heap.size,0,none⟩ (.bool (decide ((zC1 qs n).num<0)))).setCell ⟨w.heap.size,1,none⟩ (.slice A3 n3 c3)).setCell ⟨w.heap.size,2,none⟩ (.slice A4 n4 c4)):=((h4.setCell lr _).setCell lr _).setCell lr _
  generalize ((W.setCell ⟨w.heap.size,0,none⟩ (.bool (decide ((zC1 qs n).num<0)))).setCell ⟨w.heap.size,1,none⟩ (.slice A3 n3 c3)).setCell ⟨w.heap.size,2,none⟩ (.slice A4 n4 c4)=W9 at*
  refine y5 _ (v:= .agg #[.bool (decide ((zC1 qs n).num<0)), .slice A3 n3 c3, .slice A4 n4 c4]) (fun w' ho'=> ?_) [D] _ _ hM2 (Oth.refl _ _) ?_
  ·have h7:=hb5.oth ho'
   have:=zEi (P:=Tryz.prog) (w:=w') (t:=28) (k:=3) (by kernel_rfl) (vs:= [.bool (decide ((zC1 qs n).num<0)), .slice A3 n3 c3, .slice A4 n4 c4]) rfl h7
   simp [results,Tryz.results119,asAddr,this]
  ·intro w' ho
   exact ⟨_,rfl,hq3.keepU (fun p x hp=>(ho.cell p).trans hp),jV hb3 ho lr⟩
theorem zNn (m M:Nat) (A:Option Addr) (n c:Nat) (qs:List Rat) (w:World) (h:QRd m w A n qs) (hn:n≤c) (hc:c≤9223372036854775807) (hm:m≤2000) (hm0:0<m) (hM:M+m+1≤2000) (hp: ∀k,k≤n→QB (qU qs k) M) (hT:Tab w):
  Calls Tryz.prog 142 #[.slice A n c] w (Ret w (fQN (qU qs n)).toSF):=by
 refine qR Tryz.func142 rfl ?_
 simp only [Tryz.ntmps142,List.size_toArray,List.length_cons,List.length_nil,Nat.reduceAdd,Nat.reduceSub,Array.replicate_succ,Array.replicate_zero,List.push_toArray,List.append_toArray,List.nil_append,List.cons_append]
 go_wp2_with (first|(go_at_call 135;refine (zPK 1 (by decide)).mono ?_;rintro e w1 ⟨v1,rfl,hv1,hb1⟩;obtain ⟨A1,n1,c1,A2,n2,c2,rfl⟩:=zCg hv1)|(go_at_call 151;refine (zIS A n c _).mono ?_;rintro e w3 ⟨rfl,rfl⟩))
 have hv2:QNp 1 (.agg #[.bool false, .slice A1 n1 c1, .slice A2 n2 c2]) w1:=hv1
 obtain ⟨W0,hW0⟩: ∃W0,(((w1.alloc (.cells #[.bool false, .slice A1 n1 c1, .slice A2 n2 c2] 160)).alloc (.cells #[.pointer (some ⟨w1.heap.size,0,none⟩)] 161)).alloc (.cells #[.slice A n c] 110))=W0:=⟨_,rfl⟩
 have hsz:W0.heap.size=w1.heap.size+3:=by rw [←hW0];simp
 have hbw1:Below w.heap.size w w1:=((Below.refl _ w).alloc lr _).trans (hb1.mono (by simp))
 have hsz1:w.heap.size<w1.heap.size:=Nat.lt_of_lt_of_le (by simp) hb1.size
 have hb01:Below w1.heap.size w1 W0:=by rw [←hW0];exact (((Below.refl _ w1).alloc lr _).alloc (by simp) _).alloc (by simp;omega) _
 have hB1:Below w.heap.size w W0:=hbw1.trans (hb01.mono hbw1.size)
 have x0:zPo W0 w1.heap.size 1:=⟨[_,_,_],(by rw [←hW0];exact ((qS.new w1 _ #[.bool false, .slice A1 n1 c1, .slice A2 n2 c2]).alloc _).alloc _),hv2.keepU (zU hb01)⟩
 have x1:Boxed W0 (w1.heap.size+1) 161 (.pointer (some ⟨w1.heap.size,0,none⟩)):=by rw [←hW0];exact (zAl _ _ _ (by simp)).alloc _
 have x2:Boxed W0 (w1.heap.size+1+1) 110 (.slice A n c):=by rw [←hW0];exact zAl _ _ _ (by simp)
 have x3:qS W0 w.heap.size 28 #[.bool false, .slice none 0 0, .slice none 0 0]:=(qS.kept (qS.kept (qS.new w _ _) hb1) hb01)
 rw [hW0]
 clear hW0
 have hSb: ∀b,(b<w.heap.size∨b=w1.heap.size+1+1)→b<W0.heap.size:=fun b hb=>by have:=hbw1.size;omega
 refine zB9 (gf:=173) rfl (enters_of Tryz.func173 (by kernel_rfl) rfl) (zFu m hm A n c qs (w1.heap.size+1+1) w W0 h hT hB1 hn hc x2.cell (S:=fun b=>b<w.heap.size∨b=w1.heap.size+1+1) hSb (.inr rfl) (fun b hb=> .inl hb)) ?hE ?hps zFf.trans (zGc hSb)
  (zQW w w1.heap.size (w1.heap.size+1) (qU qs)) (zC7 w _ _ _ hB1.size) (zBh (zC7 w _ _ _ lr)) Mk.keeps (fun _ _ _ _ _ _ _ _=>trivial) ⟨x0,x1,x3,hB1,by omega,hsz1⟩
  (fun xs=>{ tmps:=#[.slice A n c,undef, .pointer (some ⟨w.heap.size,0,none⟩), .pointer (some ⟨w1.heap.size+1,0,none⟩),xs.getD 0 undef, .agg #[.bool false, .slice A1 n1 c1, .slice A2 n2 c2], .agg #[.bool false, .slice A1 n1 c1, .slice A2 n2 c2], .pointer (some ⟨w1.heap.size,0,none⟩), .slice A n c, .func (.func 173) #[] #[.pointer (some ⟨w1.heap.size+1+1,0,none⟩)],xs.getD 0 undef,undef,undef,undef,undef,undef,undef,undef],defers:= [] }) ?assign ?body ?done
 case hE=>
  rintro k xs W l o o' ⟨B,rfl,h1,h2⟩ ho hc
  exact ⟨B,rfl,h1,h2.abide (C:=0) (grownBy_putObj' W l o') (fun r e=>by cases e;exact ⟨Nat.zero_le _,o,ho,hc⟩)⟩
 case hps=>
  rintro k xs W ⟨B,rfl,_⟩
  rfl
 case assign=>
  rintro lp k xs W K ⟨B,rfl,h1,h2⟩ hK
  gi_wp2
  exact hK
 case body=>
  rintro lp k xs W hk ⟨h1,h2,h3,h4,h5,h6⟩ ⟨B,rfl,hB,hnb⟩
  have hc2:=h2.cell
  have hne:B≠w1.heap.size:=by omega
  have hbd:=hp k (Nat.le_of_lt hk)
  have hbd2:QB (qAt qs k) m:=by
   obtain ⟨_,_,_,_,_,q,_,_,_,_,e,hr⟩:=h.cells k hk
   rw [show qAt qs k=q from by simp [qAt,e]]
   exact hr.qb hm0
  have hTW:Tab W:=hT.below h4
  gi_wp2_with (gi_at_call 169;refine CallsIn.mono (callsIn_wide.2 (by
   obtain ⟨cs,g1,g2⟩:=h1
   obtain ⟨cs',g1',g2'⟩:=hnb
   exact zNQ g1 g2 g1' g2' hne hbd hbd2 (by omega) hTW)) ?_;rintro e w3 ⟨u,rfl,_,hg3,cs3,hh3,hc3,_⟩)
  refine ⟨(KeepsOthers.of_grownBy hg3 (fun j o e ho=>by cases e;obtain ⟨cs,g1,_⟩:=h1;rw [g1] at ho;cases ho;rfl)).from _,⟨(yV.refl _ _).grown hg3 (fun b hb=>⟨by have:=h4.size;rcases hb with hb|hb<;>omega,fun e=>by have:=Option.some.inj e;omega⟩),hg3.size⟩,⟨cs3,hh3,hc3⟩,h2.kept hg3 (fun e=>by have:=Option.some.inj e;omega),(hg3.block _ h3.lt (fun e=>by have:=Option.some.inj e;omega)).trans h3,zAy h4 hg3 h4.size (by omega),Nat.le_trans h5 hg3.size,h6⟩
 case done=>
  rintro D W hD ⟨h1,h2,h3,h4,h5,h6⟩ _ hd
  obtain ⟨cs,hh,hq⟩:=h1
  obtain ⟨A3,n3,c3,A4,n4,c4,ecs⟩:=zCg hq
  have ecs:=congrArg Array.toList (jF ecs)
  simp at ecs
  subst ecs
  obtain ⟨g0,g1,g2⟩:W.cell? ⟨w1.heap.size,0,none⟩=some (.bool (decide ((qU qs n).num<0)))∧W.cell? ⟨w1.heap.size,0+1,none⟩=some (.slice A3 n3 c3)∧W.cell? ⟨w1.heap.size,0+2,none⟩=some (.slice A4 n4 c4):=⟨zAL hh 0 _ rfl,zAL hh 1 _ rfl,zAL hh 2 _ rfl⟩
  simp only [Nat.zero_add] at g1 g2
  have hc2:=h2.cell
  have q0:W.cell? ⟨w.heap.size,0,none⟩=some (.bool false):=h3.cell 0
  have q1:W.cell? ⟨w.heap.size,1,none⟩=some (.slice none 0 0):=h3.cell 1
  have q2:W.cell? ⟨w.heap.size,2,none⟩=some (.slice none 0 0):=h3.cell 2
  have q3:=h3.frozen 0;have q4:=h3.frozen 1;have q5:=h3.frozen 2
  go_wp2
  have hb5:qS (((W.setCell ⟨w.heap.size,0,none⟩ (.bool (decide ((qU qs n).num<0)))).setCell ⟨w.heap.size,1,none⟩ (.slice A3 n3 c3)).setCell ⟨w.heap.size,2,none⟩ (.slice A4 n4 c4)) w.heap.size 28 #[.bool (decide ((qU qs n).num<0)), .slice A3 n3 c3, .slice A4 n4 c4]:=((h3.set 0 _).set 1 _).set 2 _
  have hM2:Marks w.heap.size (((W.setCell ⟨w.heap.size,0,none⟩ (.bool (decide ((qU qs n).num<0)))).setCell ⟨w.heap.size,1,none⟩ (.slice A3 n3 c3)).setCell ⟨w.heap.size,2,none⟩ (.slice A4 n4 c4)) [mark D] [D]:=((Marks.nil w.heap.size W).more (D:=D) (by simp) (by have:=hB1.size;omega) hd).others (((KeepsOthers.setCell _ _ _).trans (KeepsOthers.setCell _ _ _)).trans (KeepsOthers.setCell _ _ _))
  have hrow: ∀(W':World) (i:Nat) (v u:Value),W'.cell? ⟨w.heap.size,i,none⟩=some u→yG u=true→jM W' (W'.setCell ⟨w.heap.size,i,none⟩ v):=fun W' i v u hu hn p x hp=>(World.cell?_setCell_other _ _ _ _ (fun e=>by rw [←e] at hp;rw [hu] at hp;cases hp;cases hn)).trans hp
  have hk3:jM W (((W.setCell ⟨w.heap.size,0,none⟩ (.bool (decide ((qU qs n).num<0)))).setCell ⟨w.heap.size,1,none⟩ (.slice A3 n3 c3)).setCell ⟨w.heap.size,2,none⟩ (.slice A4 n4 c4)):=((hrow _ _ _ _ q0 rfl).trans (hrow _ _ _ _ ((h3.set 0 _).cell 1) rfl)).trans (hrow _ _ _ _ (((h3.set 0 _).set 1 _).cell 2) rfl)
  have hq3:=hq.keepU hk3
  have hb3:Below w.heap.size w (((W.setCell ⟨w.heap.size,0,none⟩ (.bool (decide ((qU qs n).num<0)))).setCell ⟨w.heap.size,1,none⟩ (.slice A3 n3 c3)).setCell ⟨w.heap.size,2,none⟩ (.slice A4 n4 c4)):=((h4.setCell lr _).setCell lr _).setCell lr _
  generalize ((W.setCell ⟨w.heap.size,0,none⟩ (.bool (decide ((qU qs n).num<0)))).setCell ⟨w.heap.size,1,none⟩ (.slice A3 n3 c3)).setCell ⟨w.heap.size,2,none⟩ (.slice A4 n4 c4)=W9 at*
  refine y5 _ (v:= .agg #[.bool (decide ((qU qs n).num<0)), .slice A3 n3 c3, .slice A4 n4 c4]) (fun w' ho'=> ?_) [D] _ _ hM2 (Oth.refl _ _) ?_
  ·have h7:=hb5.oth ho'
   have:=zEi (P:=Tryz.prog) (w:=w') (t:=28) (k:=3) (by kernel_rfl) (vs:= [.bool (decide ((qU qs n).num<0)), .slice A3 n3 c3, .slice A4 n4 c4]) rfl h7
   simp [results,Tryz.results142,asAddr,this]
  ·intro w' ho
   exact ⟨_,rfl,hq3.keepU (fun p x hp=>(ho.cell p).trans hp),jV hb3 ho lr⟩
def fQS (m:Nat) (qs:List Rat):SF:=⟨fun v W=> ∃A c,v= .slice A qs.length c∧qs.length≤c∧c≤9223372036854775807∧QRd m W A qs.length qs,fun _ _ _ ⟨A,c,h1,h2,h3,h4⟩ hb=>⟨A,c,h1,h2,h3,h4.below hb⟩⟩
theorem zOG (s s':Bool) (A A' D D':Option Addr) (n n' c c' i i' j j':Nat):yH Tryz.prog 110 2 [(0, .agg #[.bool s, .slice A n c, .slice D i j]),(1, .agg #[.bool s', .slice A' n' c', .slice D' i' j'])]=some (28,#[.bool s, .slice A n c, .slice D i j, .bool s', .slice A' n' c', .slice D' i' j']):=by kernel_rfl
theorem zHI {u v:Value} {W:World} {m:Nat} {p q:Rat} (hu:RVp m p u W) (hv:RVp m q v W): ∃e cs,yH Tryz.prog 110 2 [(0,u),(1,v)]=some (e,cs)∧(fQS m [p,q]).p (.slice (some ⟨W.heap.size,0,none⟩) 2 2) (W.alloc (.cells cs e)):=by
 obtain ⟨k,d,h1,h2⟩:=id hu
 obtain ⟨k',d',h1',h2'⟩:=id hv
 obtain ⟨s,A,n,c,D,i,j,rfl⟩:=zDK h1
 obtain ⟨s',A',n',c',D',i',j',rfl⟩:=zDK h1'
 refine ⟨_,_,zOG s s' A A' D D' n n' c c' i i' j j',some ⟨W.heap.size,0,none⟩,2,rfl,Nat.le_refl _,by decide,rfl,fun x hx=> ?_⟩
 have hb:=zCx W (.cells #[.bool s, .slice A n c, .slice D i j, .bool s', .slice A' n' c', .slice D' i' j'] 28)
 rcases (by simp at hx;omega:x=0∨x=1) with rfl|rfl
 ·exact ⟨_,0,_,_,_,p,rfl,zBF W _ _ 0 _ rfl,zBF W _ _ 1 _ rfl,zBF W _ _ 2 _ rfl,rfl,hu.below hb⟩
 ·exact ⟨_,0,_,_,_,q,rfl,zBF W _ _ 3 _ rfl,zBF W _ _ 4 _ rfl,zBF W _ _ 5 _ rfl,rfl,hv.below hb⟩
theorem zRo {W:World} {m:Nat} {v:Value} {qs:List Rat} (M:Nat) (h:(fQS m qs).p v W) (hm0:0<m) (hM:M+m+1≤2000) (hp: ∀k,k≤qs.length→QB (zC1 qs k) M) (hT:Tab W):Calls Tryz.prog 119 #[v] W (Ret W (fQN (zC1 qs qs.length)).toSF):=by
 obtain ⟨A,c,rfl,h1,h2,h3⟩:=h
 exact zNo m M A qs.length c qs W h3 h1 h2 (by omega) hm0 hM hp hT
theorem zPN {W:World} {m:Nat} {v:Value} {qs:List Rat} (M:Nat) (h:(fQS m qs).p v W) (hm0:0<m) (hM:M+m+1≤2000) (hp: ∀k,k≤qs.length→QB (qU qs k) M) (hT:Tab W):Calls Tryz.prog 142 #[v] W (Ret W (fQN (qU qs qs.length)).toSF):=by
 obtain ⟨A,c,rfl,h1,h2,h3⟩:=h
 exact zNn m M A qs.length c qs W h3 h1 h2 (by omega) hm0 hM hp hT
theorem QB.zero {m:Nat} (hm:0<m):QB 0 m:=⟨Nat.pow_pos yZ,zDg hm⟩
theorem QB.one {m:Nat} (hm:0<m):QB 1 m:=⟨zDg hm,zDg hm⟩
theorem zQb (p q:Rat):zC1 [p,q] 2=p+q:=by
 show (0+p)+q=_
 rw [Rat.zero_add]
theorem zLl (p q:Rat):qU [p,q] 2=p*q:=by
 show (1*p)*q=_
 rw [Rat.one_mul]
theorem zPT {W:World} {m:Nat} {v:Value} {p q:Rat} (h:(fQS m [p,q]).p v W) (hp:QB p m) (hq:QB q m) (hm:3*m+2≤2000) (hT:Tab W):Calls Tryz.prog 119 #[v] W (Ret W (fQN (p+q)).toSF):=by
 have:=zRo (m+m+1) h hp.pos (by omega) (fun k hk=>by
  rcases (by simp at hk;omega:k=0∨k=1∨k=2) with rfl|rfl|rfl
  ·exact QB.zero (by omega)
  ·show QB (0+p) _
   rw [Rat.zero_add]
   exact hp.mono (by omega)
  ·rw [zQb]
   exact hp.add hq) hT
 rw [show ([p,q]:List Rat).length=2 from rfl,zQb] at this
 exact this
theorem zKX {W:World} {m:Nat} {v:Value} {p q:Rat} (h:(fQS m [p,q]).p v W) (hp:QB p m) (hq:QB q m) (hm:3*m+2≤2000) (hT:Tab W):Calls Tryz.prog 142 #[v] W (Ret W (fQN (p*q)).toSF):=by
 have:=zPN (m+m) h hp.pos (by omega) (fun k hk=>by
  have:=hp.pos
  rcases (by simp at hk;omega:k=0∨k=1∨k=2) with rfl|rfl|rfl
  ·exact QB.one (by omega)
  ·show QB (1*p) _
   rw [Rat.one_mul]
   exact hp.mono (by omega)
  ·rw [zLl]
   exact hp.mul hq) hT
 rw [show ([p,q]:List Rat).length=2 from rfl,zLl] at this
 exact this
end Go.Proofs.Wd

namespace Go.Proofs.Wd
set_option maxRecDepth 100000
open Go.RowKit Lb
theorem zPQ (p q:Rat):mkRat ((p).num*(if decide ((q).num<0) then -(((q).den:Nat):Int) else (((q).den:Nat):Int))) ((p).den*(q).num.natAbs)=p / q:=by
 have hp:p=(p.num:Rat) / (p.den:Rat):=by
  have:=Rat.mkRat_self p
  rw [Rat.mkRat_eq_div] at this
  exact this.symm
 have hq:q⁻¹=mkRat (if decide (q.num<0) then -((q.den:Nat):Int) else ((q.den:Nat):Int)) q.num.natAbs:=by
  rw [Rat.inv_def]
  by_cases h:q.num<0
  ·rw [decide_eq_true h,if_pos rfl, ←Rat.divInt_ofNat, ←Rat.divInt_neg']
   congr 1
   omega
  ·rw [decide_eq_false h,if_neg (by decide), ←Rat.divInt_ofNat]
   congr 1
   omega
 rw [Rat.div_def,hq]
 conv=>rhs;rw [←Rat.mkRat_self p]
 rw [Rat.mkRat_mul_mkRat]
theorem zOJ {W:World} {m:Nat} {v v':Value} {q q':Rat} (h:RVp m q v W) (h':RVp m q' v' W) (hm:m≤650) (hm0:0<m) (hT:Tab W):Calls Tryz.prog 138 #[v,v'] W (Ret W (fQN (q - q')).toSF):=by
 have hq:QB q m:=h.qb hm0
 have hq':QB q' m:=h'.qb hm0
 refine z7 [(fRV m q).toSF,(fRV m q').toSF] Tryz.func138 rfl (by kernel_rfl) ⟨h,h',trivial⟩ fun a s=> ?_
 refine wpIn_seq ?_
 refine zB 0 [] hmix s (by kernel_rfl)
  zE fun a w1 s=> ?_
 refine yJ (CU.agg (fRV m q)) rfl s (by kernel_rfl) (fun v W h=>jT h) fun b2 a w s=> ?_
 refine yJ (CU.agg (fRV m q')) rfl s (by kernel_rfl) (fun v W h=>jT h) fun b3 a w s=> ?_
 refine zY (CU.len 3) (cs:=zR3) (by kernel_rfl) rfl s (by kernel_rfl) (fun W=>rfl) rfl fun b4 a w s=> ?_
 refine zA rfl ?_
 refine wpIn_seq ?_
 refine yL [] 5 ((5, .s ((fRV m q).toSF))::(6, .s ((fRV m q').toSF))::(7, .s ((fQN (-q')).toSF))::(8, .s (fQS m [q,(-q')]))::(9, .u (fQN (q+ -q'))):: []) hmix s (by kernel_rfl)
  (oc (zK (f:=fRV m q) 3 (by kernel_rfl) (hz:=qD _ _))<|oc (zK (f:=fRV m q') 3 (by kernel_rfl) (hz:=qD _ _))<|oc (zI zD zSj (fun u0 W hb (h0:RVp m q' u0 W)=>zRp h0 (by omega) hm0 (hT.below (s.up hb))))<|oc (yE (fun u v W (hu:RVp m q u W) (hv:QNp (-q') v W)=>zHI hu (QNp.rv hv hq'.neg)))<|oc (zI zD zSz (fun u0 W hb (h0:(fQS m [q,(-q')]).p u0 W)=>zPT h0 hq hq'.neg (by omega) (hT.below (s.up hb))))<|zE) fun Q' hQ a w2 s=> ?_
 refine zV (CU.agg (fQN (q+ -q'))) ((fQN (q+ -q')).toSF) rfl s (by kernel_rfl) rfl rfl rfl iiz iiz yK fun a w s=> ?_
 refine zA rfl (hQ _ _ ?_)
 refine wpIn_ret ?_
 exact StS.resC s (CU.agg (fQN (q+ -q'))) rfl (by kernel_rfl) rfl rfl (qX _) (fun cs W h=>by rw [Rat.sub_eq_add_neg];exact h)
def UVx (n:Nat) (k:Int) (v:Value) (w:World):Prop:= ∃s A c l,v= .agg #[.bool s, .slice A n c]∧Rd w A n c l∧Lt l∧iv s l=k
def LVx (n x:Nat) (v:Value) (w:World):Prop:= ∃A c l,v= .slice A n c∧Rd w A n c l∧Lt l∧val l=x
def QXp (n n':Nat) (k:Int) (d:Nat) (v:Value) (w:World):Prop:= ∃b s t,v= .agg #[b,s,t]∧UVx n k (.agg #[b,s]) w∧LVx n' d t w
def fQX (n n':Nat) (k:Int) (d:Nat):UF:= .mk' (QXp n n' k d) fun _ _ _ ⟨b,s,t,e,⟨sg,A,c,l,e1,h1,h2⟩,A',c',l',e2,h1',h2'⟩ u=>⟨b,s,t,e,⟨sg,A,c,l,e1,h1.keepU u,h2⟩,A',c',l',e2,h1'.keepU u,h2'⟩
theorem zTh {n n' m:Nat} {k:Int} {d:Nat} {v:Value} {W:World} (h:QXp n n' k d v W) (h1:n≤m) (h2:n'≤m):QVp m k d v W:=by
 obtain ⟨b,s,t,e,⟨sg,A,c,l,e1,g1,g2,g3⟩,A',c',l',e2,g1',g2',g3'⟩:=h
 exact ⟨b,s,t,e,⟨sg,A,n,c,l,e1,g1,g2,h1,g3⟩,A',n',c',l',e2,g1',g2',h2,g3'⟩
theorem zLi {n n':Nat} {k:Int} {d:Nat} (cs:List Value) (W:World) (h:(CU.agg (fQX n n' k d)).p cs W): ∃u,cs[1]?=some u∧ ∃A c,u= .slice A n c:=by
 obtain ⟨b,s,t,e,⟨sg,A,c,l,e1,_⟩,_⟩:=h
 rw [zAs e]
 have:=congrArg Array.toList (jF e1)
 simp at this
 exact ⟨s,rfl,A,c,this.2⟩
theorem zLh {n n':Nat} {k:Int} {d:Nat} (cs:List Value) (W:World) (h:(CU.agg (fQX n n' k d)).p cs W): ∃u,cs[2]?=some u∧ ∃A c,u= .slice A n' c:=by
 obtain ⟨b,s,t,e,_,A,c,l,e1,_⟩:=h
 rw [zAs e]
 exact ⟨t,rfl,A,c,e1⟩
theorem zOM (n n':Nat) (k:Int) (d:Nat): ∀cs:List Value, ∀W,(fQX n n' k d).p (.agg cs.toArray) W→cs.length=3:=fun cs W ⟨b,s,t,e,_⟩=>by rw [zAs e];rfl
def fSl (n:Nat):UF:= .mk' (fun v _=> ∃A c,v= .slice A n c) fun _ _ _ h _=>h
end Go.Proofs.Wd

namespace Go.Proofs.Wd
set_option maxRecDepth 100000
open Go.RowKit Lb
structure QX where
 n:Nat
 n':Nat
 k:Int
 d:Nat
abbrev QX.cu (x:QX):CU:=CU.agg (fQX x.n x.n' x.k x.d)
def zAF (L:List QX) (k:Nat):Nat:=((L.take k).map fun x=>min (x.n+x.n') 1000).sum
theorem zCF {L:List QX} {k:Nat} {x:QX} (h:L[k]?=some x):zAF L (k+1)=zAF L k+min (x.n+x.n') 1000:=by
 unfold zAF
 rw [List.take_add_one,h]
 simp
theorem zNA (L:List QX) (k:Nat):zAF L k≤1000*k:=by
 induction k with
 |zero=>simp [zAF]
 | succ k ih=>
  cases h:L[k]? with
  |none=>
   have:zAF L (k+1)=zAF L k:=by unfold zAF;rw [List.take_add_one,h];simp
   omega
  |some x=>
   rw [zCF h]
   omega
theorem zLm {L:List QX} {k i:Nat} {x:QX} (h:L[i]?=some x) (hi:i<k):min (x.n+x.n') 1000≤zAF L k:=by
 induction k with
 |zero=>omega
 | succ k ih=>
  by_cases e:i=k
  ·subst e;rw [zCF h];omega
  ·have h1:=ih (by omega)
   cases h2:L[k]? with
   |none=>
    have:zAF L (k+1)=zAF L k:=by unfold zAF;rw [List.take_add_one,h2];simp
    omega
   |some y=>rw [zCF h2];omega
def gq (L:List QX):Bool:=decide ((((L.map QX.cu).length:Nat):Int)>60)||decide (((zAF L (min (L.map QX.cu).length 61):Nat):Int)>40)
theorem zOa {L:List QX} (h:gq L=false): ∀x,x∈L→x.n≤40∧x.n'≤40:=by
 unfold gq at h
 rw [Bool.or_eq_false_iff] at h
 have h1:=of_decide_eq_false h.1
 have h2:=of_decide_eq_false h.2
 rw [List.length_map] at h1 h2
 intro x hx
 obtain ⟨i,hi⟩:=List.getElem?_of_mem hx
 have hlt:=(List.getElem?_eq_some_iff.1 hi).1
 have h3:=zLm hi (k:=min L.length 61) (by omega)
 omega
theorem wrap64 (u:Int) (r:Nat) (h:u=r) (hr:r<9223372036854775808):IntKind.i64.wrap u=r:=by
 subst h
 rw [IntKind.wrap_i64]
 omega
theorem zK9 {W:World} {v:Value} {L:List QX} (h:(SF.row 3 (L.map QX.cu)).p v W) (hL: ∀x,x∈L→x.n+x.n'<9223372036854775808):Calls Tryz.prog 37 #[v] W (Ret W (fB (gq L)).toSF):=by
 refine z7 [SF.row 3 (L.map QX.cu)] Tryz.func37 rfl (by kernel_rfl) ⟨h,trivial⟩ fun a s=> ?_
 refine wpIn_seq ?_
 refine zB 1 ((2, .u (UF.eq (.bool false))):: []) hmix s (by kernel_rfl)
  (oc zG<|zE) fun a w1 s=> ?_
 refine zA rfl ?_
 refine wpIn_seq ?_
 refine zB 1 ((3, .u (UF.eq (.int .i64 0))):: []) hmix s (by kernel_rfl)
  (oc zG<|zE) fun a w2 s=> ?_
 refine zA rfl ?_
 refine wpIn_seq ?_
 refine wpIn_seq ?_
 refine zB 1 ((4, .u (UF.eq (.int .i64 0))):: []) hmix s (by kernel_rfl)
  (oc zG<|zE) fun a w3 s=> ?_
 refine zA rfl ?_
 refine wpIn_block ?_
 refine zKB (min (L.map QX.cu).length 61) 4 (fun k=> [(0, .o (SF.row 3 ((L).map QX.cu))),(4, .u (fI ((k:Nat):Int))),(3, .u (fI ((zAF L k:Nat):Int)))]) (fun k=>mz1) (s.keepK _ (fmz ⟨mz3,fmz ⟨.head _,fmz ⟨mz1,fnz⟩⟩⟩)) fun k a w hk s=> ?_
 refine wpIn_seq ?_
 refine wpIn_seq ?_
 refine zB 8 ((5, .s ((fI ((k:Nat):Int)).toSF))::(6, .s (SF.row 3 ((L).map QX.cu)))::(7, .s ((UF.eq (.int .i64 ((((L).map QX.cu).length:Nat):Int))).toSF))::(8, .s ((UF.eq (.bool (decide (((k:Nat):Int)<((((L).map QX.cu).length:Nat):Int))))).toSF))::(9, .s ((UF.eq (.bool (decide (((k:Nat):Int)<((((L).map QX.cu).length:Nat):Int))))).toSF))::(10, .s (SF.imp (decide (((k:Nat):Int)<((((L).map QX.cu).length:Nat):Int))=true) ((fI ((k:Nat):Int)).toSF)))::(11, .s (SF.imp (decide (((k:Nat):Int)<((((L).map QX.cu).length:Nat):Int))=true) ((UF.eq (.bool (decide (((k:Nat):Int)≤60)))).toSF)))::(12, .u (UF.eq (.bool ((decide (((k:Nat):Int)<((((L).map QX.cu).length:Nat):Int)))&&(decide (((k:Nat):Int)≤60)))))):: []) hmix s (by kernel_rfl)
  (oc zC<|oc zC<|oc (zCm (z:=3) (Cs:=(L).map QX.cu) (by kernel_rfl) iiz (fun _=>rfl))<|oc (zQ .i64 ((k:Nat):Int) ((((L).map QX.cu).length:Nat):Int) (decide (((k:Nat):Int)<((((L).map QX.cu).length:Nat):Int))) iiz iiz rfl rfl)<|oc zC<|oc (zF 9 (decide (((k:Nat):Int)<((((L).map QX.cu).length:Nat):Int))) (by kernel_rfl) iiz (fun e=>zR [] ((fI ((k:Nat):Int)).toSF) fnz (fun _ _ h _=>h) (by kernel_rfl) zC) (fun e W h=>absurd h e))<|oc (zF 9 (decide (((k:Nat):Int)<((((L).map QX.cu).length:Nat):Int))) (by kernel_rfl) iiz (fun e=>zR [(10,(fI ((k:Nat):Int)).toSF)] ((UF.eq (.bool (decide (((k:Nat):Int)≤60)))).toSF) (fmz ⟨fun v W h=>zJ (c:=decide (((k:Nat):Int)<((((L).map QX.cu).length:Nat):Int))=true) (f:=(fI ((k:Nat):Int)).toSF) e h,fnz⟩) (fun _ _ h _=>h) (by kernel_rfl) (zQ .i64 ((k:Nat):Int) 60 (decide (((k:Nat):Int)≤60)) iiz iiz rfl rfl)) (fun e W h=>absurd h e))<|oc (yF (decide (((k:Nat):Int)<((((L).map QX.cu).length:Nat):Int))) iiz (fun e v W h=>jQ (zJ e h) e) (fun e v W h=>qY h e))<|zE) fun a w4 s=> ?_
 refine zA rfl ?_
 refine StS.cond s ((decide (((k:Nat):Int)<((((L).map QX.cu).length:Nat):Int)))&&(decide (((k:Nat):Int)≤60))) iiz (fun e=> ?_) (fun e=> ?_)
 ·rw [Bool.and_eq_true] at e
  have hk1:=of_decide_eq_true e.1
  have hk2:=of_decide_eq_true e.2
  have hk3:k<L.length:=by rw [List.length_map] at hk1;omega
  obtain ⟨x,hxl⟩: ∃x,L[k]?=some x:=⟨_,List.getElem?_eq_getElem hk3⟩
  have hx:(L.map QX.cu)[k]?=some x.cu:=by rw [List.getElem?_map,hxl];rfl
  have hxm:=hL x (List.mem_of_getElem? hxl)
  have hgs:=zCF hxl
  have hgl:=zNA L k
  refine wpIn_skip ?_
  refine wpIn_seq ?_
  refine wpIn_block ?_
  refine zES (K:= [(12, .u (UF.eq (.bool ((decide (((k:Nat):Int)<((((L).map QX.cu).length:Nat):Int)))&&(decide (((k:Nat):Int)≤60)))))),(0, .o (SF.row 3 ((L).map QX.cu))),(4, .u (fI ((k:Nat):Int)))]) [(3, .u (fI ((zAF L k:Nat):Int)))] [0,1,2,8,9] 17 ((15, .s ((fI ((zAF L k:Nat):Int)).toSF))::(16, .s (SF.row 3 ((L).map QX.cu)))::(17, .s ((fI ((k:Nat):Int)).toSF))::(18, .s (SF.ptr (QX.cu x).cf))::(19, .s (SF.ptr ((QX.cu x).cf.at 0)))::(20, .s (SF.ptr ((QX.cu x).cf.at 1)))::(21, .s ((fSl (x.n)).toSF))::(22, .s ((UF.eq (.int .i64 ((x.n:Nat):Int))).toSF))::(23, .s (SF.row 3 ((L).map QX.cu)))::(24, .s ((fI ((k:Nat):Int)).toSF))::(25, .s (SF.ptr (QX.cu x).cf))::(26, .s (SF.ptr ((QX.cu x).cf.at 2)))::(27, .s ((fSl (x.n')).toSF))::(28, .s ((UF.eq (.int .i64 ((x.n':Nat):Int))).toSF))::(29, .s ((UF.eq (.int .i64 ((x.n+x.n':Nat):Int))).toSF))::(30, .s ((UF.eq (.int .i64 (min ((x.n+x.n':Nat):Int) 1000))).toSF))::(31, .u (fI ((zAF L (k+1):Nat):Int))):: []) hmix (s.keepK _ (fmz ⟨mz3,fmz ⟨.head _,fmz ⟨mz1,fmz ⟨mz2,fnz⟩⟩⟩⟩)) (by kernel_rfl)
   (oc zC<|oc zC<|oc zC<|oc (zAK (z:=3) (Cs:=(L).map QX.cu) (i:=k) (C:=QX.cu x) (by kernel_rfl) hx iiz iiz)<|oc (zN (C:=(QX.cu x).cf) 0 (by kernel_rfl))<|oc (yT (C:=(QX.cu x).cf) 0 1 (by kernel_rfl))<|oc (jE (C:=(QX.cu x).cf) (k:=1) (by kernel_rfl) (h:=zLi))<|oc (zD7 (by kernel_rfl) (fun v W ⟨A,c,e⟩=>⟨A,x.n,c,e,rfl⟩))<|oc zC<|oc zC<|oc (zAK (z:=3) (Cs:=(L).map QX.cu) (i:=k) (C:=QX.cu x) (by kernel_rfl) hx iiz iiz)<|oc (zN (C:=(QX.cu x).cf) 2 (by kernel_rfl))<|oc (jE (C:=(QX.cu x).cf) (k:=2) (by kernel_rfl) (h:=zLh))<|oc (zD7 (by kernel_rfl) (fun v W ⟨A,c,e⟩=>⟨A,x.n',c,e,rfl⟩))<|oc (y7 .i64 ((x.n:Nat):Int) ((x.n':Nat):Int) ((x.n+x.n':Nat):Int) iiz iiz (wrap64 _ _ (by omega) (by omega)))<|oc (zLJ ((x.n+x.n':Nat):Int) 1000 iiz iiz)<|oc (y7 .i64 ((zAF L k:Nat):Int) (min ((x.n+x.n':Nat):Int) 1000) ((zAF L (k+1):Nat):Int) iiz iiz (wrap64 _ _ (by omega) (by omega)))<|zE) fun Q' hQ a w5 s=> ?_
  refine yU (fI ((zAF L (k+1):Nat):Int)) rfl s (by kernel_rfl) iiz fun a w s=> ?_
  refine zA rfl (hQ _ _ ?_)
  refine qC 2 ((13, .s ((fI ((k:Nat):Int)).toSF))::(14, .u (fI ((k+1:Nat):Int))):: []) s (by kernel_rfl)
   (oc zC<|oc (y7 .i64 ((k:Nat):Int) 1 ((k+1:Nat):Int) iiz iiz (wrap64 _ _ (by omega) (by omega)))<|zE) fun a w6 s=> ?_
  replace s:=s.drop [4]
  refine yU (fI ((k+1:Nat):Int)) rfl s (by kernel_rfl) iiz fun a w s=> ?_
  refine zA rfl ?_
  exact ⟨by omega,s.keepK _ (fmz ⟨mz5,fmz ⟨.head _,fmz ⟨mz2,fnz⟩⟩⟩)⟩
 ·rw [Bool.and_eq_false_iff] at e
  have hkN:k=min (L.map QX.cu).length 61:=by
   rcases e with e|e
   ·have:=of_decide_eq_false e;omega
   ·have:=of_decide_eq_false e;omega
  refine wpIn_exit ?_
  refine wpIn_seq ?_
  refine zB 8 ((32, .s (SF.row 3 ((L).map QX.cu)))::(33, .s ((UF.eq (.int .i64 ((((L).map QX.cu).length:Nat):Int))).toSF))::(34, .s ((UF.eq (.bool (decide (((((L).map QX.cu).length:Nat):Int)>60)))).toSF))::(35, .s ((UF.eq (.bool (decide (((((L).map QX.cu).length:Nat):Int)>60)))).toSF))::(36, .s (SF.imp (decide (((((L).map QX.cu).length:Nat):Int)>60)=false) ((fI ((zAF L k:Nat):Int)).toSF)))::(37, .s (SF.imp (decide (((((L).map QX.cu).length:Nat):Int)>60)=false) ((UF.eq (.bool (decide (((zAF L k:Nat):Int)>40)))).toSF)))::(38, .s ((UF.eq (.bool ((decide (((((L).map QX.cu).length:Nat):Int)>60))||(decide (((zAF L k:Nat):Int)>40))))).toSF))::(2, .u (UF.eq (.bool ((decide (((((L).map QX.cu).length:Nat):Int)>60))||(decide (((zAF L k:Nat):Int)>40)))))):: []) hmix s (by kernel_rfl)
   (oc zC<|oc (zCm (z:=3) (Cs:=(L).map QX.cu) (by kernel_rfl) iiz (fun _=>rfl))<|oc (zQ .i64 ((((L).map QX.cu).length:Nat):Int) 60 (decide (((((L).map QX.cu).length:Nat):Int)>60)) iiz iiz rfl rfl)<|oc zC<|oc (zF 35 (decide (((((L).map QX.cu).length:Nat):Int)>60)) (by kernel_rfl) iiz (fun e=>zR [] ((fI ((zAF L k:Nat):Int)).toSF) fnz (fun _ _ h _=>h) (by kernel_rfl) zC) (fun e W h=>absurd h e))<|oc (zF 35 (decide (((((L).map QX.cu).length:Nat):Int)>60)) (by kernel_rfl) iiz (fun e=>zR [(36,(fI ((zAF L k:Nat):Int)).toSF)] ((UF.eq (.bool (decide (((zAF L k:Nat):Int)>40)))).toSF) (fmz ⟨fun v W h=>zJ (c:=decide (((((L).map QX.cu).length:Nat):Int)>60)=false) (f:=(fI ((zAF L k:Nat):Int)).toSF) e h,fnz⟩) (fun _ _ h _=>h) (by kernel_rfl) (zQ .i64 ((zAF L k:Nat):Int) 40 (decide (((zAF L k:Nat):Int)>40)) iiz iiz rfl rfl)) (fun e W h=>absurd h e))<|oc (yF (decide (((((L).map QX.cu).length:Nat):Int)>60)) iiz (fun e v W h=>zCk h e) (fun e v W h=>zBA (zJ e h) e))<|oc zG<|zE) fun a w7 s=> ?_
  refine zA rfl ?_
  refine wpIn_ret ?_
  exact StS.res1 s (t:=2) rfl (fun _ _ h=>by rw [hkN] at h;exact h)
end Go.Proofs.Wd

namespace Go.Proofs.Wd
set_option maxRecDepth 100000
set_option maxHeartbeats 1000000
open Go.RowKit Lb
def T2 (m:Nat) (op:Rat→Rat→Rat) (xs:Array Value) (W:World) (R:SF):Prop:= ∃u v p q,xs=#[u,v]∧RVp m p u W∧RVp m q v W∧Tab W∧R=(fQN (op p q)).toSF
def T3 (m:Nat) (op:Rat→Rat→Rat) (xs:Array Value) (W:World) (R:SF):Prop:= ∃u v, ∃p q:V2,xs=#[u,v]∧(fPV m p).p u W∧(fPV m q).p v W∧Tab W∧R=(fPN (op p.1 q.1,op p.2 q.2)).toSF
def G1 (g:FuncId) (m:Nat) (op:Rat→Rat→Rat):Prop:= ∀(W:World) (s:Value) (p q:Rat),(fQS m [p,q]).p s W→QB p m→QB q m→Tab W→Calls Tryz.prog g #[s] W (Ret W (fQN (op p q)).toSF)
theorem zEb {u:Value}: ∀cs W,(CU.is [u]).p cs W→ ∃x,cs[0]?=some x∧(UF.eq u).p x W:=fun cs W h=>by
 obtain rfl:cs= [u]:=h
 exact ⟨u,rfl,rfl⟩
theorem zJf {u v:Value} {W:World} (h:v=u) (hu:u.cells=#[u]) (hn:yG u=true:=by rfl):(CU.is [u]).p v.cells.toList W∧v.cells.toList.all yG=true:=by
 subst h
 rw [hu]
 exact ⟨rfl,by simp [hn]⟩
section
variable {F:Fence} {m:Nat} {P:Program} {w0:World} {ops:Array Oper} {G:Nat→SF} {d:Tmp} {ty:TypeId} {pos:String} {aft:Array Edge}
end
theorem zRV {m:Nat} (hm:m≤650) (hm0:0<m) (W:World):(SF.fn Tryz.prog (T2 m (· - ·))).p (.func (.func 138) #[] #[]) W:=
 zJo (enters_of Tryz.func138 (by kernel_rfl) rfl) fun W' _ args R ⟨u,v,p,q,e,h1,h2,hT,hR⟩=>by
  subst e hR
  simpa using zOJ h1 h2 hm hm0 hT
theorem zOS {F:Fence} {m:Nat} {P:Program} {w0:World} {ops:Array Oper} {G:Nat→SF} {d:Tmp} {ty:TypeId} {pos:String} {aft:Array Edge} {y x x':Operand} {ats:Array TypeId} (T:Array Value→World→SF→Prop) (hF:zIm F m P) (hy: ∀v W,Below w0.heap.size w0 W→(fct G y).p v W→(SF.fn P T).p v W) (h: ∀u v W,Below w0.heap.size w0 W→(fct G x).p u W→(fct G x').p v W→T #[u,v] W (G d)):qK F m P w0 ops G ⟨some d, .call ⟨.value y,#[x,x'],ats⟩,ty,pos,aft,none⟩:=
 zLK T hF hy fun b W hb hh=>by simpa using h _ _ W hb (hh x (by simp)) (hh x' (by simp))
theorem zNK {m:Nat} {op:Rat→Rat→Rat} {W:World} {u v b f:Value} {p q:V2} (h1:(fPV m p).p u W) (h2:(fPV m q).p v W) (hb:(SF.ptr (CU.is [f]).cf).p b W) (hf:(SF.fn Tryz.prog (T2 m op)).p f W) (hT:Tab W):Calls Tryz.prog 149 #[u,v,b] W (Ret W (fPN (op p.1 q.1,op p.2 q.2)).toSF):=by
 refine z7 [(fPV m p).toSF,(fPV m q).toSF,SF.ptr (CU.is [f]).cf] Tryz.func149 rfl (by kernel_rfl) ⟨h1,h2,hb,trivial⟩ fun a s=> ?_
 refine wpIn_seq ?_
 refine zB 0 [] hmix s (by kernel_rfl)
  zE fun a w1 s=> ?_
 refine yJ (CU.agg (fPV m p)) rfl s (by kernel_rfl) (fun v W h=>yP h) fun b3 a w s=> ?_
 refine yJ (CU.agg (fPV m q)) rfl s (by kernel_rfl) (fun v W h=>yP h) fun b4 a w s=> ?_
 refine zY (CU.len 6) (cs:=zP6) (by kernel_rfl) rfl s (by kernel_rfl) (fun W=>rfl) rfl fun b5 a w s=> ?_
 refine zA rfl ?_
 refine wpIn_seq ?_
 refine yL [] 13 ((6, .s ((UF.eq f).toSF))::(7, .s (SF.ptr ((CU.agg (fPV m p)).cf.at 0)))::(8, .s ((fRV m ((p).1)).toSF))::(9, .s (SF.ptr ((CU.agg (fPV m q)).cf.at 0)))::(10, .s ((fRV m ((q).1)).toSF))::(11, .s ((fQN (op (p).1 (q).1)).toSF))::(12, .s ((UF.eq f).toSF))::(13, .s (SF.ptr ((CU.agg (fPV m p)).cf.at 3)))::(14, .s ((fRV m ((p).2)).toSF))::(15, .s (SF.ptr ((CU.agg (fPV m q)).cf.at 3)))::(16, .s ((fRV m ((q).2)).toSF))::(17, .s ((fQN (op (p).2 (q).2)).toSF))::(18, .u (fPN (op p.1 q.1,op p.2 q.2))):: []) hmix s (by kernel_rfl)
  (oc (jH (C:=(CU.is [f]).cf) (by kernel_rfl) iiz zEb)<|oc (zN (C:=(CU.agg (fPV m p)).cf) 0 (by kernel_rfl))<|oc (zX (C:=(CU.agg (fPV m p)).cf) (k:=0) 3 (by kernel_rfl) (h:=zFj))<|oc (zN (C:=(CU.agg (fPV m q)).cf) 0 (by kernel_rfl))<|oc (zX (C:=(CU.agg (fPV m q)).cf) (k:=0) 3 (by kernel_rfl) (h:=zFj))<|oc (zOS (T2 m op) zD (fun v W hb h=>by rw [show v=f from h];exact (SF.fn Tryz.prog (T2 m op)).st _ _ _ hf (s.up hb)) (fun u v W hb (h1:RVp m ((p).1) u W) (h2:RVp m ((q).1) v W)=>⟨u,v,_,_,rfl,h1,h2,hT.below (s.up hb),rfl⟩))<|oc (jH (C:=(CU.is [f]).cf) (by kernel_rfl) iiz zEb)<|oc (zN (C:=(CU.agg (fPV m p)).cf) 3 (by kernel_rfl))<|oc (zX (C:=(CU.agg (fPV m p)).cf) (k:=3) 3 (by kernel_rfl) (h:=zDM))<|oc (zN (C:=(CU.agg (fPV m q)).cf) 3 (by kernel_rfl))<|oc (zX (C:=(CU.agg (fPV m q)).cf) (k:=3) 3 (by kernel_rfl) (h:=zDM))<|oc (zOS (T2 m op) zD (fun v W hb h=>by rw [show v=f from h];exact (SF.fn Tryz.prog (T2 m op)).st _ _ _ hf (s.up hb)) (fun u v W hb (h1:RVp m ((p).2) u W) (h2:RVp m ((q).2) v W)=>⟨u,v,_,_,rfl,h1,h2,hT.below (s.up hb),rfl⟩))<|oc (qM (fun u v W (hu:QNp (op (p).1 (q).1) u W) (hv:QNp (op (p).2 (q).2) v W)=>zQS (zAJ _) (zAJ _) hu hv))<|zE) fun Q' hQ a w2 s=> ?_
 refine zV (CU.agg (fPN (op p.1 q.1,op p.2 q.2))) ((fPN (op p.1 q.1,op p.2 q.2)).toSF) rfl s (by kernel_rfl) rfl rfl rfl iiz iiz yR fun a w s=> ?_
 refine zA rfl (hQ _ _ ?_)
 refine wpIn_ret ?_
 exact StS.resC s (CU.agg (fPN (op p.1 q.1,op p.2 q.2))) rfl (by kernel_rfl) rfl rfl (zP _ _) (fun cs W h=>h)
theorem zQh {m:Nat} {op:Rat→Rat→Rat} {W:World} {f:Value} (hf:(SF.fn Tryz.prog (T2 m op)).p f W):Calls Tryz.prog 117 #[f] W (Ret W (SF.fn Tryz.prog (T3 m op))):=by
 have hfc:f.cells=#[f]∧yG f=true:=by obtain ⟨g,caps,rfl,_⟩:=hf;exact ⟨rfl,rfl⟩
 refine z7 [(UF.eq f).toSF] Tryz.func117 rfl (by kernel_rfl) ⟨rfl,trivial⟩ fun a s=> ?_
 refine wpIn_seq ?_
 refine zB 0 [] hmix s (by kernel_rfl)
  zE fun a w1 s=> ?_
 refine yJ (CU.is [f]) rfl s (by kernel_rfl) (fun v W h=>zJf h hfc.1 hfc.2) fun b1 a w s=> ?_
 refine yU (UF.eq (.nilFunc)) rfl s (by kernel_rfl) iiz fun a w s=> ?_
 refine zA rfl ?_
 refine wpIn_seq ?_
 replace s:=s.drop [2]
 refine jW 2 ((3, .s (SF.fn Tryz.prog (T3 m op)))::(2, .s (SF.fn Tryz.prog (T3 m op))):: []) hmix s (by kernel_rfl)
  (oc (zEr (fun u W hb (h:(SF.pb b1 (CU.is [f]).cf).p u W)=>zJo (enters_of Tryz.func149 (by kernel_rfl) rfl) (fun W' hb' args R ⟨u1,v1,p,q,e,h1,h2,hT,hR⟩=>by subst e hR;simpa using zNK h1 h2 ((SF.ptr (CU.is [f]).cf).st _ _ _ h.2 hb') ((SF.fn Tryz.prog (T2 m op)).st _ _ _ ((SF.fn Tryz.prog (T2 m op)).st _ _ _ hf (s.up hb)) hb') hT)))<|oc zG<|zE) fun a w2 s hr=> ?_
 refine zA rfl ?_
 refine wpIn_ret ?_
 exact StS.resN s (Below.refl _ _) rfl (hr (_,_) mz1)
theorem zOu {m:Nat} {W:World} {u v:Value} {p q:V2} (h1:(fPV m p).p u W) (h2:(fPV m q).p v W) (hm:m≤650) (hm0:0<m) (hT:Tab W):Calls Tryz.prog 102 #[u,v] W (Ret W (fPN (p.1 - q.1,p.2 - q.2)).toSF):=by
 refine z7 [(fPV m p).toSF,(fPV m q).toSF] Tryz.func102 rfl (by kernel_rfl) ⟨h1,h2,trivial⟩ fun a s=> ?_
 refine wpIn_seq ?_
 refine zB 0 [] hmix s (by kernel_rfl)
  zE fun a w1 s=> ?_
 refine yJ (CU.agg (fPV m p)) rfl s (by kernel_rfl) (fun v W h=>yP h) fun b2 a w s=> ?_
 refine yJ (CU.agg (fPV m q)) rfl s (by kernel_rfl) (fun v W h=>yP h) fun b3 a w s=> ?_
 refine zY (CU.len 6) (cs:=zP6) (by kernel_rfl) rfl s (by kernel_rfl) (fun W=>rfl) rfl fun b4 a w s=> ?_
 refine zA rfl ?_
 refine wpIn_seq ?_
 refine yL [] 4 ((5, .s (SF.fn Tryz.prog (T3 m (· - ·))))::(6, .s ((fPV m p).toSF))::(7, .s ((fPV m q).toSF))::(8, .u (fPN (p.1 - q.1,p.2 - q.2))):: []) hmix s (by kernel_rfl)
  (oc (zI zD zSA (fun u0 W hb h0=>by rw [show u0=_ from h0];exact zQh (zRV hm hm0 W)))<|oc (zK (f:=fPV m p) 6 (by kernel_rfl) (hz:=zP _ _))<|oc (zK (f:=fPV m q) 6 (by kernel_rfl) (hz:=zP _ _))<|oc (zRI (T3 m (· - ·)) zD iiz (fun u v W hb (h1:(fPV m p).p u W) (h2:(fPV m q).p v W)=>⟨u,v,p,q,rfl,h1,h2,hT.below (s.up hb),rfl⟩))<|zE) fun Q' hQ a w2 s=> ?_
 refine zV (CU.agg (fPN (p.1 - q.1,p.2 - q.2))) ((fPN (p.1 - q.1,p.2 - q.2)).toSF) rfl s (by kernel_rfl) rfl rfl rfl iiz iiz yR fun a w s=> ?_
 refine zA rfl (hQ _ _ ?_)
 refine wpIn_ret ?_
 exact StS.resC s (CU.agg (fPN (p.1 - q.1,p.2 - q.2))) rfl (by kernel_rfl) rfl rfl (zP _ _) (fun cs W h=>h)
theorem zMW {m:Nat} {W:World} {u v:Value} {p q:V2} (h1:(fPV m p).p u W) (h2:(fPV m q).p v W) (hp:QB p.1 m∧QB p.2 m) (hq:QB q.1 m∧QB q.2 m) (hm:m≤320) (hm0:0<m) (hT:Tab W):Calls Tryz.prog 108 #[u,v] W (Ret W (fQN (p.1*q.2 - p.2*q.1)).toSF):=by
 refine z7 [(fPV m p).toSF,(fPV m q).toSF] Tryz.func108 rfl (by kernel_rfl) ⟨h1,h2,trivial⟩ fun a s=> ?_
 refine wpIn_seq ?_
 refine zB 0 [] hmix s (by kernel_rfl)
  zE fun a w1 s=> ?_
 refine yJ (CU.agg (fPV m p)) rfl s (by kernel_rfl) (fun v W h=>yP h) fun b2 a w s=> ?_
 refine yJ (CU.agg (fPV m q)) rfl s (by kernel_rfl) (fun v W h=>yP h) fun b3 a w s=> ?_
 refine zY (CU.len 3) (cs:=zR3) (by kernel_rfl) rfl s (by kernel_rfl) (fun W=>rfl) rfl fun b4 a w s=> ?_
 refine zA rfl ?_
 refine wpIn_seq ?_
 refine yL [] 13 ((5, .s (SF.ptr ((CU.agg (fPV m p)).cf.at 0)))::(6, .s ((fRV m ((p).1)).toSF))::(7, .s (SF.ptr ((CU.agg (fPV m q)).cf.at 3)))::(8, .s ((fRV m ((q).2)).toSF))::(9, .s (fQS m [(p).1,(q).2]))::(10, .s ((fQN ((p).1*(q).2)).toSF))::(11, .s (SF.ptr ((CU.agg (fPV m p)).cf.at 3)))::(12, .s ((fRV m ((p).2)).toSF))::(13, .s (SF.ptr ((CU.agg (fPV m q)).cf.at 0)))::(14, .s ((fRV m ((q).1)).toSF))::(15, .s (fQS m [(p).2,(q).1]))::(16, .s ((fQN ((p).2*(q).1)).toSF))::(17, .u (fQN ((p).1*(q).2 - (p).2*(q).1))):: []) hmix s (by kernel_rfl)
  (oc (zN (C:=(CU.agg (fPV m p)).cf) 0 (by kernel_rfl))<|oc (zX (C:=(CU.agg (fPV m p)).cf) (k:=0) 3 (by kernel_rfl) (h:=zFj))<|oc (zN (C:=(CU.agg (fPV m q)).cf) 3 (by kernel_rfl))<|oc (zX (C:=(CU.agg (fPV m q)).cf) (k:=3) 3 (by kernel_rfl) (h:=zDM))<|oc (yE (fun u v W (hu:RVp m ((p).1) u W) (hv:RVp m ((q).2) v W)=>zHI hu hv))<|oc (zI zD zO9 (fun u0 W hb (h0:(fQS m [(p).1,(q).2]).p u0 W)=>zKX h0 hp.1 hq.2 (by omega) (hT.below (s.up hb))))<|oc (zN (C:=(CU.agg (fPV m p)).cf) 3 (by kernel_rfl))<|oc (zX (C:=(CU.agg (fPV m p)).cf) (k:=3) 3 (by kernel_rfl) (h:=zDM))<|oc (zN (C:=(CU.agg (fPV m q)).cf) 0 (by kernel_rfl))<|oc (zX (C:=(CU.agg (fPV m q)).cf) (k:=0) 3 (by kernel_rfl) (h:=zFj))<|oc (yE (fun u v W (hu:RVp m ((p).2) u W) (hv:RVp m ((q).1) v W)=>zHI hu hv))<|oc (zI zD zO9 (fun u0 W hb (h0:(fQS m [(p).2,(q).1]).p u0 W)=>zKX h0 hp.2 hq.1 (by omega) (hT.below (s.up hb))))<|oc (zH zD zSq (fun u0 u1 W hb (h0:QNp ((p).1*(q).2) u0 W) (h1:QNp ((p).2*(q).1) u1 W)=>zOJ (QNp.rv h0 (hp.1.mul hq.2)) (QNp.rv h1 (hp.2.mul hq.1)) (by omega) (by omega) (hT.below (s.up hb))))<|zE) fun Q' hQ a w2 s=> ?_
 refine zV (CU.agg (fQN ((p).1*(q).2 - (p).2*(q).1))) ((fQN ((p).1*(q).2 - (p).2*(q).1)).toSF) rfl s (by kernel_rfl) rfl rfl rfl iiz iiz yK fun a w s=> ?_
 refine zA rfl (hQ _ _ ?_)
 refine wpIn_ret ?_
 exact StS.resC s (CU.agg (fQN (p.1*q.2 - p.2*q.1))) rfl (by kernel_rfl) rfl rfl (qX _) (fun cs W h=>h)
end Go.Proofs.Wd

namespace Lb
set_option maxHeartbeats 1000000
theorem zQ2 {l:List Nat} (ht:Lt l) {j s x:Nat} (hj:j<l.length) (hz: ∀i,i<j→lm l i=0) (hx:lm l j=2^s*x) (ho:x % 2=1):TZ (val l) (32*j+s)∧s<32:=by
 have hb:=qF ht j
 have hs:s<32:=by
  have h1:2^s*1≤2^s*x:=Nat.mul_le_mul_left _ (by omega)
  rw [Nat.mul_one, ←hx] at h1
  exact (Nat.pow_lt_pow_iff_right (by decide)).1 (Nat.lt_of_le_of_lt h1 (by rw [zTY] at hb;simpa using hb))
 refine ⟨?_,hs⟩
 have e0:val (l.take j)=0:=by
  rw [zFF (by omega)]
  have:sm (lm l) j=sm (lm l) 0:=zCN (Nat.zero_le _) fun i _ hi=>hz i hi
  rw [this];rfl
 have e1:=jO l j (by omega)
 rw [e0,Nat.zero_add,zBc hj,hx,zFD] at e1
 obtain ⟨y,hy⟩: ∃y,val (l.drop (j+1))=y:=⟨_,rfl⟩
 rw [hy,show BB=2^s*(2*2^(31 - s)) from by rw [←Nat.pow_succ', ←Nat.pow_add,show s+(31 - s+1)=32 from by omega];rfl,Nat.mul_assoc, ←Nat.mul_add, ←Nat.mul_assoc, ←Nat.pow_add] at e1
 refine ⟨x / 2+2^(31 - s)*y, ?_⟩
 rw [e1]
 congr 1
 rw [Nat.mul_add, ←Nat.mul_assoc]
 omega
end Lb
namespace Go.Proofs.Wd
open Go.RowKit Lb
theorem zMY (A:Option Addr) (n c:Nat) (l:List Nat) (w:World) (h:Rd w A n c l) (ht:Lt l) (h0:0<val l) (hn:n≤2000):
  ∃q t:Nat,TZ (val l) (32*q+t)∧t≤31∧q<n∧Calls Tryz.prog 144 #[.slice A n c] w fun e w'=>e= .returned (.int .i64 ((32*q+t:Nat):Int))∧w'=w:=by
 obtain ⟨j,hjn,hjz,hj0⟩: ∃j,j<n∧(∀i,i<j→lm l i=0)∧lm l j≠0:=by
  have hex: ∃j,lm l j≠0:=by
   refine Classical.byContradiction fun hc=> ?_
   have hz: ∀i,lm l i=0:=fun i=>Classical.byContradiction fun e=>hc ⟨i,e⟩
   have:sm (lm l) l.length=sm (lm l) 0:=zCN (Nat.zero_le _) fun i _ _=>hz i
   have e:val l=sm (lm l) l.length:=rfl
   rw [e,this] at h0
   simp [sm] at h0
  have hmin: ∀k,(∃j,j≤k∧lm l j≠0)→ ∃j,(∀i,i<j→lm l i=0)∧lm l j≠0:=by
   intro k
   induction k with
   |zero=>rintro ⟨j,hj,e⟩;exact ⟨j,fun i hi=>by omega,e⟩
   |succ k ih=>
    rintro ⟨j,hj,e⟩
    by_cases hk: ∃j,j≤k∧lm l j≠0
    ·exact ih hk
    ·exact ⟨j,fun i hi=>Classical.byContradiction fun e'=>hk ⟨i,by omega,e'⟩,e⟩
  obtain ⟨j0,hj0⟩:=hex
  obtain ⟨j,h1,h2⟩:=hmin j0 ⟨j0,Nat.le_refl _,hj0⟩
  refine ⟨j, ?_,h1,h2⟩
  rw [←h.len]
  exact Nat.lt_of_not_le fun e=>h2 (zDq e)
 obtain ⟨s,hs⟩:=TZ.exists (lm l j) (by omega)
 obtain ⟨m,hm⟩:=hs
 obtain ⟨htz,hs32⟩:=zQ2 ht (s:=s) (x:=2*m+1) (by rw [h.len];exact hjn) hjz hm (by omega)
 refine ⟨j,s,htz,by omega,hjn, ?_⟩
 have hb:=qF ht j
 have hle:=h.le;have hcap:=h.cap
 have HJZ:=hid hjz;have HM:=hid hm;have HB:=hid hb
 obtain ⟨d,hd⟩: ∃d:Nat→Nat,d=fun i=>2^(s - i)*(2*m+1):=⟨_,rfl⟩
 have hd0:d 0=lm l j:=by rw [hd,hm];rfl
 have hds:d s % 2=1:=by rw [hd];simp
 have hdi: ∀i,i<s→d i % 2=0∧d i / 2=d (i+1):=fun i hi=>by
  rw [hd]
  show 2^(s - i)*(2*m+1) % 2=0∧2^(s - i)*(2*m+1) / 2=2^(s - (i+1))*(2*m+1)
  rw [show s - i=(s - (i+1))+1 from by omega,Nat.pow_succ',Nat.mul_assoc]
  omega
 have hdl: ∀i,d i≤d 0:=fun i=>by
  rw [hd]
  exact Nat.mul_le_mul_right _ (Nat.pow_le_pow_right (by omega) (by omega))
 have HD0:=hid hd0;have HDS:=hid hds;have HDI:=hid hdi;have HDL:=hid hdl
 clear hd hd0 hds hdi hdl
 have HL:Hid (∀i,lm l i<4294967296):=hid fun i=>qF ht i
 clear hjz hm htz hb h0
 go_enter Tryz.func144,Tryz.ntmps144
 go_wp2
 go_loopw [3,4] (fun t i wr=> ∃k:Nat,k≤j∧i= .int .i64 k∧t= .int .i64 ((32*k:Nat):Int)∧wr=w) (fun _ i _=>j - (intOf i).toNat)
 case atStart=>exact ⟨0,Nat.zero_le _,rfl,rfl,rfl⟩
 case round=>
  obtain ⟨k,hk,rfl,rfl,rfl⟩:=hrel
  obtain ⟨b,o,rfl,hc⟩:=h.cells k (by omega)
  by_cases hkj:k<j
  ·have hz:=HJZ.out k hkj
   rw [hz] at hc
   clear hz
   go_wp2
   go_roundw
   case rel=>exact ⟨k+1,by omega,by go_num,by go_num,trivial⟩
   case measure=>simp [intOf];omega
  ·obtain rfl:k=j:=by omega
   have hlk:=HL.out k
   obtain ⟨x,hx⟩: ∃x,lm l k=x:=⟨_,rfl⟩
   rw [hx] at hc hj0 hlk
   have HX:=hid hx
   clear hx
   have e1:((32*k:Nat):Int).tdiv 32=(k:Int):=by rw [Int.tdiv_eq_ediv_of_nonneg (by omega)];omega
   have e2:(((32*k:Nat):Int) / 32)=(k:Int):=by omega
   have hx2:((x:Int)==0)=false:=by simpa using hj0
   go_wp2
   go_loopw [3,5] (fun t y wr2=> ∃i:Nat,i≤s∧t= .int .i64 ((32*k+i:Nat):Int)∧y= .int .u32 (d i:Nat)∧wr2=wr) (fun t _ _=>32*k+s - (intOf t).toNat)
   case atStart=>exact ⟨0,Nat.zero_le _,rfl,by rw [HD0.out,HX.out],rfl⟩
   case round=>
    obtain ⟨i,hi,rfl,rfl,rfl⟩:=hrel
    have hdx:=HDL.out i
    rw [HD0.out,HX.out] at hdx
    by_cases his:i<s
    ·obtain ⟨q1,q2⟩:=HDI.out i his
     obtain ⟨y,hy⟩: ∃y,d i=y:=⟨_,rfl⟩
     rw [hy] at q1 q2 hdx ⊢
     have HY:=hid q2
     clear q2 hy
     go_wp2
     go_roundw
     case rel=>exact ⟨i+1,by omega,by go_num,by rw [←HY.out];go_num,trivial⟩
     case measure=>simp [intOf];omega
    ·obtain rfl:i=s:=by omega
     have q1:=HDS.out
     obtain ⟨y,hy⟩: ∃y,d i=y:=⟨_,rfl⟩
     rw [hy] at q1 hdx ⊢
     clear hy
     go_wp2
     go_ret
     exact ⟨rfl,rfl⟩
theorem zKW {W:World} {m:Nat} {v v':Value} {a b:Nat} (h:LV W m v a) (h':LV W m v' b) (hm:m≤100000):Calls Tryz.prog 70 #[v,v'] W (zMJ W (a*b)):=by
 obtain ⟨A,n,c,l,rfl,h1,h2,h3,rfl⟩:=h
 obtain ⟨A',n',c',l',rfl,h1',h2',h3',rfl⟩:=h'
 exact (zIL A n c l A' n' c' l' W h1 h1' h2 h2' (by omega) (by omega)).mono fun _ _=>q6.v
theorem zDF {W:World} {m:Nat} {v:Value} {a:Nat} (h:LV W m v a) (hm:m≤100000):Calls Tryz.prog 85 #[v] W (zMJ W a):=by
 obtain ⟨A,n,c,l,rfl,h1,h2,h3,rfl⟩:=h
 exact (jA A n c l W h1 h2 (by omega)).mono fun _ _=>q6.v
theorem qH.open {W:World} {v:Value} {x:Nat} (h:qH W v x): ∃A n c,v= .slice A n c∧(x=0→n=0)∧(0<x→0<n)∧n≤c∧c≤9223372036854775807∧qH W (.slice A n c) x:=by
 obtain ⟨A,n,c,l,rfl,h1,h2⟩:=h
 have h3:=h1.zero_iff;have h4:=h1.pos_iff
 rw [h2.len] at h3 h4
 exact ⟨A,n,c,rfl,h3.1,h4.1,h2.le,h2.cap,⟨A,n,c,l,rfl,h1,h2⟩⟩
end Go.Proofs.Wd

namespace Lb
set_option maxHeartbeats 2000000
theorem zOT {x k:Nat} (h:TZ x k):x / 2^k % 2=1∧x / 2^k≤x∧0<x / 2^k:=by
 have:=h.part.2
 exact ⟨this,Nat.div_le_self _ _,Nat.pos_of_ne_zero fun e=>by rw [e] at this;simp at this⟩
def Bin (G x y:Nat):Prop:=0<y∧(x=0→y=G)∧ ∀i j,TZ x i→TZ y j→Nat.gcd (x / 2^i) (y / 2^j)=G
theorem Bin.start {a b i j:Nat} (hi:TZ a i) (hj:TZ b j):Bin (Nat.gcd (a / 2^i) (b / 2^j)) a b:=
 ⟨hj.pos,fun e=>by have:=hi.pos;omega,fun i' j' h1 h2=>by rw [h1.unique hi,h2.unique hj]⟩
theorem Bin.turn {G x y:Nat} (hx:x % 2=1) (hy:y % 2=1) (hg:Nat.gcd x y=G) (hle:y≤x):Bin G (x - y) y:=by
 refine ⟨by omega,fun e=> ?_,fun i j h1 h2=> ?_⟩
 ·have:x=y:=by omega
  rw [←hg,this,Nat.gcd_self]
 ·have hj:j=0:=h2.unique (TZ.odd hy)
  rw [hj,Nat.pow_zero,Nat.div_one,Nat.gcd_comm,TZ.gcd_odd hy h1,Nat.gcd_comm,zGi hle,hg]
end Lb
namespace Go.Proofs.Wd
open Go.RowKit Lb
theorem zKZ {W:World} {m:Nat} {A:Option Addr} {n c:Nat} {x q t:Nat} (h:qH W (.slice A n c) x) (hx:x<BB^m) (hm:m≤2000) (htt:t≤31) (hq:q<n):Calls Tryz.prog 145 #[.slice A n c, .int .i64 ((32*q+t:Nat):Int)] W (zMJ W (x / 2^(32*q+t))):=by
 obtain ⟨A1,n1,c1,l1,e1,h1,h2⟩:=h
 cases e1
 have hn:n≤m:=zHd h1 h2 hx
 have:=zK0 A n c l1 q t W h2 h1.lt htt (by omega) (by omega) (by omega)
 rw [h1.val] at this
 exact this.mono fun _ _=>q6.v
theorem zTd {W:World} {m:Nat} {A:Option Addr} {n c:Nat} {x q t:Nat} (h:LV W m (.slice A n c) x) (hm:m≤2000) (htt:t≤31) (hq:q≤2000):Calls Tryz.prog 148 #[.slice A n c, .int .i64 ((32*q+t:Nat):Int)] W (zMJ W (x*2^(32*q+t))):=by
 obtain ⟨A1,n1,c1,l1,e1,h1,h2,h3,rfl⟩:=h
 cases e1
 exact (zKN A n c l1 q t W h1 h2 htt (by omega) (by omega)).mono fun _ _=>q6.v
def zTR (w:World) (x:Nat):Ending→World→Prop:=fun e w'=> ∃v,e= .returned (.tuple #[v, .int .i64 0])∧qH w' v x∧Below w.heap.size w w'
theorem zOH {W:World} {m:Nat} {v v':Value} {a b:Nat} (h:LV W m v a) (h':LV W m v' b) (hm:m≤2000) (hab:b≤a):Calls Tryz.prog 147 #[v,v'] W (zTR W (a - b)):=by
 obtain ⟨A,n,c,l,rfl,h1,h2,h3,rfl⟩:=h
 obtain ⟨A',n',c',l',rfl,h1',h2',h3',rfl⟩:=h'
 refine (zFQ A n c l A' n' c' l' W h1 h1' h2 h2' hab (by omega)).mono ?_
 rintro e w' ⟨A1,n1,c1,l1,rfl,i1,r1,hb⟩
 exact ⟨_,rfl,⟨A1,n1,c1,l1,rfl,i1,r1⟩,hb⟩
theorem zIs {W:World} {m:Nat} {A:Option Addr} {n c:Nat} {x:Nat} (h:qH W (.slice A n c) x) (hx:x<BB^m) (hm:m≤2000) (h0:0<x):
  ∃q t:Nat,TZ x (32*q+t)∧t≤31∧q<n∧n≤m∧Calls Tryz.prog 144 #[.slice A n c] W fun e w'=>e= .returned (.int .i64 ((32*q+t:Nat):Int))∧w'=W:=by
 obtain ⟨A1,n1,c1,l1,e1,h1,h2⟩:=h
 cases e1
 have hn:n≤m:=zHd h1 h2 hx
 obtain ⟨q,t,k1,k2,k3,k4⟩:=zMY A n c l1 W h2 h1.lt (by rw [h1.val];exact h0) (by omega)
 rw [h1.val] at k1
 exact ⟨q,t,k1,k2,k3,hn,k4⟩
theorem qH.rdv {W:World} {v:Value} {x:Nat} (h:qH W v x):rdv W v=x:=by
 obtain ⟨A1,n1,c1,l1,rfl,h1,h2⟩:=h
 exact h2.rdv h1
def RgI (w:World) (m G:Nat) (u v:Value) (W:World):Prop:= ∃A n c A' n' c' x y,u= .slice A n c∧v= .slice A' n' c'∧qH W (.slice A n c) x∧qH W (.slice A' n' c') y∧x<BB^m∧y<BB^m∧Bin G x y∧Below w.heap.size w W
theorem zP9 {W:World} {m:Nat} {v v':Value} {a b:Nat} (h:LV W m v a) (h':LV W m v' b) (hm:m≤2000):Calls Tryz.prog 114 #[v,v'] W (zMJ W (Nat.gcd a b)):=by
 have hla:=h.bound;have hlb:=h'.bound
 obtain ⟨A0,n0,c0,rfl,-,k1,k2,h⟩:=h.open
 obtain ⟨B0,m0,d0,rfl,-,k3,k4,h'⟩:=h'.open
 go_enter Tryz.func114,Tryz.ntmps114
 go_wp2_with fail
 refine (zDF h (by omega)).mono ?_
 rintro e w1 ⟨va,rfl,ha,b1⟩
 obtain ⟨A,n,c,rfl,za,pa,ia,ja,ha⟩:=ha.open
 go_wp2_with fail
 refine (zDF (h'.below b1) (by omega)).mono ?_
 rintro e w2 ⟨vb,rfl,hb,b2⟩
 obtain ⟨A',n',c',rfl,zb,pb,ib,jb,hb⟩:=hb.open
 have b02:=b1.trans (b2.mono b1.size)
 have ha2:=ha.below b2
 clear h h' ha b1 b2 k1 k2 k3 k4
 by_cases h0:a=0∨b=0
 ·have hg:Nat.gcd a b=a+b:=by
   rcases h0 with e|e
   ·rw [e];simp
   ·rw [e];simp
  have h00:n=0∨(0<n∧n'=0):=by
   rcases Nat.eq_zero_or_pos n with e|e
   ·exact .inl e
   ·refine .inr ⟨e,zb (h0.resolve_left fun e'=> ?_)⟩
    have:=za e';omega
  have HG:=hid hg
  clear za pa zb pb h0 hg
  have ad:=zPU (ha2.lv hla) (hb.lv hlb) (by omega) 24
  have bS:Below w2.heap.size w2 (w2.alloc (.cells #[.slice A n c, .slice A' n' c'] 24)):=(Below.refl _ w2).alloc (Nat.le_refl _) _
  have HLA:=hid hla;have HLB:=hid hlb
  clear hla hlb
  rcases h00 with rfl|⟨e1,rfl⟩
  all_goals
   go_wp2_with fail
   refine ad.mono ?_
   rintro e w4 ⟨vs,rfl,hs,b4⟩
   go_wp2_with fail
   go_ret
   exact ⟨vs,rfl,by rw [HG.out];exact hs,b02.trans ((bS.trans (b4.mono bS.size)).mono b02.size)⟩
 ·have hn0:0<n:=pa (by omega)
  have hn0':0<n':=pb (by omega)
  have hnb:((n:Int)==0)=false:=by simp;omega
  have hnb':((n':Int)==0)=false:=by simp;omega
  obtain ⟨q,t,hz,ht,hq,hnm,htw⟩:=zIs ha2 hla hm (by omega)
  obtain ⟨q',t',hz',ht',hq',hnm',htw'⟩:=zIs hb hlb hm (by omega)
  have hgcd:=hz.gcd hz'
  have hbin:=Bin.start hz hz'
  have hG0:Nat.gcd (a / 2^(32*q+t)) (b / 2^(32*q'+t'))<BB^m:=zOZ (Nat.lt_of_le_of_lt (Nat.div_le_self _ _) hla) (Nat.lt_of_le_of_lt (Nat.div_le_self _ _) hlb)
  obtain ⟨G,hG⟩: ∃G,Nat.gcd (a / 2^(32*q+t)) (b / 2^(32*q'+t'))=G:=⟨_,rfl⟩
  rw [hG] at hgcd hbin hG0
  obtain ⟨p,s,hs,hps,hpq⟩: ∃p s:Nat,s≤31∧p≤2000∧min (32*q+t) (32*q'+t')=32*p+s:=by
   rcases Nat.le_total (32*q+t) (32*q'+t') with e|e
   ·exact ⟨q,t,ht,by omega,by omega⟩
   ·exact ⟨q',t',ht',by omega,by omega⟩
  rw [hpq] at hgcd
  have hmin:min ((32*q+t:Nat):Int) ((32*q'+t':Nat):Int)=((32*p+s:Nat):Int):=by omega
  have HGC:=hid hgcd;have HBI:=hid hbin;have HG0:=hid hG0
  obtain ⟨k,hk⟩: ∃k,32*q+t=k:=⟨_,rfl⟩
  obtain ⟨k',hk'⟩: ∃k,32*q'+t'=k:=⟨_,rfl⟩
  rw [hk] at htw hmin
  rw [hk'] at htw' hmin
  obtain ⟨K,hK⟩: ∃K,32*p+s=K:=⟨_,rfl⟩
  rw [hK] at hmin
  have HK:=hid hK
  have hK2:K≤64500:=by omega
  have hk2:k≤64500:=by omega
  have hk2':k'≤64500:=by omega
  have HLA:=hid hla;have HLB:=hid hlb
  clear hgcd hbin hG0 hz hz' hG hpq hk hk' hK za pa zb pb hq hq' ht ht' hnm hnm' h0 hla hlb
  go_wp2_with fail
  refine htw.mono ?_
  rintro e w3 ⟨rfl,rfl⟩
  go_wp2_with fail
  refine htw'.mono ?_
  rintro e w3 ⟨rfl,rfl⟩
  go_wp2
  go_loopw [0,1] (RgI W m G) (fun u v wr=>rdv wr u+rdv wr v)
  case atStart=>exact ⟨A,n,c,A',n',c',a,b,rfl,rfl,ha2,hb,HLA.out,HLB.out,HBI.out,b02⟩
  case round=>
   clear ha2 hb b02 hn0 hn0' hnb hnb' htw htw' ia ja ib jb hmin
   obtain ⟨A1,n1,c1,A2,n2,c2,x,y,rfl,rfl,hx,hy,hxl,hyl,hbn,hB⟩:=hrel
   obtain ⟨_,_,_,e1,zx,px,ix,jx,_⟩:=hx.open
   cases e1
   obtain ⟨_,_,_,e1,zy,py,iy,jy,_⟩:=hy.open
   cases e1
   have hy0:=hbn.1
   have HBN:=hid hbn
   have HXL:=hid hxl;have HYL:=hid hyl
   rcases Nat.eq_zero_or_pos n1 with h0|h0
   ·have hx0:x=0:=by
     rcases Nat.eq_zero_or_pos x with e|e
     ·exact e
     ·have:=px e;omega
    have hyG:=hbn.2.1 hx0
    have HYG:=hid hyG
    have hup:=zTd (q:=p) (t:=s) (hy.lv hyl) hm hs hps
    rw [HK.out] at hup
    subst h0
    clear hbn hxl hyl hx0 hyG zx px zy py
    go_wp2_with fail
    refine hup.mono ?_
    rintro e w5 ⟨v5,rfl,hv5,hb5⟩
    go_wp2_with fail
    go_ret
    exact ⟨v5,rfl,by rw [HGC.out,HK.out, ←HYG.out,Nat.mul_comm];exact hv5,hB.trans (hb5.mono hB.size)⟩
   ·have hx0:0<x:=Nat.pos_of_ne_zero fun e=>by have:=zx e;omega
    obtain ⟨q1,t1,z1,ht1,hq1,hnm1,htw1⟩:=zIs hx hxl hm hx0
    have hd1:=zKZ hx hxl hm ht1 hq1
    obtain ⟨o1,o2,o3⟩:=zOT z1
    obtain ⟨k1,hk1⟩: ∃k,32*q1+t1=k:=⟨_,rfl⟩
    have hk1l:k1≤64500:=by omega
    rw [hk1] at htw1 hd1 z1 o1 o2 o3
    have Z1:=hid z1
    obtain ⟨X,hX⟩: ∃X,x / 2^k1=X:=⟨_,rfl⟩
    have HX:=hid hX
    rw [hX] at hd1 o1 o2 o3
    clear z1 hX hk1 ht1 hq1 hnm1 hbn zx px zy py
    have HO1:=hid o1
    have hrx:=hx.rdv;have hry:=hy.rdv
    have HRX:=hid hrx;have HRY:=hid hry
    clear hrx hry o1
    go_wp2_with fail
    refine htw1.mono ?_
    rintro e w5 ⟨rfl,rfl⟩
    go_wp2_with fail
    refine hd1.mono ?_
    rintro e w6 ⟨v6,rfl,h6,b6⟩
    obtain ⟨A6,n6,c6,rfl,z6,p6,i6,j6,h6⟩:=h6.open
    have hy6:=hy.below b6
    obtain ⟨q2,t2,z2,ht2,hq2,hnm2,htw2⟩:=zIs hy6 hyl hm hy0
    have hd2:=zKZ hy6 hyl hm ht2 hq2
    obtain ⟨o4,o5,o6⟩:=zOT z2
    obtain ⟨k2,hk2⟩: ∃k,32*q2+t2=k:=⟨_,rfl⟩
    have hk2l:k2≤64500:=by omega
    rw [hk2] at htw2 hd2 z2 o4 o5 o6
    have Z2:=hid z2
    obtain ⟨Y,hY⟩: ∃Y,y / 2^k2=Y:=⟨_,rfl⟩
    have HY:=hid hY
    rw [hY] at hd2 o4 o5 o6
    clear z2 hY hk2 ht2 hq2 hnm2 htw1 hd1 z6 p6
    have HO4:=hid o4
    clear o4
    go_wp2_with fail
    refine htw2.mono ?_
    rintro e w7 ⟨rfl,rfl⟩
    go_wp2_with fail
    refine hd2.mono ?_
    rintro e w8 ⟨v8,rfl,h8,b8⟩
    obtain ⟨A8,n8,c8,rfl,z8,p8,i8,j8,h8⟩:=h8.open
    have h68:=h6.below b8
    have b68:=b6.trans (b8.mono b6.size)
    have hB8:=hB.trans (b68.mono hB.size)
    have hXl:X<BB^m:=Nat.lt_of_le_of_lt o2 HXL.out
    have hYl:Y<BB^m:=Nat.lt_of_le_of_lt o5 HYL.out
    have hXY:Nat.gcd X Y=G:=by rw [←HX.out, ←HY.out];exact HBN.out.2.2 _ _ Z1.out Z2.out
    have HXY:=hid hXY
    obtain ⟨cz,hcz⟩: ∃cz,zAp X Y=cz:=⟨_,rfl⟩
    have hc1:=zRn (h68.lv hXl) (h8.lv hYl)
    have hcl:cz<0↔X<Y:=by
     rw [←hcz]
     unfold zAp
     split
     ·exact ⟨fun _=>by assumption,fun _=>by omega⟩
     ·split
      ·exact ⟨fun h=>by omega,fun h=>by omega⟩
      ·exact ⟨fun h=>by omega,fun h=>by omega⟩
    rw [hcz] at hc1
    clear htw2 hd2 z8 p8 h6 hy6 hx hy hXY hcz hxl hyl
    have HXl:=hid hXl;have HYl:=hid hYl
    clear hXl hYl
    rcases Nat.lt_or_ge X Y with hlt|hge
    ·have hcz:cz<0:=hcl.2 hlt
     have hsb:=zOH (h8.lv HYl.out) (h68.lv HXl.out) hm (Nat.le_of_lt hlt)
     have hbt:=Bin.turn (G:=G) HO4.out HO1.out (by rw [Nat.gcd_comm];exact HXY.out) (Nat.le_of_lt hlt)
     have HBT:=hid hbt
     clear hbt hcl
     go_wp2_with fail
     refine hc1.mono ?_
     rintro e w9 ⟨rfl,rfl⟩
     go_wp2_with fail
     refine hsb.mono ?_
     rintro e w10 ⟨v10,rfl,h10,b10⟩
     obtain ⟨A10,n10,c10,rfl,z10,p10,i10,j10,h10⟩:=h10.open
     clear z10 p10
     go_wp2_with fail
     refine ⟨⟨A10,n10,c10,A6,n6,c6,Y - X,X,rfl,rfl,h10,h68.below b10,Nat.lt_of_le_of_lt (Nat.sub_le _ _) HYl.out,HXl.out,HBT.out,hB8.trans (b10.mono hB8.size)⟩, ?_⟩
     show rdv _ _+rdv _ _<rdv _ _+rdv _ _
     rw [h10.rdv,(h68.below b10).rdv,HRX.out,HRY.out]
     omega
    ·have hcz: ¬cz<0:=fun e=>by have:=hcl.1 e;omega
     have hsb:=zOH (h68.lv HXl.out) (h8.lv HYl.out) hm hge
     have hbt:=Bin.turn (G:=G) HO1.out HO4.out HXY.out hge
     have HBT:=hid hbt
     clear hbt hcl
     go_wp2_with fail
     refine hc1.mono ?_
     rintro e w9 ⟨rfl,rfl⟩
     go_wp2_with fail
     refine hsb.mono ?_
     rintro e w10 ⟨v10,rfl,h10,b10⟩
     obtain ⟨A10,n10,c10,rfl,z10,p10,i10,j10,h10⟩:=h10.open
     clear z10 p10
     go_wp2_with fail
     refine ⟨⟨A10,n10,c10,A8,n8,c8,X - Y,Y,rfl,rfl,h10,h8.below b10,Nat.lt_of_le_of_lt (Nat.sub_le _ _) HXl.out,HYl.out,HBT.out,hB8.trans (b10.mono hB8.size)⟩, ?_⟩
     show rdv _ _+rdv _ _<rdv _ _+rdv _ _
     rw [h10.rdv,(h8.below b10).rdv,HRX.out,HRY.out]
     omega
theorem zRq {W:World} {u:Value} (k:Int) (hu:u= .int .i64 k) (h: -9223372036854775808≤k∧k≤9223372036854775807):Calls Tryz.prog 71 #[u] W (zGt W k):=by
 subst hu
 exact zRr k h
end Go.Proofs.Wd

namespace Go.Proofs.Wd
set_option maxRecDepth 100000
open Go.RowKit Lb
def zMi:Nat:=10000
theorem zRO {x:Nat} (h:x<18446744073709551616) (m:Nat) (hm:2≤m):x<BB^m:=Nat.lt_of_lt_of_le h (Nat.le_trans (show 18446744073709551616≤BB^2 by decide) (Nat.pow_le_pow_right yZ hm))
theorem zGS {W:World} {m:Nat} {v:Value} {x:Nat} (h:LV W m v x) (hm:m≤100000):Calls Tryz.prog 111 #[v] W (Ret W (zAQ (UF.eq (.int .u64 ((zL x:Nat):Int))) (fB (yS x))).toSF):=by
 obtain ⟨A,n,c,l,rfl,h1,h2,h3,rfl⟩:=h
 refine (zJK A n c l W h1 h2 (by omega)).mono ?_
 rintro e w' ⟨rfl,hb⟩
 exact ⟨_,rfl,⟨_,_,rfl,rfl,rfl⟩,hb⟩
theorem zOL {W:World} {v:Value} (x:Nat) (hx:x<18446744073709551616) (hv:v= .int .u64 (x:Int)):Calls Tryz.prog 113 #[v] W (Ret W (qT x).toSF):=by
 subst hv
 exact (zHM x hx W).mono fun _ _ h=>q6.v h
theorem zAA (x:Nat):zL x<18446744073709551616:=by unfold zL;split<;>omega
theorem zLG {F:Fence} {m:Nat} {P:Program} {w0:World} {ops:Array Oper} {G:Nat→SF} {d:Tmp} {ty:TypeId} {pos:String} {aft:Array Edge} {t:TypeId} {x y:Operand} {t':TypeId} (k:IntKind) (u v r:Int) (hx: ∀q W,(fct G x).p q W→q= .int k u) (hy: ∀q W,(fct G y).p q W→q= .int k v) (hv:v≠0) (hr:k.wrap (u.tdiv v)=r) (hd: ∀W,(G d).p (.int k r) W:=by exact fun _=>rfl):qK F m P w0 ops G ⟨some d, .binOp .quo t x y t',ty,pos,aft,none⟩:=
 zCn (.int k u) (.int k v) (.int k r) hx hy (fun W=>by simp [eqGuard]) (fun W=>by simp [binOp,Op.intDiv,hv,hr]) hd
theorem zQ1 (u:Int) (r:Nat) (h:u=r) (hr:r<18446744073709551616):IntKind.u64.wrap u=r:=by
 subst h
 rw [IntKind.wrap_u64]
 omega
theorem zIZ {W:World} {v:Value} {x:Nat} (h:qH W v x):Calls Tryz.prog 88 #[v] W (Ret W (fNV (x:Int)).toSF):=by
 refine z7 [(qT x).toSF] Tryz.func88 rfl (by kernel_rfl) ⟨h,trivial⟩ fun a s=> ?_
 refine wpIn_seq ?_
 refine zB 0 [] hmix s (by kernel_rfl)
  zE fun a w1 s=> ?_
 refine zY (CU.len 2) (cs:= [.bool false, .slice none 0 0]) (by kernel_rfl) rfl s (by kernel_rfl) (fun W=>rfl) rfl fun b2 a w s=> ?_
 refine zA rfl ?_
 refine wpIn_seq ?_
 refine zB 2 ((3, .s ((qT x).toSF))::(4, .u (fNV (x:Int))):: []) hmix s (by kernel_rfl)
  (oc zC<|oc (zE2 (fun u W (hu:qH W u x)=>zMx hu))<|zE) fun a w2 s=> ?_
 refine zV (CU.agg (fNV (x:Int))) ((fNV (x:Int)).toSF) rfl s (by kernel_rfl) rfl rfl rfl iiz iiz zF7 fun a w s=> ?_
 refine zA rfl ?_
 refine wpIn_ret ?_
 exact StS.resC s (CU.agg (fNV (x:Int))) rfl (by kernel_rfl) rfl rfl (zOU _) (fun cs W h=>h)
theorem zDb {W:World} {v:Value} (z:Int) (hv:v= .int .i64 z) (hz: -9223372036854775808≤z∧z≤9223372036854775807):Calls Tryz.prog 21 #[v] W (Ret W (fQN (z:Rat)).toSF):=by
 refine z7 [(fI z).toSF] Tryz.func21 rfl (by kernel_rfl) ⟨hv,trivial⟩ fun a s=> ?_
 refine wpIn_seq ?_
 refine zB 0 [] hmix s (by kernel_rfl)
  zE fun a w1 s=> ?_
 refine zY (CU.len 3) (cs:=zR3) (by kernel_rfl) rfl s (by kernel_rfl) (fun W=>rfl) rfl fun b2 a w s=> ?_
 refine zA rfl ?_
 refine wpIn_seq ?_
 refine zB 4 ((3, .s ((UF.eq (.int .i64 z)).toSF))::(4, .s ((fNV z).toSF))::(5, .s ((qT 1).toSF))::(6, .u (fQN (z:Rat))):: []) hmix s (by kernel_rfl)
  (oc zC<|oc (zI zD zTz (fun u0 W hb (h0:u0= .int .i64 z)=>zRq z h0 hz))<|oc (zA2 (fun u W (hu:u= .int .u32 1)=>zOF hu))<|oc (qM (fun u v W (hu:NV W u z) (hv:qH W v 1)=>zHq (q:=(z:Rat)) hu hv))<|zE) fun a w2 s=> ?_
 refine zV (CU.agg (fQN (z:Rat))) ((fQN (z:Rat)).toSF) rfl s (by kernel_rfl) rfl rfl rfl iiz iiz yK fun a w s=> ?_
 refine zA rfl ?_
 refine wpIn_ret ?_
 exact StS.resC s (CU.agg (fQN (z:Rat))) rfl (by kernel_rfl) rfl rfl (qX _) (fun cs W h=>h)
theorem zD8 (k:Int) (d:Nat) (h:0<d):(if decide (k<0) then -((k.natAbs / Nat.gcd k.natAbs d:Nat):Int) else ((k.natAbs / Nat.gcd k.natAbs d:Nat):Int))=(mkRat k d).num:=by
 have h1:=zDo k d h
 have h2:=zB2 k d h
 rw [←h1, ←h2]
 by_cases hs:(mkRat k d).num<0
 ·rw [decide_eq_true hs,if_pos rfl]
  omega
 ·rw [decide_eq_false hs,if_neg (by decide)]
  omega
theorem zPY {W:World} {m:Nat} {v v':Value} {k:Int} {d:Nat} (h:UV W m v k) (h':LV W m v' d) (hm:m≤2000) (hd:d=0):Calls Tryz.prog 68 #[v,v'] W (Ret W (zAQ (fQN (mkRat k d)) (fI 30)).toSF):=by
 have bk:k.natAbs<BB^m:=h.bound
 have hz:true=decide (d=0):=(decide_eq_true hd).symm
 have hq0:mkRat k d=((0:Int):Rat):=by rw [hd,Rat.mkRat_zero];rfl
 refine z7 [(fUV m k).toSF,(fLV m d).toSF] Tryz.func68 rfl (by kernel_rfl) ⟨h,h',trivial⟩ fun a s=> ?_
 refine wpIn_seq ?_
 refine zB 0 [] hmix s (by kernel_rfl)
  zE fun a w1 s=> ?_
 refine yJ (CU.agg (fUV m k)) rfl s (by kernel_rfl) (fun v W h=>zOw h) fun b2 a w s=> ?_
 refine zY (CU.len 3) (cs:=zR3) (by kernel_rfl) rfl s (by kernel_rfl) (fun W=>rfl) rfl fun b4 a w s=> ?_
 refine yU (UF.eq (.int .i64 0)) rfl s (by kernel_rfl) iiz fun a w s=> ?_
 refine zA rfl ?_
 refine wpIn_seq ?_
 refine wpIn_seq ?_
 refine zB 4 ((18, .s ((fLV m d).toSF))::(19, .s ((qT d).toSF))::(20, .s (zO2 d))::(21, .u (UF.eq (.bool true))):: []) hmix s (by kernel_rfl)
  (oc zC<|oc (zI zD zOe (fun u0 W hb (h0:LV W m u0 d)=>(zDF h0 (by omega))))<|oc (zDP (by kernel_rfl) iiz)<|oc (zDQ hz)<|zE) fun a w2 s=> ?_
 refine zA rfl ?_
 refine StS.cond s true iiz (fun e=> ?_) (fun e=>by cases e)
 refine wpIn_seq ?_
 replace s:=s.drop [5]
 refine zB 1 ((22, .u (fQN ((0:Int):Rat))):: []) hmix s (by kernel_rfl)
  (oc (zI zD zGm (fun u0 W hb (h0:u0= .int .i64 0)=>zDb 0 h0 (by decide)))<|zE) fun a w3 s=> ?_
 refine zV (CU.agg (fQN ((0:Int):Rat))) ((fQN ((0:Int):Rat)).toSF) rfl s (by kernel_rfl) rfl rfl rfl iiz iiz yK fun a w s=> ?_
 refine yU (UF.eq (.int .i64 30)) rfl s (by kernel_rfl) iiz fun a w s=> ?_
 refine zA rfl ?_
 refine wpIn_ret ?_
 exact StS.resCT s (CU.agg (fQN ((0:Int):Rat))) rfl (by kernel_rfl) rfl rfl (qX _) (fun cs v W h1 h2=>⟨_,_,rfl,by rw [hq0];exact h1,h2⟩)
theorem zK8 {W:World} {m:Nat} {v v':Value} {k:Int} {d:Nat} (h:UV W m v k) (h':LV W m v' d) (hm:m≤2000) (hd0:0<d):Calls Tryz.prog 68 #[v,v'] W (Ret W (zAQ (fQN (mkRat k d)) (fI 0)).toSF):=by
 have bk:k.natAbs<BB^m:=h.bound
 have hz:false=decide (d=0):=(decide_eq_false (by omega)).symm
 have hdiv: ∀W u0 u1 x,LV W m u0 x→qH W u1 (Nat.gcd k.natAbs d)→Calls Tryz.prog 115 #[u0,u1] W (Ret W (zB7 (qT (x / (Nat.gcd k.natAbs d))) (qT (x % (Nat.gcd k.natAbs d))) (fI 0)).toSF):=fun W u0 u1 x h1 h2=>by
  refine (zRm h1 (qH.lv (m:=m) h2 (Nat.lt_of_le_of_lt (Nat.gcd_le_right _ hd0) h'.bound)) (by omega) (Nat.gcd_pos_of_pos_right _ hd0)).mono ?_
  rintro e w' ⟨v1,v2,rfl,h3,h4,hb⟩
  exact ⟨_,rfl,⟨v1,v2,_,rfl,h3,h4,rfl⟩,hb⟩
 refine z7 [(fUV m k).toSF,(fLV m d).toSF] Tryz.func68 rfl (by kernel_rfl) ⟨h,h',trivial⟩ fun a s=> ?_
 refine wpIn_seq ?_
 refine zB 0 [] hmix s (by kernel_rfl)
  zE fun a w1 s=> ?_
 refine yJ (CU.agg (fUV m k)) rfl s (by kernel_rfl) (fun v W h=>zOw h) fun b2 a w s=> ?_
 refine zY (CU.len 3) (cs:=zR3) (by kernel_rfl) rfl s (by kernel_rfl) (fun W=>rfl) rfl fun b4 a w s=> ?_
 refine yU (UF.eq (.int .i64 0)) rfl s (by kernel_rfl) iiz fun a w s=> ?_
 refine zA rfl ?_
 refine wpIn_seq ?_
 refine wpIn_seq ?_
 refine zB 4 ((18, .s ((fLV m d).toSF))::(19, .s ((qT d).toSF))::(20, .s (zO2 d))::(21, .u (UF.eq (.bool false))):: []) hmix s (by kernel_rfl)
  (oc zC<|oc (zI zD zOe (fun u0 W hb (h0:LV W m u0 d)=>(zDF h0 (by omega))))<|oc (zDP (by kernel_rfl) iiz)<|oc (zDQ hz)<|zE) fun a w2 s=> ?_
 refine zA rfl ?_
 refine StS.cond s false iiz (fun e=>by cases e) (fun e=> ?_)
 refine wpIn_skip ?_
 refine wpIn_seq ?_
 refine zB 2 ((23, .s ((fUV m k).toSF))::(24, .u (fNV k)):: []) hmix s (by kernel_rfl)
  (oc (zK (f:=fUV m k) 2 (by kernel_rfl) (hz:=zOv _ _))<|oc (zI zD zMn (fun u0 W hb (h0:UV W m u0 k)=>zFW h0 (by omega)))<|zE) fun a w3 s=> ?_
 refine zV (CU.agg (fNV k)) ((fNV k).toSF) rfl s (by kernel_rfl) rfl rfl rfl (zOv _ _) iiz zF7 fun a w s=> ?_
 refine zA rfl ?_
 refine wpIn_seq ?_
 refine zB 8 ((26, .s (SF.ptr ((CU.agg (fNV k)).cf.at 1)))::(27, .s ((qT ((k).natAbs)).toSF))::(28, .s ((zAQ (UF.eq (.int .u64 ((zL ((k).natAbs):Nat):Int))) (UF.eq (.bool (yS ((k).natAbs))))).toSF))::(25, .s ((zAQ (UF.eq (.int .u64 ((zL ((k).natAbs):Nat):Int))) (UF.eq (.bool (yS ((k).natAbs))))).toSF))::(29, .s ((UF.eq (.int .u64 ((zL ((k).natAbs):Nat):Int))).toSF))::(30, .s ((UF.eq (.bool (yS ((k).natAbs)))).toSF))::(6, .u (UF.eq (.int .u64 ((zL ((k).natAbs):Nat):Int))))::(7, .u (UF.eq (.bool (yS ((k).natAbs))))):: []) hmix s (by kernel_rfl)
  (oc (zN (C:=(CU.agg (fNV k)).cf) 1 (by kernel_rfl))<|oc (jE (C:=(CU.agg (fNV k)).cf) (k:=1) (by kernel_rfl) (h:=zG4))<|oc (zI zD zPe (fun u0 W hb (h0:qH W u0 ((k).natAbs))=>zGS (qH.lv (m:=m) h0 bk) (by omega)))<|oc zC<|oc (zAY (A:=(UF.eq (.int .u64 ((zL ((k).natAbs):Nat):Int))).toSF) (B:=(UF.eq (.bool (yS ((k).natAbs)))).toSF) iiz)<|oc (zAX (A:=(UF.eq (.int .u64 ((zL ((k).natAbs):Nat):Int))).toSF) (B:=(UF.eq (.bool (yS ((k).natAbs)))).toSF) iiz)<|oc zG<|oc zG<|zE) fun a w4 s=> ?_
 refine zA rfl ?_
 refine wpIn_seq ?_
 refine zB 7 ((32, .s ((fLV m d).toSF))::(33, .s ((zAQ (UF.eq (.int .u64 ((zL d:Nat):Int))) (UF.eq (.bool (yS d)))).toSF))::(31, .s ((zAQ (UF.eq (.int .u64 ((zL d:Nat):Int))) (UF.eq (.bool (yS d)))).toSF))::(34, .s ((UF.eq (.int .u64 ((zL d:Nat):Int))).toSF))::(35, .s ((UF.eq (.bool (yS d))).toSF))::(8, .u (UF.eq (.int .u64 ((zL d:Nat):Int))))::(9, .u (UF.eq (.bool (yS d)))):: []) hmix s (by kernel_rfl)
  (oc zC<|oc (zI zD zPe (fun u0 W hb (h0:LV W m u0 d)=>zGS h0 (by omega)))<|oc zC<|oc (zAY (A:=(UF.eq (.int .u64 ((zL d:Nat):Int))).toSF) (B:=(UF.eq (.bool (yS d))).toSF) iiz)<|oc (zAX (A:=(UF.eq (.int .u64 ((zL d:Nat):Int))).toSF) (B:=(UF.eq (.bool (yS d))).toSF) iiz)<|oc zG<|oc zG<|zE) fun a w5 s=> ?_
 refine zA rfl ?_
 refine wpIn_seq ?_
 refine wpIn_seq ?_
 refine zB 4 ((36, .s ((UF.eq (.bool (yS ((k).natAbs)))).toSF))::(37, .s ((UF.eq (.bool (yS ((k).natAbs)))).toSF))::(38, .s (SF.imp ((yS ((k).natAbs))=true) ((UF.eq (.bool (yS d))).toSF)))::(39, .u (UF.eq (.bool ((yS ((k).natAbs))&&(yS d))))):: []) hmix s (by kernel_rfl)
  (oc zC<|oc zC<|oc (zF 37 (yS ((k).natAbs)) (by kernel_rfl) iiz (fun e=>zR [] ((UF.eq (.bool (yS d))).toSF) fnz (fun _ _ h _=>h) (by kernel_rfl) zC) (fun e W h=>absurd h e))<|oc (yF (yS ((k).natAbs)) iiz (fun e v W h=>jQ (zJ e h) e) (fun e v W h=>qY h e))<|zE) fun a w6 s=> ?_
 refine zA rfl ?_
 refine StS.cond s ((yS ((k).natAbs))&&(yS d)) iiz (fun e=> ?_) (fun e=> ?_)
 ·rw [Bool.and_eq_true] at e
  have hs1:zL k.natAbs=k.natAbs:=by have:=e.1;unfold yS at this;unfold zL;rw [if_pos (of_decide_eq_true this)]
  have hs2:zL d=d:=by have:=e.2;unfold yS at this;unfold zL;rw [if_pos (of_decide_eq_true this)]
  have hg0:((Nat.gcd (zL k.natAbs) (zL d):Nat):Int)≠0:=by rw [hs1,hs2];have:=Nat.gcd_pos_of_pos_right k.natAbs hd0;omega
  have hden:(mkRat k d).den=zL d / (Nat.gcd (zL k.natAbs) (zL d)):=by rw [hs1,hs2];exact zCp k d hd0
  have hlt: ∀x,x<18446744073709551616→x<BB^zMi:=fun x hx=>zRO hx _ (by decide)
  have hnum: ∀W u,UV W zMi u (if decide (k<0) then -(((zL k.natAbs / (Nat.gcd (zL k.natAbs) (zL d))):Nat):Int) else (((zL k.natAbs / (Nat.gcd (zL k.natAbs) (zL d))):Nat):Int))→Calls Tryz.prog 110 #[u] W (zGt W (mkRat k d).num):=fun W u hu=>by
   have:=zFW hu (by decide)
   rw [hs1,hs2,zD8 k d hd0] at this
   exact this
  refine wpIn_seq ?_
  refine zB 4 ((40, .s ((UF.eq (.int .u64 ((zL ((k).natAbs):Nat):Int))).toSF))::(41, .s ((UF.eq (.int .u64 ((zL d:Nat):Int))).toSF))::(42, .s ((UF.eq (.int .u64 ((Nat.gcd (zL k.natAbs) (zL d):Nat):Int))).toSF))::(10, .u (UF.eq (.int .u64 ((Nat.gcd (zL k.natAbs) (zL d):Nat):Int)))):: []) hmix s (by kernel_rfl)
   (oc zC<|oc zC<|oc (zH zD zSC (fun u0 u1 W hb (h0:u0= .int .u64 ((zL ((k).natAbs):Nat):Int)) (h1:u1= .int .u64 ((zL d:Nat):Int))=>zK7 _ _ h0 h1 (zAA _) (zAA _)))<|oc zG<|zE) fun a w7 s=> ?_
  refine zA rfl ?_
  refine wpIn_seq ?_
  replace s:=s.drop [5]
  refine yL [2,3,8,9] 13 ((43, .s (SF.ptr ((CU.agg (fNV k)).cf.at 0)))::(44, .s ((UF.eq (.bool (decide (k<0)))).toSF))::(45, .s ((UF.eq (.int .u64 ((zL ((k).natAbs):Nat):Int))).toSF))::(46, .s ((UF.eq (.int .u64 ((Nat.gcd (zL k.natAbs) (zL d):Nat):Int))).toSF))::(47, .s ((UF.eq (.int .u64 ((zL k.natAbs / (Nat.gcd (zL k.natAbs) (zL d)):Nat):Int))).toSF))::(48, .s ((qT (zL k.natAbs / (Nat.gcd (zL k.natAbs) (zL d)))).toSF))::(49, .s ((fUV zMi (if decide (k<0) then -((zL k.natAbs / (Nat.gcd (zL k.natAbs) (zL d)):Nat):Int) else ((zL k.natAbs / (Nat.gcd (zL k.natAbs) (zL d)):Nat):Int))).toSF))::(50, .s ((fNV ((mkRat k d).num)).toSF))::(51, .s ((UF.eq (.int .u64 ((zL d:Nat):Int))).toSF))::(52, .s ((UF.eq (.int .u64 ((Nat.gcd (zL k.natAbs) (zL d):Nat):Int))).toSF))::(53, .s ((UF.eq (.int .u64 ((zL d / (Nat.gcd (zL k.natAbs) (zL d)):Nat):Int))).toSF))::(54, .s ((qT (zL d / (Nat.gcd (zL k.natAbs) (zL d)))).toSF))::(55, .u (fQN (mkRat k d))):: []) hmix s (by kernel_rfl)
   (oc (zN (C:=(CU.agg (fNV k)).cf) 0 (by kernel_rfl))<|oc (jE (C:=(CU.agg (fNV k)).cf) (k:=0) (by kernel_rfl) (h:=zLL))<|oc zC<|oc zC<|oc (zLG .u64 ((zL ((k).natAbs):Nat):Int) ((Nat.gcd (zL k.natAbs) (zL d):Nat):Int) ((zL k.natAbs / (Nat.gcd (zL k.natAbs) (zL d)):Nat):Int) iiz iiz hg0 (zQ1 _ _ (by rw [Int.tdiv_eq_ediv_of_nonneg (by omega),Int.natCast_ediv]) (Nat.lt_of_le_of_lt (Nat.div_le_self _ _) (zAA _))))<|oc (zI zD zPd (fun u0 W hb (h0:u0= .int .u64 ((zL k.natAbs / (Nat.gcd (zL k.natAbs) (zL d)):Nat):Int))=>zOL _ (Nat.lt_of_le_of_lt (Nat.div_le_self _ _) (zAA _)) h0))<|oc (qM (fun u v W (hu:u= .bool (decide (k<0))) (hv:qH W v (zL k.natAbs / (Nat.gcd (zL k.natAbs) (zL d))))=>zQU hu hv (hlt _ (by first|exact Nat.lt_of_le_of_lt (Nat.div_le_self _ _) (zAA _)|exact hk64|exact Nat.lt_of_le_of_lt (Nat.div_le_self _ _) (Nat.lt_of_lt_of_le bk (Nat.pow_le_pow_right yZ (Nat.le_trans hm (by decide))))))))<|oc (zI zD zMn (fun u0 W hb (h0:UV W zMi u0 (if decide (k<0) then -((zL k.natAbs / (Nat.gcd (zL k.natAbs) (zL d)):Nat):Int) else ((zL k.natAbs / (Nat.gcd (zL k.natAbs) (zL d)):Nat):Int)))=>hnum W u0 (h0:UV W zMi u0 _)))<|oc zC<|oc zC<|oc (zLG .u64 ((zL d:Nat):Int) ((Nat.gcd (zL k.natAbs) (zL d):Nat):Int) ((zL d / (Nat.gcd (zL k.natAbs) (zL d)):Nat):Int) iiz iiz hg0 (zQ1 _ _ (by rw [Int.tdiv_eq_ediv_of_nonneg (by omega),Int.natCast_ediv]) (Nat.lt_of_le_of_lt (Nat.div_le_self _ _) (zAA _))))<|oc (zI zD zPd (fun u0 W hb (h0:u0= .int .u64 ((zL d / (Nat.gcd (zL k.natAbs) (zL d)):Nat):Int))=>zOL _ (Nat.lt_of_le_of_lt (Nat.div_le_self _ _) (zAA _)) h0))<|oc (qM (fun u v W (hu:NV W u ((mkRat k d).num)) (hv:qH W v (zL d / (Nat.gcd (zL k.natAbs) (zL d))))=>zHq (q:=mkRat k d) hu (by first|exact hv|(rw [hden];exact hv))))<|zE) fun Q' hQ a w8 s=> ?_
  refine zV (CU.agg (fQN (mkRat k d))) ((fQN (mkRat k d)).toSF) rfl s (by kernel_rfl) rfl rfl rfl iiz iiz yK fun a w s=> ?_
  refine yU (UF.eq (.int .i64 0)) rfl s (by kernel_rfl) iiz fun a w s=> ?_
  refine zA rfl (hQ _ _ ?_)
  refine wpIn_ret ?_
  exact StS.resCT s (CU.agg (fQN (mkRat k d))) rfl (by kernel_rfl) rfl rfl (qX _) (fun cs v W h1 h2=>⟨_,_,rfl,h1,h2⟩)
 ·have hlt: ∀x,x<BB^zMi→x<BB^zMi:=fun x hx=>hx
  have hden:(mkRat k d).den=d / (Nat.gcd k.natAbs d):=zCp k d hd0
  have hnum: ∀W u,UV W zMi u (if decide (k<0) then -((((k).natAbs / (Nat.gcd k.natAbs d)):Nat):Int) else ((((k).natAbs / (Nat.gcd k.natAbs d)):Nat):Int))→Calls Tryz.prog 110 #[u] W (zGt W (mkRat k d).num):=fun W u hu=>by
   have:=zFW hu (by decide)
   rw [zD8 k d hd0] at this
   exact this
  refine wpIn_skip ?_
  refine wpIn_seq ?_
  refine zB 5 ((56, .s (SF.ptr ((CU.agg (fNV k)).cf.at 1)))::(57, .s ((qT ((k).natAbs)).toSF))::(58, .s ((fLV m d).toSF))::(59, .s ((qT (Nat.gcd k.natAbs d)).toSF))::(11, .u (qT (Nat.gcd k.natAbs d))):: []) hmix s (by kernel_rfl)
   (oc (zN (C:=(CU.agg (fNV k)).cf) 1 (by kernel_rfl))<|oc (jE (C:=(CU.agg (fNV k)).cf) (k:=1) (by kernel_rfl) (h:=zG4))<|oc zC<|oc (zH zD zSB (fun u0 u1 W hb (h0:qH W u0 ((k).natAbs)) (h1:LV W m u1 d)=>zP9 (qH.lv (m:=m) h0 bk) h1 (by omega)))<|oc zG<|zE) fun a w9 s=> ?_
  refine zA rfl ?_
  refine wpIn_seq ?_
  refine zB 11 ((61, .s (SF.ptr ((CU.agg (fNV k)).cf.at 1)))::(62, .s ((qT ((k).natAbs)).toSF))::(63, .s ((qT (Nat.gcd k.natAbs d)).toSF))::(64, .s ((zB7 (qT (((k).natAbs) / (Nat.gcd k.natAbs d))) (qT (((k).natAbs) % (Nat.gcd k.natAbs d))) (UF.eq (.int .i64 0))).toSF))::(60, .s ((zB7 (qT (((k).natAbs) / (Nat.gcd k.natAbs d))) (qT (((k).natAbs) % (Nat.gcd k.natAbs d))) (UF.eq (.int .i64 0))).toSF))::(65, .s ((qT (((k).natAbs) / (Nat.gcd k.natAbs d))).toSF))::(66, .s ((qT (((k).natAbs) % (Nat.gcd k.natAbs d))).toSF))::(67, .s ((UF.eq (.int .i64 0)).toSF))::(12, .u (qT (((k).natAbs) / (Nat.gcd k.natAbs d))))::(13, .s ((qT (((k).natAbs) % (Nat.gcd k.natAbs d))).toSF))::(14, .s ((UF.eq (.int .i64 0)).toSF)):: []) hmix s (by kernel_rfl)
   (oc (zN (C:=(CU.agg (fNV k)).cf) 1 (by kernel_rfl))<|oc (jE (C:=(CU.agg (fNV k)).cf) (k:=1) (by kernel_rfl) (h:=zG4))<|oc zC<|oc (zH zD zPc (fun u0 u1 W hb (h0:qH W u0 ((k).natAbs)) (h1:qH W u1 (Nat.gcd k.natAbs d))=>hdiv W u0 u1 _ (qH.lv (m:=m) h0 bk) h1))<|oc zC<|oc (zB1 (A:=(qT (((k).natAbs) / (Nat.gcd k.natAbs d))).toSF) (B:=(qT (((k).natAbs) % (Nat.gcd k.natAbs d))).toSF) (C:=(UF.eq (.int .i64 0)).toSF) iiz)<|oc (zB0 (A:=(qT (((k).natAbs) / (Nat.gcd k.natAbs d))).toSF) (B:=(qT (((k).natAbs) % (Nat.gcd k.natAbs d))).toSF) (C:=(UF.eq (.int .i64 0)).toSF) iiz)<|oc (zBZ (A:=(qT (((k).natAbs) / (Nat.gcd k.natAbs d))).toSF) (B:=(qT (((k).natAbs) % (Nat.gcd k.natAbs d))).toSF) (C:=(UF.eq (.int .i64 0)).toSF) iiz)<|oc zG<|oc zG<|oc zG<|zE) fun a w10 s=> ?_
  refine zA rfl ?_
  refine wpIn_seq ?_
  refine zB 10 ((69, .s ((fLV m d).toSF))::(70, .s ((qT (Nat.gcd k.natAbs d)).toSF))::(71, .s ((zB7 (qT (d / (Nat.gcd k.natAbs d))) (qT (d % (Nat.gcd k.natAbs d))) (UF.eq (.int .i64 0))).toSF))::(68, .s ((zB7 (qT (d / (Nat.gcd k.natAbs d))) (qT (d % (Nat.gcd k.natAbs d))) (UF.eq (.int .i64 0))).toSF))::(72, .s ((qT (d / (Nat.gcd k.natAbs d))).toSF))::(73, .s ((qT (d % (Nat.gcd k.natAbs d))).toSF))::(74, .s ((UF.eq (.int .i64 0)).toSF))::(15, .u (qT (d / (Nat.gcd k.natAbs d))))::(16, .s ((qT (d % (Nat.gcd k.natAbs d))).toSF))::(17, .s ((UF.eq (.int .i64 0)).toSF)):: []) hmix s (by kernel_rfl)
   (oc zC<|oc zC<|oc (zH zD zPc (fun u0 u1 W hb (h0:LV W m u0 d) (h1:qH W u1 (Nat.gcd k.natAbs d))=>hdiv W u0 u1 _ h0 h1))<|oc zC<|oc (zB1 (A:=(qT (d / (Nat.gcd k.natAbs d))).toSF) (B:=(qT (d % (Nat.gcd k.natAbs d))).toSF) (C:=(UF.eq (.int .i64 0)).toSF) iiz)<|oc (zB0 (A:=(qT (d / (Nat.gcd k.natAbs d))).toSF) (B:=(qT (d % (Nat.gcd k.natAbs d))).toSF) (C:=(UF.eq (.int .i64 0)).toSF) iiz)<|oc (zBZ (A:=(qT (d / (Nat.gcd k.natAbs d))).toSF) (B:=(qT (d % (Nat.gcd k.natAbs d))).toSF) (C:=(UF.eq (.int .i64 0)).toSF) iiz)<|oc zG<|oc zG<|oc zG<|zE) fun a w11 s=> ?_
  refine zA rfl ?_
  refine wpIn_seq ?_
  replace s:=s.drop [5]
  refine zB 7 ((75, .s (SF.ptr ((CU.agg (fNV k)).cf.at 0)))::(76, .s ((UF.eq (.bool (decide (k<0)))).toSF))::(77, .s ((qT (((k).natAbs) / (Nat.gcd k.natAbs d))).toSF))::(78, .s ((fUV zMi (if decide (k<0) then -((((k).natAbs) / (Nat.gcd k.natAbs d):Nat):Int) else ((((k).natAbs) / (Nat.gcd k.natAbs d):Nat):Int))).toSF))::(79, .s ((fNV ((mkRat k d).num)).toSF))::(80, .s ((qT (d / (Nat.gcd k.natAbs d))).toSF))::(81, .u (fQN (mkRat k d))):: []) hmix s (by kernel_rfl)
   (oc (zN (C:=(CU.agg (fNV k)).cf) 0 (by kernel_rfl))<|oc (jE (C:=(CU.agg (fNV k)).cf) (k:=0) (by kernel_rfl) (h:=zLL))<|oc zC<|oc (qM (fun u v W (hu:u= .bool (decide (k<0))) (hv:qH W v (((k).natAbs) / (Nat.gcd k.natAbs d)))=>zQU hu hv (hlt _ (by first|exact Nat.lt_of_le_of_lt (Nat.div_le_self _ _) (zAA _)|exact hk64|exact Nat.lt_of_le_of_lt (Nat.div_le_self _ _) (Nat.lt_of_lt_of_le bk (Nat.pow_le_pow_right yZ (Nat.le_trans hm (by decide))))))))<|oc (zI zD zMn (fun u0 W hb (h0:UV W zMi u0 (if decide (k<0) then -((((k).natAbs) / (Nat.gcd k.natAbs d):Nat):Int) else ((((k).natAbs) / (Nat.gcd k.natAbs d):Nat):Int)))=>hnum W u0 (h0:UV W zMi u0 _)))<|oc zC<|oc (qM (fun u v W (hu:NV W u ((mkRat k d).num)) (hv:qH W v (d / (Nat.gcd k.natAbs d)))=>zHq (q:=mkRat k d) hu (by first|exact hv|(rw [hden];exact hv))))<|zE) fun a w12 s=> ?_
  refine zV (CU.agg (fQN (mkRat k d))) ((fQN (mkRat k d)).toSF) rfl s (by kernel_rfl) rfl rfl rfl iiz iiz yK fun a w s=> ?_
  refine yU (UF.eq (.int .i64 0)) rfl s (by kernel_rfl) iiz fun a w s=> ?_
  refine zA rfl ?_
  refine wpIn_ret ?_
  exact StS.resCT s (CU.agg (fQN (mkRat k d))) rfl (by kernel_rfl) rfl rfl (qX _) (fun cs v W h1 h2=>⟨_,_,rfl,h1,h2⟩)
theorem zHO {W:World} {m:Nat} {v v':Value} {k:Int} {d:Nat} (h:UV W m v k) (h':LV W m v' d) (hm:m≤2000):Calls Tryz.prog 68 #[v,v'] W (Ret W (zAQ (fQN (mkRat k d)) (fI (if d=0 then 30 else 0))).toSF):=by
 by_cases hd:d=0
 ·rw [if_pos hd]
  exact zPY h h' hm hd
 ·rw [if_neg hd]
  exact zK8 h h' hm (by omega)
end Go.Proofs.Wd

namespace Go.Proofs.Wd
set_option maxRecDepth 100000
open Go.RowKit Lb
theorem zNs {W:World} {m:Nat} {v:Value} {k:Int} {d:Nat} (h:QVp m k d v W) (hm:m≤2000):Calls Tryz.prog 67 #[v] W (Ret W (fQN (mkRat k d)).toSF):=by
 refine z7 [(fQV m k d).toSF] Tryz.func67 rfl (by kernel_rfl) ⟨h,trivial⟩ fun a s=> ?_
 refine wpIn_seq ?_
 refine zB 0 [] hmix s (by kernel_rfl)
  zE fun a w1 s=> ?_
 refine yJ (CU.agg (fQV m k d)) rfl s (by kernel_rfl) (fun v W h=>zEU h) fun b1 a w s=> ?_
 refine zY (CU.len 3) (cs:=zR3) (by kernel_rfl) rfl s (by kernel_rfl) (fun W=>rfl) rfl fun b2 a w s=> ?_
 refine zA rfl ?_
 refine wpIn_seq ?_
 refine zB 8 ((6, .s (SF.ptr ((CU.agg (fQV m k d)).cf.at 0)))::(7, .s ((fUV m k).toSF))::(8, .s (SF.ptr ((CU.agg (fQV m k d)).cf.at 2)))::(9, .s ((fLV m d).toSF))::(10, .s ((zAQ (fQN (mkRat k d)) (UF.eq (.int .i64 (if d=0 then 30 else 0)))).toSF))::(5, .s ((zAQ (fQN (mkRat k d)) (UF.eq (.int .i64 (if d=0 then 30 else 0)))).toSF))::(11, .u (fQN (mkRat k d)))::(12, .u (UF.eq (.int .i64 (if d=0 then 30 else 0)))):: []) hmix s (by kernel_rfl)
  (oc (zN (C:=(CU.agg (fQV m k d)).cf) 0 (by kernel_rfl))<|oc (zX (C:=(CU.agg (fQV m k d)).cf) (k:=0) 2 (by kernel_rfl) (h:=zLj))<|oc (zN (C:=(CU.agg (fQV m k d)).cf) 2 (by kernel_rfl))<|oc (jE (C:=(CU.agg (fQV m k d)).cf) (k:=2) (by kernel_rfl) (h:=zGT))<|oc (zH zD zOf (fun u0 u1 W hb (h0:UV W m u0 k) (h1:LV W m u1 d)=>zHO h0 h1 hm))<|oc zC<|oc (zAY (A:=(fQN (mkRat k d)).toSF) (B:=(UF.eq (.int .i64 (if d=0 then 30 else 0))).toSF) iiz)<|oc (zAX (A:=(fQN (mkRat k d)).toSF) (B:=(UF.eq (.int .i64 (if d=0 then 30 else 0))).toSF) iiz)<|zE) fun a w2 s=> ?_
 refine zY (CU.len 3) (cs:=zR3) (by kernel_rfl) rfl s (by kernel_rfl) (fun W=>rfl) rfl fun b3 a w s=> ?_
 refine zV (CU.agg (fQN (mkRat k d))) ((fQN (mkRat k d)).toSF) rfl s (by kernel_rfl) rfl rfl rfl iiz iiz yK fun a w s=> ?_
 refine yU (UF.eq (.int .i64 (if d=0 then 30 else 0))) rfl s (by kernel_rfl) iiz fun a w s=> ?_
 refine zA rfl ?_
 refine wpIn_seq ?_
 refine zB 1 ((13, .u (fQN (mkRat k d))):: []) hmix s (by kernel_rfl)
  (oc (zK (f:=fQN (mkRat k d)) 3 (by kernel_rfl) (hz:=qX _))<|zE) fun a w3 s=> ?_
 refine zV (CU.agg (fQN (mkRat k d))) ((fQN (mkRat k d)).toSF) rfl s (by kernel_rfl) rfl rfl rfl iiz iiz yK fun a w s=> ?_
 refine zA rfl ?_
 refine wpIn_ret ?_
 exact StS.resC s (CU.agg (fQN (mkRat k d))) rfl (by kernel_rfl) rfl rfl (qX _) (fun cs W h=>h)
theorem zBd {W:World} {m:Nat} {v:Value} {q:Rat} (h:RVp m q v W) (hm:m≤2000):Calls Tryz.prog 67 #[v] W (Ret W (fQN q).toSF):=by
 obtain ⟨k,d,h1,rfl⟩:=h
 exact zNs h1 hm
theorem zK5 (n:Int) (d:Nat) (hd:0<d):(mkRat n d).num.sign=n.sign:=by
 have h1:=decide_eq_decide.1 (zB2 n d hd)
 have h2:(mkRat n d).num=0↔n=0:=by rw [Rat.num_eq_zero,Rat.mkRat_eq_zero (by omega)]
 rcases Int.lt_trichotomy n 0 with h|h|h
 ·rw [Int.sign_eq_neg_one_of_neg h,Int.sign_eq_neg_one_of_neg (h1.2 h)]
 ·rw [h2.2 h,h]
 ·rw [Int.sign_eq_one_of_pos h,Int.sign_eq_one_of_pos (by have:=mt h1.1 (by omega);have:=mt h2.1 (by omega);omega)]
theorem zNq {W:World} {m:Nat} {v:Value} {k:Int} {d:Nat} (h:QVp m k d v W) (hm:m≤2000) (hd:d=0):Calls Tryz.prog 42 #[v] W (Ret W (fI 0).toSF):=by
 have hz:true=decide (d=0):=(decide_eq_true hd).symm
 refine z7 [(fQV m k d).toSF] Tryz.func42 rfl (by kernel_rfl) ⟨h,trivial⟩ fun a s=> ?_
 refine wpIn_seq ?_
 refine zB 0 [] hmix s (by kernel_rfl)
  zE fun a w1 s=> ?_
 refine yJ (CU.agg (fQV m k d)) rfl s (by kernel_rfl) (fun v W h=>zEU h) fun b1 a w s=> ?_
 refine yU (UF.eq (.int .i64 0)) rfl s (by kernel_rfl) iiz fun a w s=> ?_
 refine zA rfl ?_
 refine wpIn_seq ?_
 refine wpIn_seq ?_
 refine zB 5 ((3, .s (SF.ptr ((CU.agg (fQV m k d)).cf.at 2)))::(4, .s ((fLV m d).toSF))::(5, .s ((qT d).toSF))::(6, .s (zO2 d))::(7, .u (UF.eq (.bool true))):: []) hmix s (by kernel_rfl)
  (oc (zN (C:=(CU.agg (fQV m k d)).cf) 2 (by kernel_rfl))<|oc (jE (C:=(CU.agg (fQV m k d)).cf) (k:=2) (by kernel_rfl) (h:=zGT))<|oc (zI zD zOe (fun u0 W hb (h0:LV W m u0 d)=>(zDF h0 (by omega))))<|oc (zDP (by kernel_rfl) iiz)<|oc (zDQ hz)<|zE) fun a w2 s=> ?_
 refine zA rfl ?_
 refine StS.cond s true iiz (fun e=> ?_) (fun e=>by cases e)
 refine wpIn_seq ?_
 replace s:=s.drop [2]
 refine zB 1 ((2, .u (UF.eq (.int .i64 0))):: []) hmix s (by kernel_rfl)
  (oc zG<|zE) fun a w3 s=> ?_
 refine zA rfl ?_
 refine wpIn_ret ?_
 exact StS.res1 s (t:=2) rfl iiz
theorem zNr {W:World} {m:Nat} {v:Value} {k:Int} {d:Nat} (h:QVp m k d v W) (hm:m≤2000) (hd:0<d):Calls Tryz.prog 42 #[v] W (Ret W (fI k.sign).toSF):=by
 have hz:false=decide (d=0):=(decide_eq_false (by omega)).symm
 refine z7 [(fQV m k d).toSF] Tryz.func42 rfl (by kernel_rfl) ⟨h,trivial⟩ fun a s=> ?_
 refine wpIn_seq ?_
 refine zB 0 [] hmix s (by kernel_rfl)
  zE fun a w1 s=> ?_
 refine yJ (CU.agg (fQV m k d)) rfl s (by kernel_rfl) (fun v W h=>zEU h) fun b1 a w s=> ?_
 refine yU (UF.eq (.int .i64 0)) rfl s (by kernel_rfl) iiz fun a w s=> ?_
 refine zA rfl ?_
 refine wpIn_seq ?_
 refine wpIn_seq ?_
 refine zB 5 ((3, .s (SF.ptr ((CU.agg (fQV m k d)).cf.at 2)))::(4, .s ((fLV m d).toSF))::(5, .s ((qT d).toSF))::(6, .s (zO2 d))::(7, .u (UF.eq (.bool false))):: []) hmix s (by kernel_rfl)
  (oc (zN (C:=(CU.agg (fQV m k d)).cf) 2 (by kernel_rfl))<|oc (jE (C:=(CU.agg (fQV m k d)).cf) (k:=2) (by kernel_rfl) (h:=zGT))<|oc (zI zD zOe (fun u0 W hb (h0:LV W m u0 d)=>(zDF h0 (by omega))))<|oc (zDP (by kernel_rfl) iiz)<|oc (zDQ hz)<|zE) fun a w2 s=> ?_
 refine zA rfl ?_
 refine StS.cond s false iiz (fun e=>by cases e) (fun e=> ?_)
 refine wpIn_skip ?_
 refine wpIn_seq ?_
 replace s:=s.drop [2]
 refine zB 4 ((8, .s (SF.ptr ((CU.agg (fQV m k d)).cf.at 0)))::(9, .s ((fUV m k).toSF))::(10, .s ((UF.eq (.int .i64 (k.sign))).toSF))::(2, .u (UF.eq (.int .i64 (k.sign)))):: []) hmix s (by kernel_rfl)
  (oc (zN (C:=(CU.agg (fQV m k d)).cf) 0 (by kernel_rfl))<|oc (zX (C:=(CU.agg (fQV m k d)).cf) (k:=0) 2 (by kernel_rfl) (h:=zLj))<|oc (zI zD zRX (fun u0 W hb (h0:UV W m u0 k)=>zEz (zIO h0 (by omega))))<|oc zG<|zE) fun a w3 s=> ?_
 refine zA rfl ?_
 refine wpIn_ret ?_
 exact StS.res1 s (t:=2) rfl iiz
theorem zFV {W:World} {m:Nat} {v:Value} {q:Rat} (h:RVp m q v W) (hm:m≤2000):Calls Tryz.prog 42 #[v] W (Ret W (fI q.num.sign).toSF):=by
 obtain ⟨k,d,h1,rfl⟩:=h
 by_cases hd:d=0
 ·have:=zNq h1 hm hd
  rw [hd,Rat.mkRat_zero]
  exact this
 ·rw [zK5 k d (by omega)]
  exact zNr h1 hm (by omega)
theorem zPX {W:World} {m:Nat} {u v:Value} {p q:Rat} (h:QNp p u W) (h':QNp q v W) (hp:QB p m) (hq:QB q m) (hm:m≤990):Calls Tryz.prog 109 #[u,v] W (Ret W (fQN (p+q)).toSF):=by
 have hnew: ∀W u0 u1,NV W u0 (((p).num*(((q).den:Nat):Int))+((q).num*(((p).den:Nat):Int)))→qH W u1 ((p).den*(q).den)→Calls Tryz.prog 68 #[u0,u1] W (Ret W (zAQ (fQN (p+q)) UF.any).toSF):=fun W u0 u1 h0 h1=>by
  have:=zHO (m:=m+m+1) (h0.uv' (hp.num_add hq)) (h1.lv (Nat.lt_of_lt_of_le (hp.den_mul hq) (Nat.pow_le_pow_right yZ (by omega)))) (by omega)
  rw [←Rat.add_def' p q] at this
  exact this.mono fun e w' ⟨v,e1,⟨x,y,e2,h2,_⟩,hb⟩=>⟨v,e1,⟨x,y,e2,h2,trivial⟩,hb⟩
 refine z7 [(fQN p).toSF,(fQN q).toSF] Tryz.func109 rfl (by kernel_rfl) ⟨h,h',trivial⟩ fun a s=> ?_
 refine wpIn_seq ?_
 refine zB 0 [] hmix s (by kernel_rfl)
  zE fun a w1 s=> ?_
 refine yJ (CU.agg (fQN p)) rfl s (by kernel_rfl) (fun v W h=>zOO h) fun b2 a w s=> ?_
 refine yJ (CU.agg (fQN q)) rfl s (by kernel_rfl) (fun v W h=>zOO h) fun b3 a w s=> ?_
 refine zY (CU.len 3) (cs:=zR3) (by kernel_rfl) rfl s (by kernel_rfl) (fun W=>rfl) rfl fun b4 a w s=> ?_
 refine zA rfl ?_
 refine wpIn_seq ?_
 have so:=s.old;have sg:=s.gr
 refine zBS (fun i=> [24].contains i) [⟨25,5,28, [.bool false, .slice none 0 0, .slice none 0 0],SF.newBox w 28 (CU.len 3)⟩] 26 ((8, .s (SF.ptr ((CU.agg (fQN p)).cf.at 0)))::(9, .s ((fNV ((p).num)).toSF))::(10, .s (SF.ptr ((CU.agg (fQN q)).cf.at 2)))::(11, .s ((qT ((q).den)).toSF))::(12, .s ((fNV (((q).den:Nat):Int)).toSF))::(13, .s (zKa (m+m) [(p).num,(((q).den:Nat):Int)]))::(14, .s ((fNV ((p).num*(((q).den:Nat):Int))).toSF))::(15, .s (SF.ptr ((CU.agg (fQN q)).cf.at 0)))::(16, .s ((fNV ((q).num)).toSF))::(17, .s (SF.ptr ((CU.agg (fQN p)).cf.at 2)))::(18, .s ((qT ((p).den)).toSF))::(19, .s ((fNV (((p).den:Nat):Int)).toSF))::(20, .s (zKa (m+m) [(q).num,(((p).den:Nat):Int)]))::(21, .s ((fNV ((q).num*(((p).den:Nat):Int))).toSF))::(22, .s (zKa (m+m) [((p).num*(((q).den:Nat):Int)),((q).num*(((p).den:Nat):Int))]))::(23, .s ((fNV (((p).num*(((q).den:Nat):Int))+((q).num*(((p).den:Nat):Int)))).toSF))::(24, .s (SF.ptr ((CU.agg (fQN p)).cf.at 2)))::(25, .s ((qT ((p).den)).toSF))::(26, .s (SF.ptr ((CU.agg (fQN q)).cf.at 2)))::(27, .s ((qT ((q).den)).toSF))::(28, .s ((qT ((p).den*(q).den)).toSF))::(29, .s ((zAQ (fQN (p+q)) (UF.any)).toSF))::(7, .s ((zAQ (fQN (p+q)) (UF.any)).toSF))::(30, .u (fQN (p+q)))::(5, .s (SF.newBox w 28 (CU.len 3))):: []) hmix s (fmz ⟨⟨by show 25<26;decide, .tail _ (.tail _ (.tail _ (.tail _ (.tail _ (.tail _ (.tail _ (.tail _ (.tail _ zS0)))))))),⟨_,_,_,rfl⟩,by kernel_rfl,zCl (fun _=>rfl) rfl⟩,fnz⟩) (by kernel_rfl)
  (oc (zN (C:=(CU.agg (fQN p)).cf) 0 (by kernel_rfl))<|oc (zX (C:=(CU.agg (fQN p)).cf) (k:=0) 2 (by kernel_rfl) (h:=zA9))<|oc (zN (C:=(CU.agg (fQN q)).cf) 2 (by kernel_rfl))<|oc (jE (C:=(CU.agg (fQN q)).cf) (k:=2) (by kernel_rfl) (h:=zAR))<|oc (zI zD zOd (fun u0 W hb (h0:qH W u0 ((q).den))=>zIZ h0))<|oc (yE (fun u v W (hu:NV W u ((p).num)) (hv:NV W v (((q).den:Nat):Int))=>zAV (NV.uv' hu (Bd.mono (hp).1 (m':=(m+m)) (by first|omega|decide))) (NV.uv' hv (Bd.mono (qP hq.2) (m':=(m+m)) (by first|omega|decide)))))<|oc (zI zD zKb (fun u0 W hb (h0:ISV W (m+m) u0 [(p).num,(((q).den:Nat):Int)])=>zDI h0 (by show (m+m)*2+(m+m)+1≤40000;omega) (by simp) (by simp)))<|oc (zN (C:=(CU.agg (fQN q)).cf) 0 (by kernel_rfl))<|oc (zX (C:=(CU.agg (fQN q)).cf) (k:=0) 2 (by kernel_rfl) (h:=zA9))<|oc (zN (C:=(CU.agg (fQN p)).cf) 2 (by kernel_rfl))<|oc (jE (C:=(CU.agg (fQN p)).cf) (k:=2) (by kernel_rfl) (h:=zAR))<|oc (zI zD zOd (fun u0 W hb (h0:qH W u0 ((p).den))=>zIZ h0))<|oc (yE (fun u v W (hu:NV W u ((q).num)) (hv:NV W v (((p).den:Nat):Int))=>zAV (NV.uv' hu (Bd.mono (hq).1 (m':=(m+m)) (by first|omega|decide))) (NV.uv' hv (Bd.mono (qP hp.2) (m':=(m+m)) (by first|omega|decide)))))<|oc (zI zD zKb (fun u0 W hb (h0:ISV W (m+m) u0 [(q).num,(((p).den:Nat):Int)])=>zDI h0 (by show (m+m)*2+(m+m)+1≤40000;omega) (by simp) (by simp)))<|oc (yE (fun u v W (hu:NV W u ((p).num*(((q).den:Nat):Int))) (hv:NV W v ((q).num*(((p).den:Nat):Int)))=>zAV (NV.uv' hu (Bd.mul (hp).1 (qP hq.2))) (NV.uv' hv (Bd.mul (hq).1 (qP hp.2)))))<|oc (zI zD zSu (fun u0 W hb (h0:ISV W (m+m) u0 [((p).num*(((q).den:Nat):Int)),((q).num*(((p).den:Nat):Int))])=>zP7 h0 (by omega) (by simp) (by simp)))<|oc (zN (C:=(CU.agg (fQN p)).cf) 2 (by kernel_rfl))<|oc (jE (C:=(CU.agg (fQN p)).cf) (k:=2) (by kernel_rfl) (h:=zAR))<|oc (zN (C:=(CU.agg (fQN q)).cf) 2 (by kernel_rfl))<|oc (jE (C:=(CU.agg (fQN q)).cf) (k:=2) (by kernel_rfl) (h:=zAR))<|oc (zH zD zQH (fun u0 u1 W hb (h0:qH W u0 ((p).den)) (h1:qH W u1 ((q).den))=>zKW (qH.lv (m:=m) h0 hp.2) (qH.lv (m:=m) h1 hq.2) (by omega)))<|oc (zH zD zOf (fun u0 u1 W hb (h0:NV W u0 (((p).num*(((q).den:Nat):Int))+((q).num*(((p).den:Nat):Int)))) (h1:qH W u1 ((p).den*(q).den))=>hnew W u0 u1 h0 h1))<|oc zC<|oc (zAY (A:=(fQN (p+q)).toSF) (B:=(UF.any).toSF) iiz)<|oc (zAX (A:=(fQN (p+q)).toSF) (B:=(UF.any).toSF) iiz)<|oc (zDk (cs:=zR3) (by kernel_rfl) (zCl (fun _=>rfl) rfl))<|zE) fun Q' hQ a w2 s hr hd=> ?_
 obtain ⟨b5,_,e5,s⟩:=s.adoptA false 5 (hr (_,_) (.tail _ (.tail _ (.tail _ (.tail _ (.tail _ (.tail _ (.tail _ (.tail _ (.tail _ zS0)))))))))) sg (fun y hy=> .inl (so y hy))
 refine zV (CU.agg (fQN (p+q))) ((fQN (p+q)).toSF) rfl s (by kernel_rfl) rfl rfl rfl iiz iiz yK fun a w s=> ?_
 refine yU UF.any rfl s (by kernel_rfl) (fun _ _ _=>trivial) fun a w s=> ?_
 refine zA rfl (hQ _ _ ?_)
 refine wpIn_seq ?_
 refine zB 1 ((32, .u (fQN (p+q))):: []) hmix s (by kernel_rfl)
  (oc (zK (f:=fQN (p+q)) 3 (by kernel_rfl) (hz:=qX _))<|zE) fun a w3 s=> ?_
 refine zV (CU.agg (fQN (p+q))) ((fQN (p+q)).toSF) rfl s (by kernel_rfl) rfl rfl rfl iiz iiz yK fun a w s=> ?_
 refine zA rfl ?_
 refine wpIn_ret ?_
 exact StS.resC s (CU.agg (fQN (p+q))) rfl (by kernel_rfl) rfl rfl (qX _) (fun cs W h=>h)
theorem zPZ {W:World} {m:Nat} {v:Value} {q:Rat} (h:RVp m q v W) (hm:m≤990) (hm0:0<m):Calls Tryz.prog 139 #[v] W (Ret W (fQN (-q)).toSF):=by
 have hq:QB q m:=h.qb hm0
 refine z7 [(fRV m q).toSF] Tryz.func139 rfl (by kernel_rfl) ⟨h,trivial⟩ fun a s=> ?_
 refine wpIn_seq ?_
 refine zB 0 [] hmix s (by kernel_rfl)
  zE fun a w1 s=> ?_
 refine yJ (CU.agg (fRV m q)) rfl s (by kernel_rfl) (fun v W h=>jT h) fun b1 a w s=> ?_
 refine zY (CU.len 3) (cs:=zR3) (by kernel_rfl) rfl s (by kernel_rfl) (fun W=>rfl) rfl fun b2 a w s=> ?_
 refine zA rfl ?_
 refine wpIn_seq ?_
 refine zB 2 ((3, .s ((fRV m q).toSF))::(4, .u (fQN q)):: []) hmix s (by kernel_rfl)
  (oc (zK (f:=fRV m q) 3 (by kernel_rfl) (hz:=qD _ _))<|oc (zI zD zGl (fun u0 W hb (h0:RVp m q u0 W)=>zBd h0 (by omega)))<|zE) fun a w2 s=> ?_
 refine zV (CU.agg (fQN q)) ((fQN q).toSF) rfl s (by kernel_rfl) rfl rfl rfl (qD _ _) iiz yK fun a w s=> ?_
 refine zA rfl ?_
 refine wpIn_seq ?_
 refine yL [] 6 ((5, .s (SF.ptr ((CU.agg (fQN q)).cf.at 0)))::(6, .s ((fNV ((q).num)).toSF))::(7, .s ((fNV (-(q).num)).toSF))::(8, .s (SF.ptr ((CU.agg (fQN q)).cf.at 2)))::(9, .s ((qT ((q).den)).toSF))::(10, .u (fQN (-q))):: []) hmix s (by kernel_rfl)
  (oc (zN (C:=(CU.agg (fQN q)).cf) 0 (by kernel_rfl))<|oc (zX (C:=(CU.agg (fQN q)).cf) (k:=0) 2 (by kernel_rfl) (h:=zA9))<|oc (zI zD zSt (fun u0 W hb (h0:NV W u0 ((q).num))=>zP4 (NV.uv' h0 (hq).1) (by omega)))<|oc (zN (C:=(CU.agg (fQN q)).cf) 2 (by kernel_rfl))<|oc (jE (C:=(CU.agg (fQN q)).cf) (k:=2) (by kernel_rfl) (h:=zAR))<|oc (qM (fun u v W (hu:NV W u (-(q).num)) (hv:qH W v ((q).den))=>zHq (q:= -q) hu hv))<|zE) fun Q' hQ a w3 s=> ?_
 refine zV (CU.agg (fQN (-q))) ((fQN (-q)).toSF) rfl s (by kernel_rfl) rfl rfl rfl iiz iiz yK fun a w s=> ?_
 refine zA rfl (hQ _ _ ?_)
 refine wpIn_ret ?_
 exact StS.resC s (CU.agg (fQN (-q))) rfl (by kernel_rfl) rfl rfl (qX _) (fun cs W h=>h)
theorem zHP {W:World} {m:Nat} {u v:Value} {p q:Rat} (h:RVp m p u W) (h':RVp m q v W) (hm:m≤990) (hm0:0<m):Calls Tryz.prog 43 #[u,v] W (Ret W (fI (qsg p q)).toSF):=by
 have hp:QB p m:=h.qb hm0
 have hq:QB q m:=h'.qb hm0
 refine z7 [(fRV m p).toSF,(fRV m q).toSF] Tryz.func43 rfl (by kernel_rfl) ⟨h,h',trivial⟩ fun a s=> ?_
 refine wpIn_seq ?_
 refine zB 0 [] hmix s (by kernel_rfl)
  zE fun a w1 s=> ?_
 refine yJ (CU.agg (fRV m p)) rfl s (by kernel_rfl) (fun v W h=>jT h) fun b2 a w s=> ?_
 refine yJ (CU.agg (fRV m q)) rfl s (by kernel_rfl) (fun v W h=>jT h) fun b3 a w s=> ?_
 refine yU (UF.eq (.int .i64 0)) rfl s (by kernel_rfl) iiz fun a w s=> ?_
 refine zA rfl ?_
 refine wpIn_seq ?_
 refine yL [] 4 ((5, .s ((fRV m p).toSF))::(6, .u (fQN p))::(7, .s ((fRV m q).toSF))::(8, .u (fQN q)):: []) hmix s (by kernel_rfl)
  (oc (zK (f:=fRV m p) 3 (by kernel_rfl) (hz:=qD _ _))<|oc (zI zD zGl (fun u0 W hb (h0:RVp m p u0 W)=>zBd h0 (by omega)))<|oc (zK (f:=fRV m q) 3 (by kernel_rfl) (hz:=qD _ _))<|oc (zI zD zGl (fun u0 W hb (h0:RVp m q u0 W)=>zBd h0 (by omega)))<|zE) fun Q' hQ a w2 s=> ?_
 refine zV (CU.agg (fQN p)) ((fQN p).toSF) rfl s (by kernel_rfl) rfl rfl rfl (qD _ _) iiz yK fun a w s=> ?_
 refine zV (CU.agg (fQN q)) ((fQN q).toSF) rfl s (by kernel_rfl) rfl rfl rfl (qD _ _) iiz yK fun a w s=> ?_
 refine zA rfl (hQ _ _ ?_)
 refine wpIn_seq ?_
 replace s:=s.drop [4]
 refine zB 17 ((9, .s (SF.ptr ((CU.agg (fQN p)).cf.at 0)))::(10, .s ((fNV ((p).num)).toSF))::(11, .s (SF.ptr ((CU.agg (fQN q)).cf.at 2)))::(12, .s ((qT ((q).den)).toSF))::(13, .s ((fNV (((q).den:Nat):Int)).toSF))::(14, .s (zKa (m+m) [(p).num,(((q).den:Nat):Int)]))::(15, .s ((fNV ((p).num*(((q).den:Nat):Int))).toSF))::(16, .s (SF.ptr ((CU.agg (fQN q)).cf.at 0)))::(17, .s ((fNV ((q).num)).toSF))::(18, .s (SF.ptr ((CU.agg (fQN p)).cf.at 2)))::(19, .s ((qT ((p).den)).toSF))::(20, .s ((fNV (((p).den:Nat):Int)).toSF))::(21, .s (zKa (m+m) [(q).num,(((p).den:Nat):Int)]))::(22, .s ((fNV ((q).num*(((p).den:Nat):Int))).toSF))::(23, .s ((fNV (((p).num*(((q).den:Nat):Int)) - ((q).num*(((p).den:Nat):Int)))).toSF))::(24, .s ((UF.eq (.int .i64 (qsg p q))).toSF))::(4, .u (UF.eq (.int .i64 (qsg p q)))):: []) hmix s (by kernel_rfl)
  (oc (zN (C:=(CU.agg (fQN p)).cf) 0 (by kernel_rfl))<|oc (zX (C:=(CU.agg (fQN p)).cf) (k:=0) 2 (by kernel_rfl) (h:=zA9))<|oc (zN (C:=(CU.agg (fQN q)).cf) 2 (by kernel_rfl))<|oc (jE (C:=(CU.agg (fQN q)).cf) (k:=2) (by kernel_rfl) (h:=zAR))<|oc (zI zD zOd (fun u0 W hb (h0:qH W u0 ((q).den))=>zIZ h0))<|oc (yE (fun u v W (hu:NV W u ((p).num)) (hv:NV W v (((q).den:Nat):Int))=>zAV (NV.uv' hu (Bd.mono (hp).1 (m':=(m+m)) (by first|omega|decide))) (NV.uv' hv (Bd.mono (qP hq.2) (m':=(m+m)) (by first|omega|decide)))))<|oc (zI zD zKb (fun u0 W hb (h0:ISV W (m+m) u0 [(p).num,(((q).den:Nat):Int)])=>zDI h0 (by show (m+m)*2+(m+m)+1≤40000;omega) (by simp) (by simp)))<|oc (zN (C:=(CU.agg (fQN q)).cf) 0 (by kernel_rfl))<|oc (zX (C:=(CU.agg (fQN q)).cf) (k:=0) 2 (by kernel_rfl) (h:=zA9))<|oc (zN (C:=(CU.agg (fQN p)).cf) 2 (by kernel_rfl))<|oc (jE (C:=(CU.agg (fQN p)).cf) (k:=2) (by kernel_rfl) (h:=zAR))<|oc (zI zD zOd (fun u0 W hb (h0:qH W u0 ((p).den))=>zIZ h0))<|oc (yE (fun u v W (hu:NV W u ((q).num)) (hv:NV W v (((p).den:Nat):Int))=>zAV (NV.uv' hu (Bd.mono (hq).1 (m':=(m+m)) (by first|omega|decide))) (NV.uv' hv (Bd.mono (qP hp.2) (m':=(m+m)) (by first|omega|decide)))))<|oc (zI zD zKb (fun u0 W hb (h0:ISV W (m+m) u0 [(q).num,(((p).den:Nat):Int)])=>zDI h0 (by show (m+m)*2+(m+m)+1≤40000;omega) (by simp) (by simp)))<|oc (zH zD zTw (fun u0 u1 W hb (h0:NV W u0 ((p).num*(((q).den:Nat):Int))) (h1:NV W u1 ((q).num*(((p).den:Nat):Int)))=>zP3 (NV.uv' h0 (Bd.mul (hp).1 (qP hq.2))) (NV.uv' h1 (Bd.mul (hq).1 (qP hp.2))) (by omega)))<|oc (zI zD zRX (fun u0 W hb (h0:NV W u0 (((p).num*(((q).den:Nat):Int)) - ((q).num*(((p).den:Nat):Int))))=>zEz (zIO (NV.uv' h0 (Bd.sub (Bd.mul (hp).1 (qP hq.2)) (Bd.mul (hq).1 (qP hp.2)))) (by omega))))<|oc zG<|zE) fun a w3 s=> ?_
 refine zA rfl ?_
 refine wpIn_ret ?_
 exact StS.res1 s (t:=4) rfl iiz
theorem zK6 {W:World} {m:Nat} {u v:Value} {p q:Rat} (h:RVp m p u W) (h':RVp m q v W) (hm:m≤990) (hm0:0<m):Calls Tryz.prog 20 #[u,v] W (Ret W (zAQ (fQN (p / q)) (fI (if q=0 then 30 else 0))).toSF):=by
 have hp:QB p m:=h.qb hm0
 have hq:QB q m:=h'.qb hm0
 have bk2:Bd (if decide ((q).num<0) then -(((q).den:Nat):Int) else (((q).den:Nat):Int)) m:=by split;exact (qP hq.2).neg;exact qP hq.2
 have hval:mkRat ((p).num*(if decide ((q).num<0) then -(((q).den:Nat):Int) else (((q).den:Nat):Int))) ((p).den*(q).num.natAbs)=p / q:=zPQ p q
 have herr:((p).den*(q).num.natAbs=0)=(q=0):=by rw [Nat.mul_eq_zero,Int.natAbs_eq_zero,Rat.num_eq_zero];have:=p.den_pos;simp;omega
 have hnew: ∀W u0 u1,NV W u0 ((p).num*(if decide ((q).num<0) then -(((q).den:Nat):Int) else (((q).den:Nat):Int)))→qH W u1 ((p).den*(q).num.natAbs)→Calls Tryz.prog 68 #[u0,u1] W (Ret W (zAQ (fQN (p / q)) (fI (if q=0 then 30 else 0))).toSF):=fun W u0 u1 h0 h1=>by
  have:=zHO (m:=m+m) (h0.uv' (Bd.mul hp.1 bk2)) (h1.lv (zDN hp.2 hq.1)) (by omega)
  simp only [hval,herr] at this
  exact this
 refine z7 [(fRV m p).toSF,(fRV m q).toSF] Tryz.func20 rfl (by kernel_rfl) ⟨h,h',trivial⟩ fun a s=> ?_
 refine wpIn_seq ?_
 refine zB 0 [] hmix s (by kernel_rfl)
  zE fun a w1 s=> ?_
 refine yJ (CU.agg (fRV m p)) rfl s (by kernel_rfl) (fun v W h=>jT h) fun b2 a w s=> ?_
 refine yJ (CU.agg (fRV m q)) rfl s (by kernel_rfl) (fun v W h=>jT h) fun b3 a w s=> ?_
 refine zY (CU.len 3) (cs:=zR3) (by kernel_rfl) rfl s (by kernel_rfl) (fun W=>rfl) rfl fun b4 a w s=> ?_
 refine yU (UF.eq (.int .i64 0)) rfl s (by kernel_rfl) iiz fun a w s=> ?_
 refine zA rfl ?_
 refine wpIn_seq ?_
 refine yL [] 4 ((6, .s ((fRV m p).toSF))::(7, .u (fQN p))::(8, .s ((fRV m q).toSF))::(9, .u (fQN q)):: []) hmix s (by kernel_rfl)
  (oc (zK (f:=fRV m p) 3 (by kernel_rfl) (hz:=qD _ _))<|oc (zI zD zGl (fun u0 W hb (h0:RVp m p u0 W)=>zBd h0 (by omega)))<|oc (zK (f:=fRV m q) 3 (by kernel_rfl) (hz:=qD _ _))<|oc (zI zD zGl (fun u0 W hb (h0:RVp m q u0 W)=>zBd h0 (by omega)))<|zE) fun Q' hQ a w2 s=> ?_
 refine zV (CU.agg (fQN p)) ((fQN p).toSF) rfl s (by kernel_rfl) rfl rfl rfl (qD _ _) iiz yK fun a w s=> ?_
 refine zV (CU.agg (fQN q)) ((fQN q).toSF) rfl s (by kernel_rfl) rfl rfl rfl (qD _ _) iiz yK fun a w s=> ?_
 refine zA rfl (hQ _ _ ?_)
 refine wpIn_seq ?_
 replace s:=s.drop [5]
 refine yL [] 19 ((10, .s (SF.ptr ((CU.agg (fQN p)).cf.at 0)))::(11, .s ((fNV ((p).num)).toSF))::(12, .s (SF.ptr ((CU.agg (fQN q)).cf.at 0)))::(13, .s (SF.ptr ((CU.agg (fQN q)).cf.at 0)))::(14, .s ((UF.eq (.bool (decide ((q).num<0)))).toSF))::(15, .s (SF.ptr ((CU.agg (fQN q)).cf.at 2)))::(16, .s ((qT ((q).den)).toSF))::(17, .s ((fUV m (if decide ((q).num<0) then -(((q).den:Nat):Int) else (((q).den:Nat):Int))).toSF))::(18, .s (zKa (m+m) [(p).num,(if decide ((q).num<0) then -(((q).den:Nat):Int) else (((q).den:Nat):Int))]))::(19, .s ((fNV ((p).num*(if decide ((q).num<0) then -(((q).den:Nat):Int) else (((q).den:Nat):Int)))).toSF))::(20, .s (SF.ptr ((CU.agg (fQN p)).cf.at 2)))::(21, .s ((qT ((p).den)).toSF))::(22, .s (SF.ptr ((CU.agg (fQN q)).cf.at 0)))::(23, .s (SF.ptr ((CU.agg (fQN q)).cf.at 1)))::(24, .s ((qT ((q).num.natAbs)).toSF))::(25, .s ((qT ((p).den*(q).num.natAbs)).toSF))::(26, .s ((zAQ (fQN (p / q)) (UF.eq (.int .i64 (if q=0 then 30 else 0)))).toSF))::(27, .u (fQN (p / q)))::(28, .u (UF.eq (.int .i64 (if q=0 then 30 else 0)))):: []) hmix s (by kernel_rfl)
  (oc (zN (C:=(CU.agg (fQN p)).cf) 0 (by kernel_rfl))<|oc (zX (C:=(CU.agg (fQN p)).cf) (k:=0) 2 (by kernel_rfl) (h:=zA9))<|oc (zN (C:=(CU.agg (fQN q)).cf) 0 (by kernel_rfl))<|oc (yT (C:=(CU.agg (fQN q)).cf) 0 0 (by kernel_rfl))<|oc (jE (C:=(CU.agg (fQN q)).cf) (k:=0) (by kernel_rfl) (h:=zRu))<|oc (zN (C:=(CU.agg (fQN q)).cf) 2 (by kernel_rfl))<|oc (jE (C:=(CU.agg (fQN q)).cf) (k:=2) (by kernel_rfl) (h:=zAR))<|oc (qM (fun u v W (hu:u= .bool (decide ((q).num<0))) (hv:qH W v ((q).den))=>zQU hu hv hq.2))<|oc (yE (fun u v W (hu:NV W u ((p).num)) (hv:UV W m v (if decide ((q).num<0) then -(((q).den:Nat):Int) else (((q).den:Nat):Int)))=>zAV (NV.uv' hu (Bd.mono (hp).1 (m':=(m+m)) (by first|omega|decide))) (UV.mono hv (m':=(m+m)) (by first|omega|decide))))<|oc (zI zD zKb (fun u0 W hb (h0:ISV W (m+m) u0 [(p).num,(if decide ((q).num<0) then -(((q).den:Nat):Int) else (((q).den:Nat):Int))])=>zDI h0 (by show (m+m)*2+(m+m)+1≤40000;omega) (by simp) (by simp)))<|oc (zN (C:=(CU.agg (fQN p)).cf) 2 (by kernel_rfl))<|oc (jE (C:=(CU.agg (fQN p)).cf) (k:=2) (by kernel_rfl) (h:=zAR))<|oc (zN (C:=(CU.agg (fQN q)).cf) 0 (by kernel_rfl))<|oc (yT (C:=(CU.agg (fQN q)).cf) 0 1 (by kernel_rfl))<|oc (jE (C:=(CU.agg (fQN q)).cf) (k:=1) (by kernel_rfl) (h:=zRv))<|oc (zH zD zQH (fun u0 u1 W hb (h0:qH W u0 ((p).den)) (h1:qH W u1 ((q).num.natAbs))=>zKW (qH.lv (m:=m) h0 hp.2) (qH.lv (m:=m) h1 hq.1) (by omega)))<|oc (zH zD zOf (fun u0 u1 W hb (h0:NV W u0 ((p).num*(if decide ((q).num<0) then -(((q).den:Nat):Int) else (((q).den:Nat):Int)))) (h1:qH W u1 ((p).den*(q).num.natAbs))=>hnew W u0 u1 h0 h1))<|oc (zAY (A:=(fQN (p / q)).toSF) (B:=(UF.eq (.int .i64 (if q=0 then 30 else 0))).toSF) iiz)<|oc (zAX (A:=(fQN (p / q)).toSF) (B:=(UF.eq (.int .i64 (if q=0 then 30 else 0))).toSF) iiz)<|zE) fun Q' hQ a w3 s=> ?_
 refine zV (CU.agg (fQN (p / q))) ((fQN (p / q)).toSF) rfl s (by kernel_rfl) rfl rfl rfl iiz iiz yK fun a w s=> ?_
 refine yU (UF.eq (.int .i64 (if q=0 then 30 else 0))) rfl s (by kernel_rfl) iiz fun a w s=> ?_
 refine zA rfl (hQ _ _ ?_)
 refine wpIn_ret ?_
 exact StS.resCT s (CU.agg (fQN (p / q))) rfl (by kernel_rfl) rfl rfl (qX _) (fun cs v W h1 h2=>⟨_,_,rfl,h1,h2⟩)
end Go.Proofs.Wd

namespace Go.Proofs.Wd
set_option maxRecDepth 100000
open Go.RowKit Lb
theorem zLT {W:World} {b o:Nat} {cs ds:List Value} (k:Nat) (h:Mem W b o cs) (hd: ∀j u,ds[j]?=some u→cs[k+j]?=some u):Mem W b (o+k) ds:=fun j u hj=>by
 have:=h (k+j) u (hd j u hj)
 rwa [←Nat.add_assoc] at this
abbrev rvs (m:Nat) (qs:List Rat):List CU:=qs.map fun q=>CU.agg (fRV m q)
theorem zKL {m:Nat} {qs:List Rat} {k:Nat} (h:k<qs.length):(rvs m qs)[k]?=some (CU.agg (fRV m (qAt qs k))):=by
 rw [List.getElem?_map,List.getElem?_eq_getElem h]
 simp [qAt,h]
theorem zLo {qs:List Rat} {k:Nat} (h:k<qs.length):qAt qs k∈qs:=by
 simp [qAt,h]
theorem zIH {m:Nat} {q:Rat} {v:Value} {W:World} (h:RVp m q v W): ∃s A n c D i j,v= .agg #[.bool s, .slice A n c, .slice D i j]:=by
 obtain ⟨k,d,h1,_⟩:=h
 exact zDK h1
theorem zBI {u v:Value} {W:World} {m:Nat} {p q:Rat} (hu:RVp m p u W) (hv:RVp m q v W): ∃e cs,yH Tryz.prog 110 2 [(0,u),(1,v)]=some (e,cs)∧(SF.row 3 (rvs m [p,q])).p (.slice (some ⟨W.heap.size,0,none⟩) 2 2) (W.alloc (.cells cs e)):=by
 obtain ⟨s,A,n,c,D,i,j,rfl⟩:=zIH hu
 obtain ⟨s',A',n',c',D',i',j',rfl⟩:=zIH hv
 refine ⟨_,_,zOG s s' A A' D D' n n' c c' i i' j j',some ⟨W.heap.size,0,none⟩,2,rfl,Nat.le_refl _,by decide,fun e=>(by cases e),fun x C hx=> ?_⟩
 have hb:=zCx W (.cells #[.bool s, .slice A n c, .slice D i j, .bool s', .slice A' n' c', .slice D' i' j'] 28)
 have hm:=zBF W #[.bool s, .slice A n c, .slice D i j, .bool s', .slice A' n' c', .slice D' i' j'] 28
 rcases (by have:=(List.getElem?_eq_some_iff.1 hx).1;simp at this;omega:x=0∨x=1) with rfl|rfl
 ·obtain rfl:CU.agg (fRV m p)=C:=by simpa using hx
  exact ⟨W.heap.size,0, [.bool s, .slice A n c, .slice D i j],rfl,zLT 0 hm (fun j u hj=>by match j with|0=>exact hj|1=>exact hj|2=>exact hj|j+3=>simp at hj),(fRV m p).toSF.st _ _ _ hu hb⟩
 ·obtain rfl:CU.agg (fRV m q)=C:=by simpa using hx
  exact ⟨W.heap.size,0, [.bool s', .slice A' n' c', .slice D' i' j'],rfl,zLT 3 hm (fun j u hj=>by match j with|0=>exact hj|1=>exact hj|2=>exact hj|j+3=>simp at hj),(fRV m q).toSF.st _ _ _ hv hb⟩
theorem zP2 {W:World} {m:Nat} {v:Value} {qs:List Rat} (M:Nat) (h:(SF.row 3 (rvs m qs)).p v W) (_hm0:0<m) (hmM:m≤M) (hM:M≤990) (hl:qs.length≤1000000) (hq: ∀q,q∈qs→QB q m) (hp: ∀k,k<qs.length→QB (zC1 qs k) M):Calls Tryz.prog 66 #[v] W (Ret W (fQN (zC1 qs qs.length)).toSF):=by
 refine z7 [SF.row 3 (rvs m qs)] Tryz.func66 rfl (by kernel_rfl) ⟨h,trivial⟩ fun a s=> ?_
 refine wpIn_seq ?_
 refine zB 0 [] hmix s (by kernel_rfl)
  zE fun a w1 s=> ?_
 refine zY (CU.len 3) (cs:=zR3) (by kernel_rfl) rfl s (by kernel_rfl) (fun W=>rfl) rfl fun b2 a w s=> ?_
 refine zA rfl ?_
 refine wpIn_seq ?_
 refine zB 1 ((5, .u (fQN ((0:Int):Rat))):: []) hmix s (by kernel_rfl)
  (oc (zI zD zGm (fun u0 W hb (h0:u0= .int .i64 0)=>zDb 0 h0 (by decide)))<|zE) fun a w2 s=> ?_
 refine zY (CU.len 3) (cs:=zR3) (by kernel_rfl) rfl s (by kernel_rfl) (fun W=>rfl) rfl fun b3 a w s=> ?_
 refine zV (CU.agg (fQN ((0:Int):Rat))) ((fQN ((0:Int):Rat)).toSF) rfl s (by kernel_rfl) rfl rfl rfl iiz iiz yK fun a w s=> ?_
 refine zA rfl ?_
 refine wpIn_seq ?_
 refine wpIn_seq ?_
 refine zB 1 ((4, .u (UF.eq (.int .i64 0))):: []) hmix s (by kernel_rfl)
  (oc zG<|zE) fun a w3 s=> ?_
 refine zA rfl ?_
 refine wpIn_block ?_
 refine zGD 3 (fun p=>CU.agg (fQN (zC1 qs p))) (fun p=>p≤qs.length) (fun p=> [(0, .o (SF.row 3 (rvs m qs))),(4, .u (fI ((p:Nat):Int)))]) (fun p=>qs.length - p) (0:Nat) (Nat.zero_le _) (s.keepK _ (fmz ⟨mz2,fmz ⟨.head _,fnz⟩⟩)) rfl fun p a w hx s=> ?_
 refine wpIn_seq ?_
 refine wpIn_seq ?_
 refine zB 4 ((6, .s ((fI ((p:Nat):Int)).toSF))::(7, .s (SF.row 3 (rvs m qs)))::(8, .s ((UF.eq (.int .i64 (((rvs m qs).length:Nat):Int))).toSF))::(9, .u (UF.eq (.bool (decide (((p:Nat):Int)<(((rvs m qs).length:Nat):Int)))))):: []) hmix s (by kernel_rfl)
  (oc zC<|oc zC<|oc (zCm (z:=3) (Cs:=rvs m qs) (by kernel_rfl) iiz (fun _=>rfl))<|oc (zQ .i64 ((p:Nat):Int) (((rvs m qs).length:Nat):Int) (decide (((p:Nat):Int)<(((rvs m qs).length:Nat):Int))) iiz iiz rfl rfl)<|zE) fun a w4 s=> ?_
 refine zA rfl ?_
 refine StS.cond s (decide (((p:Nat):Int)<(((rvs m qs).length:Nat):Int))) iiz (fun e=> ?_) (fun e=> ?_)
 ·have hk1:p+1≤qs.length:=by have:=of_decide_eq_true e;rw [List.length_map] at this;omega
  have hx2:=zKL (m:=m) (k:=p) hk1
  have hqp:=hq _ (zLo (k:=p) hk1)
  refine wpIn_skip ?_
  refine wpIn_seq ?_
  refine wpIn_block ?_
  refine yL [1,2] 7 ((12, .s ((fQN (zC1 qs p)).toSF))::(13, .s (SF.row 3 (rvs m qs)))::(14, .s ((fI ((p:Nat):Int)).toSF))::(15, .s (SF.ptr (CU.agg (fRV m (qAt qs p))).cf))::(16, .s ((fRV m (qAt qs p)).toSF))::(17, .s ((fQN (qAt qs p)).toSF))::(18, .u (fQN (zC1 qs p+qAt qs p))):: []) hmix s (by kernel_rfl)
   (oc (zK (f:=fQN (zC1 qs p)) 3 (by kernel_rfl) (hz:=qX _))<|oc zC<|oc zC<|oc (zAK (z:=3) (Cs:=rvs m qs) (i:=p) (C:=CU.agg (fRV m (qAt qs p))) (by kernel_rfl) hx2 iiz iiz)<|oc (zK (f:=fRV m (qAt qs p)) 3 (by kernel_rfl) (hz:=qD _ _))<|oc (zI zD zGl (fun u0 W hb (h0:RVp m (qAt qs p) u0 W)=>zBd h0 (by omega)))<|oc (zH zD zSD (fun u0 u1 W hb (h0:QNp (zC1 qs p) u0 W) (h1:QNp (qAt qs p) u1 W)=>zPX h0 h1 (hp p hk1) (hqp.mono (by omega)) (by omega)))<|zE) fun Q' hQ a w5 s=> ?_
  refine zV (CU.agg (fQN (zC1 qs p+qAt qs p))) ((fQN (zC1 qs p+qAt qs p)).toSF) rfl s (by kernel_rfl) rfl rfl rfl (qX _) iiz yK fun a w s=> ?_
  refine zA rfl (hQ _ _ ?_)
  refine qC 2 ((10, .s ((fI ((p:Nat):Int)).toSF))::(11, .u (fI ((p+1:Nat):Int))):: []) s (by kernel_rfl)
   (oc zC<|oc (y7 .i64 ((p:Nat):Int) 1 ((p+1:Nat):Int) iiz iiz (wrap64 _ _ (by omega) (by omega)))<|zE) fun a w6 s=> ?_
  replace s:=s.drop [4]
  refine yU (fI ((p+1:Nat):Int)) rfl s (by kernel_rfl) iiz fun a w s=> ?_
  refine zA rfl ?_
  exact ⟨p+1,hk1,(by show qs.length - (p+1)<qs.length - p;omega),s.keepK _ (fmz ⟨mz4,fmz ⟨.head _,fnz⟩⟩)⟩
 ·have hk1:p=qs.length:=by have:=of_decide_eq_false e;rw [List.length_map] at this;omega
  refine wpIn_exit ?_
  refine wpIn_seq ?_
  refine zB 1 ((19, .u (fQN (zC1 qs p))):: []) hmix s (by kernel_rfl)
   (oc (zK (f:=fQN (zC1 qs p)) 3 (by kernel_rfl) (hz:=qX _))<|zE) fun a w7 s=> ?_
  refine zV (CU.agg (fQN (zC1 qs p))) ((fQN (zC1 qs p)).toSF) rfl s (by kernel_rfl) rfl rfl rfl iiz iiz yK fun a w s=> ?_
  refine zA rfl ?_
  refine wpIn_ret ?_
  exact StS.resC s (CU.agg (fQN (zC1 qs p))) rfl (by kernel_rfl) rfl rfl (qX _) (fun cs W h=>by rw [hk1] at h;exact h)
theorem zP0 {W:World} {m:Nat} {v:Value} {qs:List Rat} (M:Nat) (h:(SF.row 3 (rvs m qs)).p v W) (_hm0:0<m) (hmM:m≤M) (hM:M≤990) (hl:qs.length≤1000000) (hq: ∀q,q∈qs→QB q m) (hp: ∀k,k<qs.length→QB (qU qs k) M):Calls Tryz.prog 72 #[v] W (Ret W (fQN (qU qs qs.length)).toSF):=by
 refine z7 [SF.row 3 (rvs m qs)] Tryz.func72 rfl (by kernel_rfl) ⟨h,trivial⟩ fun a s=> ?_
 refine wpIn_seq ?_
 refine zB 0 [] hmix s (by kernel_rfl)
  zE fun a w1 s=> ?_
 refine zY (CU.len 3) (cs:=zR3) (by kernel_rfl) rfl s (by kernel_rfl) (fun W=>rfl) rfl fun b2 a w s=> ?_
 refine zA rfl ?_
 refine wpIn_seq ?_
 refine zB 1 ((6, .u (fQN ((1:Int):Rat))):: []) hmix s (by kernel_rfl)
  (oc (zI zD zGm (fun u0 W hb (h0:u0= .int .i64 1)=>zDb 1 h0 (by decide)))<|zE) fun a w2 s=> ?_
 refine zY (CU.len 3) (cs:=zR3) (by kernel_rfl) rfl s (by kernel_rfl) (fun W=>rfl) rfl fun b3 a w s=> ?_
 refine zV (CU.agg (fQN ((1:Int):Rat))) ((fQN ((1:Int):Rat)).toSF) rfl s (by kernel_rfl) rfl rfl rfl iiz iiz yK fun a w s=> ?_
 refine zA rfl ?_
 refine wpIn_seq ?_
 refine wpIn_seq ?_
 refine zB 1 ((4, .u (UF.eq (.int .i64 0))):: []) hmix s (by kernel_rfl)
  (oc zG<|zE) fun a w3 s=> ?_
 refine zA rfl ?_
 refine wpIn_block ?_
 refine zGD 3 (fun p=>CU.agg (fQN (qU qs p))) (fun p=>p≤qs.length) (fun p=> [(0, .o (SF.row 3 (rvs m qs))),(4, .u (fI ((p:Nat):Int)))]) (fun p=>qs.length - p) (0:Nat) (Nat.zero_le _) (s.keepK _ (fmz ⟨mz2,fmz ⟨.head _,fnz⟩⟩)) rfl fun p a w hx s=> ?_
 refine wpIn_seq ?_
 refine wpIn_seq ?_
 refine zB 4 ((7, .s ((fI ((p:Nat):Int)).toSF))::(8, .s (SF.row 3 (rvs m qs)))::(9, .s ((UF.eq (.int .i64 (((rvs m qs).length:Nat):Int))).toSF))::(10, .u (UF.eq (.bool (decide (((p:Nat):Int)<(((rvs m qs).length:Nat):Int)))))):: []) hmix s (by kernel_rfl)
  (oc zC<|oc zC<|oc (zCm (z:=3) (Cs:=rvs m qs) (by kernel_rfl) iiz (fun _=>rfl))<|oc (zQ .i64 ((p:Nat):Int) (((rvs m qs).length:Nat):Int) (decide (((p:Nat):Int)<(((rvs m qs).length:Nat):Int))) iiz iiz rfl rfl)<|zE) fun a w4 s=> ?_
 refine zA rfl ?_
 refine StS.cond s (decide (((p:Nat):Int)<(((rvs m qs).length:Nat):Int))) iiz (fun e=> ?_) (fun e=> ?_)
 ·have hk1:p+1≤qs.length:=by have:=of_decide_eq_true e;rw [List.length_map] at this;omega
  have hx2:=zKL (m:=m) (k:=p) hk1
  have hqp:=hq _ (zLo (k:=p) hk1)
  have hnew: ∀W u0 u1,NV W u0 ((qU qs p).num*(qAt qs p).num)→qH W u1 ((qU qs p).den*(qAt qs p).den)→Calls Tryz.prog 68 #[u0,u1] W (Ret W (zAQ (fQN (qU qs p*qAt qs p)) (fI 0)).toSF):=fun W u0 u1 h0 h1=>by
   have:=zK8 (m:=M+m) (h0.uv' (Bd.mul (hp p hk1).1 hqp.1)) (h1.lv (zDN (hp p hk1).2 hqp.2)) (by omega) (Nat.mul_pos (Rat.den_pos _) (Rat.den_pos _))
   rw [←Rat.mul_def'] at this
   exact this
  refine wpIn_skip ?_
  refine wpIn_seq ?_
  refine wpIn_block ?_
  refine wpIn_seq ?_
  refine zB 5 ((13, .s (SF.row 3 (rvs m qs)))::(14, .s ((fI ((p:Nat):Int)).toSF))::(15, .s (SF.ptr (CU.agg (fRV m (qAt qs p))).cf))::(16, .s ((fRV m (qAt qs p)).toSF))::(17, .u (fQN (qAt qs p))):: []) hmix s (by kernel_rfl)
   (oc zC<|oc zC<|oc (zAK (z:=3) (Cs:=rvs m qs) (i:=p) (C:=CU.agg (fRV m (qAt qs p))) (by kernel_rfl) hx2 iiz iiz)<|oc (zK (f:=fRV m (qAt qs p)) 3 (by kernel_rfl) (hz:=qD _ _))<|oc (zI zD zGl (fun u0 W hb (h0:RVp m (qAt qs p) u0 W)=>zBd h0 (by omega)))<|zE) fun a w5 s=> ?_
  refine zY (CU.len 3) (cs:=zR3) (by kernel_rfl) rfl s (by kernel_rfl) (fun W=>rfl) rfl fun b5 a w s=> ?_
  refine zV (CU.agg (fQN (qAt qs p))) ((fQN (qAt qs p)).toSF) rfl s (by kernel_rfl) rfl rfl rfl iiz iiz yK fun a w s=> ?_
  refine zA rfl ?_
  refine zBS (fun i=> [14].contains i) [] 15 ((19, .s (SF.ptr ((CU.agg (fQN (qU qs p))).cf.at 0)))::(20, .s ((fNV ((qU qs p).num)).toSF))::(21, .s (SF.ptr ((CU.agg (fQN (qAt qs p))).cf.at 0)))::(22, .s ((fNV ((qAt qs p).num)).toSF))::(23, .s (zKa (M+m) [(qU qs p).num,(qAt qs p).num]))::(24, .s ((fNV ((qU qs p).num*(qAt qs p).num)).toSF))::(25, .s (SF.ptr ((CU.agg (fQN (qU qs p))).cf.at 2)))::(26, .s ((qT ((qU qs p).den)).toSF))::(27, .s (SF.ptr ((CU.agg (fQN (qAt qs p))).cf.at 2)))::(28, .s ((qT ((qAt qs p).den)).toSF))::(29, .s ((qT ((qU qs p).den*(qAt qs p).den)).toSF))::(30, .s ((zAQ (fQN (qU qs p*qAt qs p)) (UF.eq (.int .i64 0))).toSF))::(18, .s ((zAQ (fQN (qU qs p*qAt qs p)) (UF.eq (.int .i64 0))).toSF))::(31, .u (fQN (qU qs p*qAt qs p)))::(32, .s ((UF.eq (.int .i64 0)).toSF)):: []) hmix s fnz (by kernel_rfl)
   (oc (zN (C:=(CU.agg (fQN (qU qs p))).cf) 0 (by kernel_rfl))<|oc (zX (C:=(CU.agg (fQN (qU qs p))).cf) (k:=0) 2 (by kernel_rfl) (h:=zA9))<|oc (zN (C:=(CU.agg (fQN (qAt qs p))).cf) 0 (by kernel_rfl))<|oc (zX (C:=(CU.agg (fQN (qAt qs p))).cf) (k:=0) 2 (by kernel_rfl) (h:=zA9))<|oc (yE (fun u v W (hu:NV W u ((qU qs p).num)) (hv:NV W v ((qAt qs p).num))=>zAV (NV.uv' hu (Bd.mono (hp p hk1).1 (m':=(M+m)) (by first|omega|decide))) (NV.uv' hv (Bd.mono (hqp).1 (m':=(M+m)) (by first|omega|decide)))))<|oc (zI zD zKb (fun u0 W hb (h0:ISV W (M+m) u0 [(qU qs p).num,(qAt qs p).num])=>zDI h0 (by show (M+m)*2+(M+m)+1≤40000;omega) (by simp) (by simp)))<|oc (zN (C:=(CU.agg (fQN (qU qs p))).cf) 2 (by kernel_rfl))<|oc (jE (C:=(CU.agg (fQN (qU qs p))).cf) (k:=2) (by kernel_rfl) (h:=zAR))<|oc (zN (C:=(CU.agg (fQN (qAt qs p))).cf) 2 (by kernel_rfl))<|oc (jE (C:=(CU.agg (fQN (qAt qs p))).cf) (k:=2) (by kernel_rfl) (h:=zAR))<|oc (zH zD zQH (fun u0 u1 W hb (h0:qH W u0 ((qU qs p).den)) (h1:qH W u1 ((qAt qs p).den))=>zKW (qH.lv (m:=M+m) h0 (Nat.lt_of_lt_of_le (hp p hk1).2 (Nat.pow_le_pow_right yZ (by omega)))) (qH.lv (m:=M+m) h1 (Nat.lt_of_lt_of_le hqp.2 (Nat.pow_le_pow_right yZ (by omega)))) (by omega)))<|oc (zH zD zOf (fun u0 u1 W hb (h0:NV W u0 ((qU qs p).num*(qAt qs p).num)) (h1:qH W u1 ((qU qs p).den*(qAt qs p).den))=>hnew W u0 u1 h0 h1))<|oc zC<|oc (zAY (A:=(fQN (qU qs p*qAt qs p)).toSF) (B:=(UF.eq (.int .i64 0)).toSF) iiz)<|oc (zAX (A:=(fQN (qU qs p*qAt qs p)).toSF) (B:=(UF.eq (.int .i64 0)).toSF) iiz)<|zE) fun Q' hQ a w6 s hr hd=> ?_
  refine zV (CU.agg (fQN (qU qs p*qAt qs p))) ((fQN (qU qs p*qAt qs p)).toSF) rfl s (by kernel_rfl) rfl rfl rfl (qX _) iiz yK fun a w s=> ?_
  refine zA rfl (hQ _ _ ?_)
  refine qC 2 ((11, .s ((fI ((p:Nat):Int)).toSF))::(12, .u (fI ((p+1:Nat):Int))):: []) s (by kernel_rfl)
   (oc zC<|oc (y7 .i64 ((p:Nat):Int) 1 ((p+1:Nat):Int) iiz iiz (wrap64 _ _ (by omega) (by omega)))<|zE) fun a w7 s=> ?_
  replace s:=s.drop [4]
  refine yU (fI ((p+1:Nat):Int)) rfl s (by kernel_rfl) iiz fun a w s=> ?_
  refine zA rfl ?_
  replace s:=s.popB
  exact ⟨p+1,hk1,(by show qs.length - (p+1)<qs.length - p;omega),s.keepK _ (fmz ⟨mz5,fmz ⟨.head _,fnz⟩⟩)⟩
 ·have hk1:p=qs.length:=by have:=of_decide_eq_false e;rw [List.length_map] at this;omega
  refine wpIn_exit ?_
  refine wpIn_seq ?_
  refine zB 1 ((33, .u (fQN (qU qs p))):: []) hmix s (by kernel_rfl)
   (oc (zK (f:=fQN (qU qs p)) 3 (by kernel_rfl) (hz:=qX _))<|zE) fun a w8 s=> ?_
  refine zV (CU.agg (fQN (qU qs p))) ((fQN (qU qs p)).toSF) rfl s (by kernel_rfl) rfl rfl rfl iiz iiz yK fun a w s=> ?_
  refine zA rfl ?_
  refine wpIn_ret ?_
  exact StS.resC s (CU.agg (fQN (qU qs p))) rfl (by kernel_rfl) rfl rfl (qX _) (fun cs W h=>by rw [hk1] at h;exact h)
theorem zDc {W:World} {m:Nat} {v:Value} {p q:Rat} (h:(SF.row 3 (rvs m [p,q])).p v W) (hp:QB p m) (hq:QB q m) (hm:m≤990):Calls Tryz.prog 66 #[v] W (Ret W (fQN (p+q)).toSF):=by
 have:=zP2 m h hp.pos lr hm (by simp) (fun x hx=>by simp at hx;rcases hx with rfl|rfl;exact hp;exact hq) (fun k hk=>by
  rcases (by simp at hk;omega:k=0∨k=1) with rfl|rfl
  ·exact QB.zero hp.pos
  ·show QB (0+p) _
   rw [Rat.zero_add]
   exact hp)
 rw [show ([p,q]:List Rat).length=2 from rfl,zQb] at this
 exact this
theorem zBz {W:World} {m:Nat} {v:Value} {p q:Rat} (h:(SF.row 3 (rvs m [p,q])).p v W) (hp:QB p m) (hq:QB q m) (hm:m≤990):Calls Tryz.prog 72 #[v] W (Ret W (fQN (p*q)).toSF):=by
 have hm0:=hp.pos
 have:=zP0 m h hm0 lr hm (by simp) (fun x hx=>by simp at hx;rcases hx with rfl|rfl;exact hp;exact hq) (fun k hk=>by
  rcases (by simp at hk;omega:k=0∨k=1) with rfl|rfl
  ·exact QB.one hp.pos
  ·show QB (1*p) _
   rw [Rat.one_mul]
   exact hp)
 rw [show ([p,q]:List Rat).length=2 from rfl,zLl] at this
 exact this
theorem zEZ {F:Fence} {m:Nat} {P:Program} {w0:World} {ops:Array Oper} {G:Nat→SF} {d:Tmp} {ty:TypeId} {pos:String} {aft:Array Edge} {t:TypeId} {x y:Operand} {t':TypeId} (k:IntKind) (u v r:Int) (hx: ∀q W,(fct G x).p q W→q= .int k u) (hy: ∀q W,(fct G y).p q W→q= .int k v) (hr:k.wrap (u - v)=r) (hd: ∀W,(G d).p (.int k r) W:=by exact fun _=>rfl):qK F m P w0 ops G ⟨some d, .binOp .sub t x y t',ty,pos,aft,none⟩:=
 zCn (.int k u) (.int k v) (.int k r) hx hy (fun W=>by simp [eqGuard]) (fun W=>by simp [binOp,Op.intArith,hr]) hd
theorem zFU {W:World} {m:Nat} {u v:Value} {p q:Rat} (h:RVp m p u W) (h':RVp m q v W) (hm:m≤990) (hm0:0<m):Calls Tryz.prog 103 #[u,v] W (Ret W (fQN (p - q)).toSF):=by
 have hp:QB p m:=h.qb hm0
 have hq:QB q m:=h'.qb hm0
 refine z7 [(fRV m p).toSF,(fRV m q).toSF] Tryz.func103 rfl (by kernel_rfl) ⟨h,h',trivial⟩ fun a s=> ?_
 refine wpIn_seq ?_
 refine zB 0 [] hmix s (by kernel_rfl)
  zE fun a w1 s=> ?_
 refine yJ (CU.agg (fRV m p)) rfl s (by kernel_rfl) (fun v W h=>jT h) fun b2 a w s=> ?_
 refine yJ (CU.agg (fRV m q)) rfl s (by kernel_rfl) (fun v W h=>jT h) fun b3 a w s=> ?_
 refine zY (CU.len 3) (cs:=zR3) (by kernel_rfl) rfl s (by kernel_rfl) (fun W=>rfl) rfl fun b4 a w s=> ?_
 refine zA rfl ?_
 refine wpIn_seq ?_
 refine yL [] 5 ((5, .s ((fRV m p).toSF))::(6, .s ((fRV m q).toSF))::(7, .s ((fQN (-q)).toSF))::(8, .s (SF.row 3 (rvs m [p,(-q)])))::(9, .u (fQN (p+ -q))):: []) hmix s (by kernel_rfl)
  (oc (zK (f:=fRV m p) 3 (by kernel_rfl) (hz:=qD _ _))<|oc (zK (f:=fRV m q) 3 (by kernel_rfl) (hz:=qD _ _))<|oc (zI zD zSp (fun u0 W hb (h0:RVp m q u0 W)=>zPZ h0 (by omega) hm0))<|oc (yE (fun u v W (hu:RVp m p u W) (hv:QNp (-q) v W)=>zBI hu (QNp.rv hv hq.neg)))<|oc (zI zD zMk (fun u0 W hb (h0:(SF.row 3 (rvs m [p,(-q)])).p u0 W)=>zDc h0 hp hq.neg (by omega)))<|zE) fun Q' hQ a w2 s=> ?_
 refine zV (CU.agg (fQN (p+ -q))) ((fQN (p+ -q)).toSF) rfl s (by kernel_rfl) rfl rfl rfl iiz iiz yK fun a w s=> ?_
 refine zA rfl (hQ _ _ ?_)
 refine wpIn_ret ?_
 exact StS.resC s (CU.agg (fQN (p+ -q))) rfl (by kernel_rfl) rfl rfl (qX _) (fun cs W h=>by rw [Rat.sub_eq_add_neg];exact h)
theorem zP1 {W:World} {m:Nat} {u v:Value} {p q:Rat} (h:RVp m p u W) (h':RVp m q v W) (hm:m≤490) (hm0:0<m):Calls Tryz.prog 49 #[u,v] W (Ret W (fQN ((p+q) / 2)).toSF):=by
 have hp:QB p m:=h.qb hm0
 have hq:QB q m:=h'.qb hm0
 have hq2:QB ((2:Int):Rat) (m+m+1):=QB.mono (m:=1) ⟨by unfold Bd BB;decide+kernel,by unfold BB;decide+kernel⟩ (by omega)
 refine z7 [(fRV m p).toSF,(fRV m q).toSF] Tryz.func49 rfl (by kernel_rfl) ⟨h,h',trivial⟩ fun a s=> ?_
 refine wpIn_seq ?_
 refine zB 0 [] hmix s (by kernel_rfl)
  zE fun a w1 s=> ?_
 refine yJ (CU.agg (fRV m p)) rfl s (by kernel_rfl) (fun v W h=>jT h) fun b2 a w s=> ?_
 refine yJ (CU.agg (fRV m q)) rfl s (by kernel_rfl) (fun v W h=>jT h) fun b3 a w s=> ?_
 refine zY (CU.len 3) (cs:=zR3) (by kernel_rfl) rfl s (by kernel_rfl) (fun W=>rfl) rfl fun b4 a w s=> ?_
 refine zA rfl ?_
 refine wpIn_seq ?_
 refine zB 9 ((8, .s ((fRV m p).toSF))::(9, .s ((fRV m q).toSF))::(10, .s (SF.row 3 (rvs m [p,q])))::(11, .s ((fQN (p+q)).toSF))::(12, .s ((fQN ((2:Int):Rat)).toSF))::(13, .s ((zAQ (fQN ((p+q) / ((2:Int):Rat))) (UF.any)).toSF))::(7, .s ((zAQ (fQN ((p+q) / ((2:Int):Rat))) (UF.any)).toSF))::(14, .u (fQN ((p+q) / ((2:Int):Rat)))):: []) hmix s (by kernel_rfl)
  (oc (zK (f:=fRV m p) 3 (by kernel_rfl) (hz:=qD _ _))<|oc (zK (f:=fRV m q) 3 (by kernel_rfl) (hz:=qD _ _))<|oc (yE (fun u v W (hu:RVp m p u W) (hv:RVp m q v W)=>zBI hu hv))<|oc (zI zD zMk (fun u0 W hb (h0:(SF.row 3 (rvs m [p,q])).p u0 W)=>zDc h0 hp hq (by omega)))<|oc (zI zD zGm (fun u0 W hb (h0:u0= .int .i64 2)=>zDb 2 h0 (by decide)))<|oc (zH zD zR8 (fun u0 u1 W hb (h0:QNp (p+q) u0 W) (h1:QNp ((2:Int):Rat) u1 W)=>(zK6 (QNp.rv h0 (hp.add hq)) (QNp.rv h1 hq2) (by omega) (by omega)).mono (fun e w' ⟨v,e1,⟨x,y,e2,h2,_⟩,hb⟩=>⟨v,e1,⟨x,y,e2,h2,trivial⟩,hb⟩)))<|oc zC<|oc (zAY (A:=(fQN ((p+q) / ((2:Int):Rat))).toSF) (B:=(UF.any).toSF) iiz)<|oc (zAX (A:=(fQN ((p+q) / ((2:Int):Rat))).toSF) (B:=(UF.any).toSF) iiz)<|zE) fun a w2 s=> ?_
 refine zY (CU.len 3) (cs:=zR3) (by kernel_rfl) rfl s (by kernel_rfl) (fun W=>rfl) rfl fun b5 a w s=> ?_
 refine zV (CU.agg (fQN ((p+q) / ((2:Int):Rat)))) ((fQN ((p+q) / ((2:Int):Rat))).toSF) rfl s (by kernel_rfl) rfl rfl rfl iiz iiz yK fun a w s=> ?_
 refine yU UF.any rfl s (by kernel_rfl) (fun _ _ _=>trivial) fun a w s=> ?_
 refine zA rfl ?_
 refine wpIn_seq ?_
 refine zB 1 ((16, .u (fQN ((p+q) / ((2:Int):Rat)))):: []) hmix s (by kernel_rfl)
  (oc (zK (f:=fQN ((p+q) / ((2:Int):Rat))) 3 (by kernel_rfl) (hz:=qX _))<|zE) fun a w3 s=> ?_
 refine zV (CU.agg (fQN ((p+q) / ((2:Int):Rat)))) ((fQN ((p+q) / ((2:Int):Rat))).toSF) rfl s (by kernel_rfl) rfl rfl rfl iiz iiz yK fun a w s=> ?_
 refine zA rfl ?_
 refine wpIn_ret ?_
 exact StS.resC s (CU.agg (fQN ((p+q) / ((2:Int):Rat)))) rfl (by kernel_rfl) rfl rfl (qX _) (fun cs W h=>h)
abbrev QX.q (x:QX):Rat:=mkRat x.k x.d
theorem zLg {n n':Nat} {k:Int} {d:Nat} {v:Value} {W:World} (h:(fQX n n' k d).p v W): ∃s A c A' c',v= .agg #[.bool s, .slice A n c, .slice A' n' c']:=by
 obtain ⟨b,s,t,rfl,⟨sg,A,c,l,e1,_⟩,A',c',l',rfl,_⟩:=h
 have:=congrArg Array.toList (jF e1)
 simp at this
 rw [this.1,this.2]
 exact ⟨_,_,_,_,_,rfl⟩
theorem zRs {n n':Nat} {k:Int} {d:Nat} {v:Value} {W:World} (h:(fQX n n' k d).p v W):(CU.agg (fQX n n' k d)).p v.cells.toList W∧v.cells.toList.all yG=true:=by
 obtain ⟨sg,A,c,A',c',rfl⟩:=zLg h
 exact ⟨h,rfl⟩
theorem zQY {n n' m:Nat} {k:Int} {d:Nat} {v:Value} {W:World} (h:QXp n n' k d v W) (h1:n≤m) (h2:n'≤m):RVp m (mkRat k d) v W:=⟨k,d,zTh h h1 h2,rfl⟩
theorem QXp.qb {x:QX} {v:Value} {W:World} (h:QXp x.n x.n' x.k x.d v W) (hg:x.n≤40∧x.n'≤40):QB x.q 40:=(zQY h hg.1 hg.2).qb (by omega)
theorem zNU {W:World} {b o:Nat} {cs ds:List Value} (k:Nat) (h:Mem W b o cs) (hd: ∀j u,ds[j]?=some u→cs[k+j]?=some u):Mem W b (o+k) ds:=fun j u hj=>by
 have:=h (k+j) u (hd j u hj)
 rwa [←Nat.add_assoc] at this
theorem zPH (s0:Bool) (A0 D0:Option Addr) (n0 c0 i0 j0:Nat):yH Tryz.prog 110 1 [(0, .agg #[.bool s0, .slice A0 n0 c0, .slice D0 i0 j0])]=some (28,#[.bool s0, .slice A0 n0 c0, .slice D0 i0 j0]):=by kernel_rfl
theorem zRb {u:Value} {W:World} {a:QX} (h0:(fQX a.n a.n' a.k a.d).p u W): ∃e cs,yH Tryz.prog 110 1 [(0,u)]=some (e,cs)∧(SF.row 3 ([a].map QX.cu)).p (.slice (some ⟨W.heap.size,0,none⟩) 1 1) (W.alloc (.cells cs e)):=by
 obtain ⟨s0,A0,c0,D0,j0,rfl⟩:=zLg h0
 refine ⟨_,_,zPH s0 A0 D0 a.n c0 a.n' j0,some ⟨W.heap.size,0,none⟩,1,rfl,Nat.le_refl _,by decide,fun e=>(by cases e),fun x C hx=> ?_⟩
 have hb:=zCx W (.cells #[.bool s0, .slice A0 a.n c0, .slice D0 a.n' j0] 28)
 have hm:=zBF W #[.bool s0, .slice A0 a.n c0, .slice D0 a.n' j0] 28
 rcases (by have:=(List.getElem?_eq_some_iff.1 hx).1;simp at this;omega:x=0) with rfl
 ·obtain rfl:QX.cu a=C:=by simpa using hx
  exact ⟨W.heap.size,0, [.bool s0, .slice A0 a.n c0, .slice D0 a.n' j0],rfl,zNU 0 hm (fun j u hj=>by match j with|0=>exact hj|1=>exact hj|2=>exact hj|j+3=>simp at hj),(fQX a.n a.n' a.k a.d).toSF.st _ _ _ h0 hb⟩
end Go.Proofs.Wd

namespace Go.Proofs.Wd
set_option maxRecDepth 100000
set_option maxHeartbeats 1000000
open Go.RowKit Lb
theorem zDa {W:World} {u v:Value} {x y:Int} (hu:u= .int .i64 x) (hv:v= .int .i64 y) (hx: -9223372036854775808≤x∧x≤9223372036854775807) (hy: -9223372036854775808≤y∧y≤9223372036854775807):Calls Tryz.prog 18 #[u,v] W (Ret W (fPN (((x:Int):Rat),((y:Int):Rat))).toSF):=by
 refine z7 [(UF.eq (.int .i64 x)).toSF,(UF.eq (.int .i64 y)).toSF] Tryz.func18 rfl (by kernel_rfl) ⟨hu,hv,trivial⟩ fun a s=> ?_
 refine wpIn_seq ?_
 refine zB 0 [] hmix s (by kernel_rfl)
  zE fun a w1 s=> ?_
 refine zY (CU.len 6) (cs:=zP6) (by kernel_rfl) rfl s (by kernel_rfl) (fun W=>rfl) rfl fun b4 a w s=> ?_
 refine zA rfl ?_
 refine wpIn_seq ?_
 refine zB 5 ((5, .s ((UF.eq (.int .i64 x)).toSF))::(6, .s ((fQN ((x:Int):Rat)).toSF))::(7, .s ((UF.eq (.int .i64 y)).toSF))::(8, .s ((fQN ((y:Int):Rat)).toSF))::(9, .u (fPN (((x:Int):Rat),((y:Int):Rat)))):: []) hmix s (by kernel_rfl)
  (oc zC<|oc (zI zD zGm (fun u0 W hb (h0:u0= .int .i64 x)=>zDb x h0 hx))<|oc zC<|oc (zI zD zGm (fun u0 W hb (h0:u0= .int .i64 y)=>zDb y h0 hy))<|oc (qM (fun u v W (hu:QNp ((x:Int):Rat) u W) (hv:QNp ((y:Int):Rat) v W)=>zQS (zAJ _) (zAJ _) hu hv))<|zE) fun a w2 s=> ?_
 refine zV (CU.agg (fPN (((x:Int):Rat),((y:Int):Rat)))) ((fPN (((x:Int):Rat),((y:Int):Rat))).toSF) rfl s (by kernel_rfl) rfl rfl rfl iiz iiz yR fun a w s=> ?_
 refine zA rfl ?_
 refine wpIn_ret ?_
 exact StS.resC s (CU.agg (fPN (((x:Int):Rat),((y:Int):Rat)))) rfl (by kernel_rfl) rfl rfl (zP _ _) (fun cs W h=>h)
theorem zHN {m:Nat} {W:World} {u v:Value} {p q:V2} (h1:(fPV m p).p u W) (h2:(fPV m q).p v W) (hp:QB p.1 m∧QB p.2 m) (hq:QB q.1 m∧QB q.2 m) (hm:m≤990):Calls Tryz.prog 19 #[u,v] W (Ret W (fPN (p.1+q.1,p.2+q.2)).toSF):=by
 refine z7 [(fPV m p).toSF,(fPV m q).toSF] Tryz.func19 rfl (by kernel_rfl) ⟨h1,h2,trivial⟩ fun a s=> ?_
 refine wpIn_seq ?_
 refine zB 0 [] hmix s (by kernel_rfl)
  zE fun a w1 s=> ?_
 refine yJ (CU.agg (fPV m p)) rfl s (by kernel_rfl) (fun v W h=>yP h) fun b2 a w s=> ?_
 refine yJ (CU.agg (fPV m q)) rfl s (by kernel_rfl) (fun v W h=>yP h) fun b3 a w s=> ?_
 refine zY (CU.len 6) (cs:=zP6) (by kernel_rfl) rfl s (by kernel_rfl) (fun W=>rfl) rfl fun b4 a w s=> ?_
 refine zA rfl ?_
 refine wpIn_seq ?_
 refine yL [] 13 ((5, .s (SF.ptr ((CU.agg (fPV m p)).cf.at 0)))::(6, .s ((fRV m ((p).1)).toSF))::(7, .s (SF.ptr ((CU.agg (fPV m q)).cf.at 0)))::(8, .s ((fRV m ((q).1)).toSF))::(9, .s (SF.row 3 (rvs m [(p).1,(q).1])))::(10, .s ((fQN ((p).1+(q).1)).toSF))::(11, .s (SF.ptr ((CU.agg (fPV m p)).cf.at 3)))::(12, .s ((fRV m ((p).2)).toSF))::(13, .s (SF.ptr ((CU.agg (fPV m q)).cf.at 3)))::(14, .s ((fRV m ((q).2)).toSF))::(15, .s (SF.row 3 (rvs m [(p).2,(q).2])))::(16, .s ((fQN ((p).2+(q).2)).toSF))::(17, .u (fPN (p.1+q.1,p.2+q.2))):: []) hmix s (by kernel_rfl)
  (oc (zN (C:=(CU.agg (fPV m p)).cf) 0 (by kernel_rfl))<|oc (zX (C:=(CU.agg (fPV m p)).cf) (k:=0) 3 (by kernel_rfl) (h:=zFj))<|oc (zN (C:=(CU.agg (fPV m q)).cf) 0 (by kernel_rfl))<|oc (zX (C:=(CU.agg (fPV m q)).cf) (k:=0) 3 (by kernel_rfl) (h:=zFj))<|oc (yE (fun u v W (hu:RVp m ((p).1) u W) (hv:RVp m ((q).1) v W)=>zBI hu hv))<|oc (zI zD zMk (fun u0 W hb (h0:(SF.row 3 (rvs m [(p).1,(q).1])).p u0 W)=>zDc h0 hp.1 hq.1 hm))<|oc (zN (C:=(CU.agg (fPV m p)).cf) 3 (by kernel_rfl))<|oc (zX (C:=(CU.agg (fPV m p)).cf) (k:=3) 3 (by kernel_rfl) (h:=zDM))<|oc (zN (C:=(CU.agg (fPV m q)).cf) 3 (by kernel_rfl))<|oc (zX (C:=(CU.agg (fPV m q)).cf) (k:=3) 3 (by kernel_rfl) (h:=zDM))<|oc (yE (fun u v W (hu:RVp m ((p).2) u W) (hv:RVp m ((q).2) v W)=>zBI hu hv))<|oc (zI zD zMk (fun u0 W hb (h0:(SF.row 3 (rvs m [(p).2,(q).2])).p u0 W)=>zDc h0 hp.2 hq.2 hm))<|oc (qM (fun u v W (hu:QNp ((p).1+(q).1) u W) (hv:QNp ((p).2+(q).2) v W)=>zQS (zAJ _) (zAJ _) hu hv))<|zE) fun Q' hQ a w2 s=> ?_
 refine zV (CU.agg (fPN (p.1+q.1,p.2+q.2))) ((fPN (p.1+q.1,p.2+q.2)).toSF) rfl s (by kernel_rfl) rfl rfl rfl iiz iiz yR fun a w s=> ?_
 refine zA rfl (hQ _ _ ?_)
 refine wpIn_ret ?_
 exact StS.resC s (CU.agg (fPN (p.1+q.1,p.2+q.2))) rfl (by kernel_rfl) rfl rfl (zP _ _) (fun cs W h=>h)
theorem zCf {m:Nat} {W:World} {u v:Value} {p q:V2} (h1:(fPV m p).p u W) (h2:(fPV m q).p v W) (hm:m≤990) (hm0:0<m):Calls Tryz.prog 58 #[u,v] W (Ret W (fPN (p.1 - q.1,p.2 - q.2)).toSF):=by
 refine z7 [(fPV m p).toSF,(fPV m q).toSF] Tryz.func58 rfl (by kernel_rfl) ⟨h1,h2,trivial⟩ fun a s=> ?_
 refine wpIn_seq ?_
 refine zB 0 [] hmix s (by kernel_rfl)
  zE fun a w1 s=> ?_
 refine yJ (CU.agg (fPV m p)) rfl s (by kernel_rfl) (fun v W h=>yP h) fun b2 a w s=> ?_
 refine yJ (CU.agg (fPV m q)) rfl s (by kernel_rfl) (fun v W h=>yP h) fun b3 a w s=> ?_
 refine zY (CU.len 6) (cs:=zP6) (by kernel_rfl) rfl s (by kernel_rfl) (fun W=>rfl) rfl fun b4 a w s=> ?_
 refine zA rfl ?_
 refine wpIn_seq ?_
 refine yL [] 11 ((5, .s (SF.ptr ((CU.agg (fPV m p)).cf.at 0)))::(6, .s ((fRV m ((p).1)).toSF))::(7, .s (SF.ptr ((CU.agg (fPV m q)).cf.at 0)))::(8, .s ((fRV m ((q).1)).toSF))::(9, .s ((fQN ((p).1 - (q).1)).toSF))::(10, .s (SF.ptr ((CU.agg (fPV m p)).cf.at 3)))::(11, .s ((fRV m ((p).2)).toSF))::(12, .s (SF.ptr ((CU.agg (fPV m q)).cf.at 3)))::(13, .s ((fRV m ((q).2)).toSF))::(14, .s ((fQN ((p).2 - (q).2)).toSF))::(15, .u (fPN (p.1 - q.1,p.2 - q.2))):: []) hmix s (by kernel_rfl)
  (oc (zN (C:=(CU.agg (fPV m p)).cf) 0 (by kernel_rfl))<|oc (zX (C:=(CU.agg (fPV m p)).cf) (k:=0) 3 (by kernel_rfl) (h:=zFj))<|oc (zN (C:=(CU.agg (fPV m q)).cf) 0 (by kernel_rfl))<|oc (zX (C:=(CU.agg (fPV m q)).cf) (k:=0) 3 (by kernel_rfl) (h:=zFj))<|oc (zH zD zJv (fun u0 u1 W hb (h0:RVp m ((p).1) u0 W) (h1:RVp m ((q).1) u1 W)=>zFU h0 h1 hm hm0))<|oc (zN (C:=(CU.agg (fPV m p)).cf) 3 (by kernel_rfl))<|oc (zX (C:=(CU.agg (fPV m p)).cf) (k:=3) 3 (by kernel_rfl) (h:=zDM))<|oc (zN (C:=(CU.agg (fPV m q)).cf) 3 (by kernel_rfl))<|oc (zX (C:=(CU.agg (fPV m q)).cf) (k:=3) 3 (by kernel_rfl) (h:=zDM))<|oc (zH zD zJv (fun u0 u1 W hb (h0:RVp m ((p).2) u0 W) (h1:RVp m ((q).2) u1 W)=>zFU h0 h1 hm hm0))<|oc (qM (fun u v W (hu:QNp ((p).1 - (q).1) u W) (hv:QNp ((p).2 - (q).2) v W)=>zQS (zAJ _) (zAJ _) hu hv))<|zE) fun Q' hQ a w2 s=> ?_
 refine zV (CU.agg (fPN (p.1 - q.1,p.2 - q.2))) ((fPN (p.1 - q.1,p.2 - q.2)).toSF) rfl s (by kernel_rfl) rfl rfl rfl iiz iiz yR fun a w s=> ?_
 refine zA rfl (hQ _ _ ?_)
 refine wpIn_ret ?_
 exact StS.resC s (CU.agg (fPN (p.1 - q.1,p.2 - q.2))) rfl (by kernel_rfl) rfl rfl (zP _ _) (fun cs W h=>h)
theorem zK3 {m:Nat} {W:World} {u v:Value} {p:V2} {t:Rat} (h1:(fPV m p).p u W) (h2:RVp m t v W) (hp:QB p.1 m∧QB p.2 m) (ht:QB t m) (hm:m≤990):Calls Tryz.prog 22 #[u,v] W (Ret W (fPN (p.1*t,p.2*t)).toSF):=by
 refine z7 [(fPV m p).toSF,(fRV m t).toSF] Tryz.func22 rfl (by kernel_rfl) ⟨h1,h2,trivial⟩ fun a s=> ?_
 refine wpIn_seq ?_
 refine zB 0 [] hmix s (by kernel_rfl)
  zE fun a w1 s=> ?_
 refine yJ (CU.agg (fPV m p)) rfl s (by kernel_rfl) (fun v W h=>yP h) fun b2 a w s=> ?_
 refine yJ (CU.agg (fRV m t)) rfl s (by kernel_rfl) (fun v W h=>jT h) fun b3 a w s=> ?_
 refine zY (CU.len 6) (cs:=zP6) (by kernel_rfl) rfl s (by kernel_rfl) (fun W=>rfl) rfl fun b4 a w s=> ?_
 refine zA rfl ?_
 refine wpIn_seq ?_
 refine yL [] 11 ((5, .s (SF.ptr ((CU.agg (fPV m p)).cf.at 0)))::(6, .s ((fRV m ((p).1)).toSF))::(7, .s ((fRV m t).toSF))::(8, .s (SF.row 3 (rvs m [(p).1,t])))::(9, .s ((fQN ((p).1*t)).toSF))::(10, .s (SF.ptr ((CU.agg (fPV m p)).cf.at 3)))::(11, .s ((fRV m ((p).2)).toSF))::(12, .s ((fRV m t).toSF))::(13, .s (SF.row 3 (rvs m [(p).2,t])))::(14, .s ((fQN ((p).2*t)).toSF))::(15, .u (fPN (p.1*t,p.2*t))):: []) hmix s (by kernel_rfl)
  (oc (zN (C:=(CU.agg (fPV m p)).cf) 0 (by kernel_rfl))<|oc (zX (C:=(CU.agg (fPV m p)).cf) (k:=0) 3 (by kernel_rfl) (h:=zFj))<|oc (zK (f:=fRV m t) 3 (by kernel_rfl) (hz:=qD _ _))<|oc (yE (fun u v W (hu:RVp m ((p).1) u W) (hv:RVp m t v W)=>zBI hu hv))<|oc (zI zD zHi (fun u0 W hb (h0:(SF.row 3 (rvs m [(p).1,t])).p u0 W)=>zBz h0 hp.1 ht (by omega)))<|oc (zN (C:=(CU.agg (fPV m p)).cf) 3 (by kernel_rfl))<|oc (zX (C:=(CU.agg (fPV m p)).cf) (k:=3) 3 (by kernel_rfl) (h:=zDM))<|oc (zK (f:=fRV m t) 3 (by kernel_rfl) (hz:=qD _ _))<|oc (yE (fun u v W (hu:RVp m ((p).2) u W) (hv:RVp m t v W)=>zBI hu hv))<|oc (zI zD zHi (fun u0 W hb (h0:(SF.row 3 (rvs m [(p).2,t])).p u0 W)=>zBz h0 hp.2 ht (by omega)))<|oc (qM (fun u v W (hu:QNp ((p).1*t) u W) (hv:QNp ((p).2*t) v W)=>zQS (zAJ _) (zAJ _) hu hv))<|zE) fun Q' hQ a w2 s=> ?_
 refine zV (CU.agg (fPN (p.1*t,p.2*t))) ((fPN (p.1*t,p.2*t)).toSF) rfl s (by kernel_rfl) rfl rfl rfl iiz iiz yR fun a w s=> ?_
 refine zA rfl (hQ _ _ ?_)
 refine wpIn_ret ?_
 exact StS.resC s (CU.agg (fPN (p.1*t,p.2*t))) rfl (by kernel_rfl) rfl rfl (zP _ _) (fun cs W h=>h)
theorem zGP {m:Nat} {W:World} {u v:Value} {p q:V2} (h1:(fPV m p).p u W) (h2:(fPV m q).p v W) (hp:QB p.1 m∧QB p.2 m) (hq:QB q.1 m∧QB q.2 m) (hm:m≤495) (hm0:0<m):Calls Tryz.prog 60 #[u,v] W (Ret W (fQN (p.1*q.2 - p.2*q.1)).toSF):=by
 refine z7 [(fPV m p).toSF,(fPV m q).toSF] Tryz.func60 rfl (by kernel_rfl) ⟨h1,h2,trivial⟩ fun a s=> ?_
 refine wpIn_seq ?_
 refine zB 0 [] hmix s (by kernel_rfl)
  zE fun a w1 s=> ?_
 refine yJ (CU.agg (fPV m p)) rfl s (by kernel_rfl) (fun v W h=>yP h) fun b2 a w s=> ?_
 refine yJ (CU.agg (fPV m q)) rfl s (by kernel_rfl) (fun v W h=>yP h) fun b3 a w s=> ?_
 refine zY (CU.len 3) (cs:=zR3) (by kernel_rfl) rfl s (by kernel_rfl) (fun W=>rfl) rfl fun b4 a w s=> ?_
 refine zA rfl ?_
 refine wpIn_seq ?_
 refine yL [] 13 ((5, .s (SF.ptr ((CU.agg (fPV m p)).cf.at 0)))::(6, .s ((fRV m ((p).1)).toSF))::(7, .s (SF.ptr ((CU.agg (fPV m q)).cf.at 3)))::(8, .s ((fRV m ((q).2)).toSF))::(9, .s (SF.row 3 (rvs m [(p).1,(q).2])))::(10, .s ((fQN ((p).1*(q).2)).toSF))::(11, .s (SF.ptr ((CU.agg (fPV m p)).cf.at 3)))::(12, .s ((fRV m ((p).2)).toSF))::(13, .s (SF.ptr ((CU.agg (fPV m q)).cf.at 0)))::(14, .s ((fRV m ((q).1)).toSF))::(15, .s (SF.row 3 (rvs m [(p).2,(q).1])))::(16, .s ((fQN ((p).2*(q).1)).toSF))::(17, .u (fQN (((p).1*(q).2) - ((p).2*(q).1)))):: []) hmix s (by kernel_rfl)
  (oc (zN (C:=(CU.agg (fPV m p)).cf) 0 (by kernel_rfl))<|oc (zX (C:=(CU.agg (fPV m p)).cf) (k:=0) 3 (by kernel_rfl) (h:=zFj))<|oc (zN (C:=(CU.agg (fPV m q)).cf) 3 (by kernel_rfl))<|oc (zX (C:=(CU.agg (fPV m q)).cf) (k:=3) 3 (by kernel_rfl) (h:=zDM))<|oc (yE (fun u v W (hu:RVp m ((p).1) u W) (hv:RVp m ((q).2) v W)=>zBI hu hv))<|oc (zI zD zHi (fun u0 W hb (h0:(SF.row 3 (rvs m [(p).1,(q).2])).p u0 W)=>zBz h0 hp.1 hq.2 (by omega)))<|oc (zN (C:=(CU.agg (fPV m p)).cf) 3 (by kernel_rfl))<|oc (zX (C:=(CU.agg (fPV m p)).cf) (k:=3) 3 (by kernel_rfl) (h:=zDM))<|oc (zN (C:=(CU.agg (fPV m q)).cf) 0 (by kernel_rfl))<|oc (zX (C:=(CU.agg (fPV m q)).cf) (k:=0) 3 (by kernel_rfl) (h:=zFj))<|oc (yE (fun u v W (hu:RVp m ((p).2) u W) (hv:RVp m ((q).1) v W)=>zBI hu hv))<|oc (zI zD zHi (fun u0 W hb (h0:(SF.row 3 (rvs m [(p).2,(q).1])).p u0 W)=>zBz h0 hp.2 hq.1 (by omega)))<|oc (zH zD zJv (fun u0 u1 W hb (h0:QNp ((p).1*(q).2) u0 W) (h1:QNp ((p).2*(q).1) u1 W)=>zFU (QNp.rv h0 (hp.1.mul hq.2)) (QNp.rv h1 (hp.2.mul hq.1)) (by omega) (by omega)))<|zE) fun Q' hQ a w2 s=> ?_
 refine zV (CU.agg (fQN (((p).1*(q).2) - ((p).2*(q).1)))) ((fQN (((p).1*(q).2) - ((p).2*(q).1))).toSF) rfl s (by kernel_rfl) rfl rfl rfl iiz iiz yK fun a w s=> ?_
 refine zA rfl (hQ _ _ ?_)
 refine wpIn_ret ?_
 exact StS.resC s (CU.agg (fQN (p.1*q.2 - p.2*q.1))) rfl (by kernel_rfl) rfl rfl (qX _) (fun cs W h=>h)
theorem zOK {m k:Nat} (M:Nat) {W:World} {u v x:Value} {p q:V2} {t:Rat} (h1:(fPV m p).p u W) (h2:(fPV m q).p v W) (h3:RVp k t x W) (hp:QB p.1 m∧QB p.2 m) (hq:QB q.1 m∧QB q.2 m) (ht:QB t k) (hm0:0<m) (hM:m+m+1+k≤M) (hM2:M≤990):Calls Tryz.prog 44 #[u,v,x] W (Ret W (fPN (seg p q t)).toSF):=by
 refine z7 [(fPV m p).toSF,(fPV m q).toSF,(fRV k t).toSF] Tryz.func44 rfl (by kernel_rfl) ⟨h1,h2,h3,trivial⟩ fun a s=> ?_
 refine wpIn_seq ?_
 refine zB 0 [] hmix s (by kernel_rfl)
  zE fun a w1 s=> ?_
 refine yJ (CU.agg (fPV m p)) rfl s (by kernel_rfl) (fun v W h=>yP h) fun b3 a w s=> ?_
 refine yJ (CU.agg (fPV m q)) rfl s (by kernel_rfl) (fun v W h=>yP h) fun b4 a w s=> ?_
 refine yJ (CU.agg (fRV k t)) rfl s (by kernel_rfl) (fun v W h=>jT h) fun b5 a w s=> ?_
 refine zY (CU.len 6) (cs:=zP6) (by kernel_rfl) rfl s (by kernel_rfl) (fun W=>rfl) rfl fun b6 a w s=> ?_
 refine zA rfl ?_
 refine wpIn_seq ?_
 refine yL [] 7 ((7, .s ((fPV m p).toSF))::(8, .s ((fPV m q).toSF))::(9, .s ((fPV m p).toSF))::(10, .s ((fPN ((q).1 - (p).1,(q).2 - (p).2)).toSF))::(11, .s ((fRV k t).toSF))::(12, .s ((fPN (((q).1 - (p).1)*t,((q).2 - (p).2)*t)).toSF))::(13, .u (fPN (seg p q t))):: []) hmix s (by kernel_rfl)
  (oc (zK (f:=fPV m p) 6 (by kernel_rfl) (hz:=zP _ _))<|oc (zK (f:=fPV m q) 6 (by kernel_rfl) (hz:=zP _ _))<|oc (zK (f:=fPV m p) 6 (by kernel_rfl) (hz:=zP _ _))<|oc (zH zD zHj (fun u0 u1 W hb (h0:(fPV m q).p u0 W) (h1:(fPV m p).p u1 W)=>zCf (p:=q) (q:=p) h0 h1 (by omega) hm0))<|oc (zK (f:=fRV k t) 3 (by kernel_rfl) (hz:=qD _ _))<|oc (zH zD zTH (fun u0 u1 W hb (h0:(fPN ((q).1 - (p).1,(q).2 - (p).2)).p u0 W) (h1:RVp k t u1 W)=>zK3 (p:=((q).1 - (p).1,(q).2 - (p).2)) (zBe (p:=((q).1 - (p).1,(q).2 - (p).2)) (m:=M) ((show QB _ _∧QB _ _ from ⟨hq.1.sub hp.1,hq.2.sub hp.2⟩).1.mono (by first|omega|decide)) ((show QB _ _∧QB _ _ from ⟨hq.1.sub hp.1,hq.2.sub hp.2⟩).2.mono (by first|omega|decide)) h0) (RVp.mono h1 (by omega)) ⟨(show QB _ _∧QB _ _ from ⟨hq.1.sub hp.1,hq.2.sub hp.2⟩).1.mono (by omega),(show QB _ _∧QB _ _ from ⟨hq.1.sub hp.1,hq.2.sub hp.2⟩).2.mono (by omega)⟩ (ht.mono (by omega)) (by omega)))<|oc (zH zD zQN (fun u0 u1 W hb (h0:(fPV m p).p u0 W) (h1:(fPN (((q).1 - (p).1)*t,((q).2 - (p).2)*t)).p u1 W)=>zHN (p:=p) (q:=(((q).1 - (p).1)*t,((q).2 - (p).2)*t)) (zCi (m':=M) (by omega) h0) (zBe (p:=(((q).1 - (p).1)*t,((q).2 - (p).2)*t)) (m:=M) ((show QB _ _∧QB _ _ from ⟨(hq.1.sub hp.1).mul ht,(hq.2.sub hp.2).mul ht⟩).1.mono (by first|omega|decide)) ((show QB _ _∧QB _ _ from ⟨(hq.1.sub hp.1).mul ht,(hq.2.sub hp.2).mul ht⟩).2.mono (by first|omega|decide)) h1) ⟨hp.1.mono (by omega),hp.2.mono (by omega)⟩ ⟨(show QB _ _∧QB _ _ from ⟨(hq.1.sub hp.1).mul ht,(hq.2.sub hp.2).mul ht⟩).1.mono (by omega),(show QB _ _∧QB _ _ from ⟨(hq.1.sub hp.1).mul ht,(hq.2.sub hp.2).mul ht⟩).2.mono (by omega)⟩ (by omega)))<|zE) fun Q' hQ a w2 s=> ?_
 refine zV (CU.agg (fPN (seg p q t))) ((fPN (seg p q t)).toSF) rfl s (by kernel_rfl) rfl rfl rfl iiz iiz yR fun a w s=> ?_
 refine zA rfl (hQ _ _ ?_)
 refine wpIn_ret ?_
 exact StS.resC s (CU.agg (fPN (seg p q t))) rfl (by kernel_rfl) rfl rfl (zP _ _) (fun cs W h=>h)
end Go.Proofs.Wd

namespace Go.Proofs.Wd
set_option maxRecDepth 100000
set_option maxHeartbeats 1000000
open Go.RowKit Lb
theorem zUb (s:Bool) (A A':Option Addr) (n n' c c':Nat) (s2:Bool) (B B':Option Addr) (k k' d d':Nat):yH Tryz.prog 22 1 [(0, .agg #[.bool s, .slice A n c, .slice A' n' c', .bool s2, .slice B k d, .slice B' k' d'])]=some (30,#[.bool s, .slice A n c, .slice A' n' c', .bool s2, .slice B k d, .slice B' k' d']):=by kernel_rfl
theorem zGI {f g:UF} {u:Value} {W:World} (h:(fPT f g).p u W): ∃e cs,yH Tryz.prog 22 1 [(0,u)]=some (e,cs)∧(SF.row 6 [CU.agg (fPT f g)]).p (.slice (some ⟨W.heap.size,0,none⟩) 1 1) (W.alloc (.cells cs e)):=by
 obtain ⟨s,A,n,c,A',n',c',s2,B,k,d,B',k',d',rfl,h1,h2⟩:=h
 refine ⟨_,_,zUb s A A' n n' c c' s2 B B' k k' d d',some ⟨W.heap.size,0,none⟩,1,rfl,Nat.le_refl _,by decide,fun e=>(by cases e),fun i C hi=> ?_⟩
 have hb:=zCx W (.cells #[.bool s, .slice A n c, .slice A' n' c', .bool s2, .slice B k d, .slice B' k' d'] 30)
 have hm:=zBF W #[.bool s, .slice A n c, .slice A' n' c', .bool s2, .slice B k d, .slice B' k' d'] 30
 obtain rfl:i=0:=by have:=(List.getElem?_eq_some_iff.1 hi).1;simp at this;omega
 obtain rfl:CU.agg (fPT f g)=C:=by simpa using hi
 refine ⟨W.heap.size,0, [.bool s, .slice A n c, .slice A' n' c', .bool s2, .slice B k d, .slice B' k' d'],rfl, ?_,(CU.agg (fPT f g)).us _ _ _ ⟨s,A,n,c,A',n',c',s2,B,k,d,B',k',d',rfl,h1,h2⟩ (zU hb)⟩
 rw [show 0+0*6=0 from rfl]
 exact hm
theorem zLE (f g:UF): ∀C,C∈ [CU.agg (fPT f g)]→CU.ok 6 C:=fun C hC=>by
 obtain rfl:C=CU.agg (fPT f g):=by simpa using hC
 exact zDf f g
theorem zIY {ps:List V2} {k:Nat} (h:k<ps.length):pns (ps.take (k+1))=pns (ps.take k)++ [CU.agg (fPN (at_ ps k))]:=by
 unfold pns at_
 rw [List.take_add_one,List.map_append,List.getD_eq_getElem?_getD,List.getElem?_eq_getElem h]
 rfl
theorem zNp {m:Nat} {W:World} {l:Value} {ps:List V2} (hl:(SF.row 6 (pvs m ps)).p l W) (hm:m≤2000) (hps:ps.length≤1000000):Calls Tryz.prog 196 #[l] W (Ret W (SF.newRow W 30 6 (pns ps))):=by
 refine z7 [(UF.eq l).toSF] Tryz.func196 rfl (by kernel_rfl) ⟨rfl,trivial⟩ fun a s=> ?_
 replace s:=s.renew [(0, .u (UF.eq l))] (fmz ⟨.inr ⟨_,rfl, .head _⟩,fnz⟩)
 refine wpIn_seq ?_
 refine zB 1 ((2, .u (UF.eq (.slice none 0 0))):: []) hmix s (by kernel_rfl)
  (oc zG<|zE) fun a w1 s=> ?_
 refine zA rfl ?_
 refine wpIn_seq ?_
 refine zB 1 ((3, .u (UF.eq (.slice none 0 0))):: []) hmix s (by kernel_rfl)
  (oc zG<|zE) fun a w2 s=> ?_
 refine zA rfl ?_
 refine wpIn_seq ?_
 refine wpIn_seq ?_
 refine zB 1 ((4, .u (UF.eq (.int .i64 0))):: []) hmix s (by kernel_rfl)
  (oc zG<|zE) fun a w3 s=> ?_
 refine zA rfl ?_
 refine wpIn_block ?_
 refine zFL (fun (p:Nat×Value) w=>p.1≤ps.length∧W.heap.size≤w.heap.size∧zB6 w W.heap.size 30 6 p.2 (pns (ps.take p.1))) (fun p=> [(0, .u (UF.eq l)),(3, .u (UF.eq (p.2))),(4, .u (UF.eq (.int .i64 ((p.1:Nat):Int))))]) (fun p=>ps.length - p.1) (0, .slice none 0 0) (⟨Nat.zero_le _,s.gr.size,zB6.nil _ _ _ _⟩) (s.keepK _ (fmz ⟨mz3,fmz ⟨mz1,fmz ⟨.head _,fnz⟩⟩⟩)) fun p a w hI s=> ?_
 have s0:=s
 replace s:=s.reb rfl [(0, .o (SF.row 6 (pvs m ps))),(0, .u (UF.eq l)),(3, .u (UF.eq (p.2))),(4, .u (UF.eq (.int .i64 ((p.1:Nat):Int))))] (fmz ⟨.inr ⟨_,rfl,(SF.row 6 (pvs m ps)).st _ _ _ (by rw [show a.tmps.getD (0,KF.o (SF.row 6 (pvs m ps))).1 undef=l from s.val (.head _)];exact hl) s.below⟩,fmz ⟨.inl (.head _),fmz ⟨.inl mz1,fmz ⟨.inl mz2,fnz⟩⟩⟩⟩)
 refine wpIn_seq ?_
 refine wpIn_seq ?_
 refine zB 4 ((5, .s ((UF.eq (.int .i64 ((p.1:Nat):Int))).toSF))::(6, .s (SF.row 6 (pvs m ps)))::(7, .s ((UF.eq (.int .i64 (((pvs m ps).length:Nat):Int))).toSF))::(8, .u (UF.eq (.bool (decide (((p.1:Nat):Int)<(((pvs m ps).length:Nat):Int)))))):: []) hmix s (by kernel_rfl)
  (oc zC<|oc zC<|oc (zCm (z:=6) (Cs:=pvs m ps) (by kernel_rfl) iiz (fun _=>rfl))<|oc (zQ .i64 ((p.1:Nat):Int) (((pvs m ps).length:Nat):Int) (decide (((p.1:Nat):Int)<(((pvs m ps).length:Nat):Int))) iiz iiz rfl rfl)<|zE) fun a w4 s=> ?_
 refine zA rfl ?_
 refine StS.cond s (decide (((p.1:Nat):Int)<(((pvs m ps).length:Nat):Int))) iiz (fun e=> ?_) (fun e=> ?_)
 ·have hk:p.1<ps.length:=by have:=of_decide_eq_true e;simp at this;omega
  refine wpIn_skip ?_
  refine wpIn_seq ?_
  refine wpIn_block ?_
  refine zD4 (K:= [(8, .u (UF.eq (.bool (decide (((p.1:Nat):Int)<(((pvs m ps).length:Nat):Int)))))),(0, .o (SF.row 6 (pvs m ps))),(0, .u (UF.eq l)),(4, .u (UF.eq (.int .i64 ((p.1:Nat):Int))))]) [(3, .u (UF.eq (p.2)))] [0,1,2,7,8] 15 ((11, .u (UF.eq (p.2)))::(12, .s (SF.row 6 (pvs m ps)))::(13, .s ((UF.eq (.int .i64 ((p.1:Nat):Int))).toSF))::(14, .s (SF.ptr (CU.agg (fPV m (at_ ps p.1))).cf))::(15, .s (SF.ptr ((CU.agg (fPV m (at_ ps p.1))).cf.at 0)))::(16, .s ((fRV m ((at_ ps p.1).1)).toSF))::(17, .s ((fQN ((at_ ps p.1).1)).toSF))::(18, .s (SF.row 6 (pvs m ps)))::(19, .s ((UF.eq (.int .i64 ((p.1:Nat):Int))).toSF))::(20, .s (SF.ptr (CU.agg (fPV m (at_ ps p.1))).cf))::(21, .s (SF.ptr ((CU.agg (fPV m (at_ ps p.1))).cf.at 3)))::(22, .s ((fRV m ((at_ ps p.1).2)).toSF))::(23, .s ((fQN ((at_ ps p.1).2)).toSF))::(24, .s ((fPN ((at_ ps p.1).1,(at_ ps p.1).2)).toSF))::(25, .s (SF.row 6 [CU.agg (fPN ((at_ ps p.1).1,(at_ ps p.1).2))])):: []) hmix (s.keepK _ (fmz ⟨mz3,fmz ⟨.head _,fmz ⟨mz1,fmz ⟨mz2,fmz ⟨mz4,fnz⟩⟩⟩⟩⟩)) (by kernel_rfl)
   (oc zC<|oc zC<|oc zC<|oc (zAK (z:=6) (Cs:=pvs m ps) (i:=p.1) (C:=CU.agg (fPV m (at_ ps p.1))) (by kernel_rfl) (jD hk) iiz iiz)<|oc (zN (C:=(CU.agg (fPV m (at_ ps p.1))).cf) 0 (by kernel_rfl))<|oc (zX (C:=(CU.agg (fPV m (at_ ps p.1))).cf) (k:=0) 3 (by kernel_rfl) (h:=zFj))<|oc (zI zD zGl (fun u0 W hb (h0:RVp m ((at_ ps p.1).1) u0 W)=>zBd h0 hm))<|oc zC<|oc zC<|oc (zAK (z:=6) (Cs:=pvs m ps) (i:=p.1) (C:=CU.agg (fPV m (at_ ps p.1))) (by kernel_rfl) (jD hk) iiz iiz)<|oc (zN (C:=(CU.agg (fPV m (at_ ps p.1))).cf) 3 (by kernel_rfl))<|oc (zX (C:=(CU.agg (fPV m (at_ ps p.1))).cf) (k:=3) 3 (by kernel_rfl) (h:=zDM))<|oc (zI zD zGl (fun u0 W hb (h0:RVp m ((at_ ps p.1).2) u0 W)=>zBd h0 hm))<|oc (qM (fun u v W (hu:QNp ((at_ ps p.1).1) u W) (hv:QNp ((at_ ps p.1).2) v W)=>zQS (zAJ _) (zAJ _) hu hv))<|oc (zA2 (fun u W (hu:(fPN ((at_ ps p.1).1,(at_ ps p.1).2)).p u W)=>zGI hu))<|zE) fun Q' hQ a w5 s hr=> ?_
  refine zPA ([CU.agg (fPN ((at_ ps p.1).1,(at_ ps p.1).2))]) s0 (s.keepK [(11, .u (UF.eq (p.2))),(8, .u (UF.eq (.bool (decide (((p.1:Nat):Int)<(((pvs m ps).length:Nat):Int)))))),(0, .u (UF.eq l)),(4, .u (UF.eq (.int .i64 ((p.1:Nat):Int))))] (fmz ⟨.head _,fmz ⟨mz1,fmz ⟨mz3,fmz ⟨mz4,fnz⟩⟩⟩⟩)) lr hI.2 rfl (by kernel_rfl) (by kernel_rfl) (by kernel_rfl) (s.fct (.tmp 11)) (hr (_,_) zUi) (zLE _ _) (by simp;omega) (fun q hq=>by cases hq) fun v' a w hI' s=> ?_
  have s1:=s
  replace s:=s.reb rfl [(26, .u (UF.eq v')),(11, .u (UF.eq (p.2))),(8, .u (UF.eq (.bool (decide (((p.1:Nat):Int)<(((pvs m ps).length:Nat):Int)))))),(0, .u (UF.eq l)),(4, .u (UF.eq (.int .i64 ((p.1:Nat):Int))))] (fmz ⟨.inl (.head _),fmz ⟨.inl mz1,fmz ⟨.inl mz2,fmz ⟨.inl mz3,fmz ⟨.inl mz4,fnz⟩⟩⟩⟩⟩)
  refine yU (UF.eq v') rfl s (by kernel_rfl) iiz fun a w s=> ?_
  refine zA rfl (hQ _ _ ?_)
  refine qC 2 ((9, .s ((UF.eq (.int .i64 ((p.1:Nat):Int))).toSF))::(10, .u (UF.eq (.int .i64 ((p.1+1:Nat):Int)))):: []) s (by kernel_rfl)
   (oc zC<|oc (y7 .i64 ((p.1:Nat):Int) 1 ((p.1+1:Nat):Int) iiz iiz (wrap64 _ _ (by omega) (by omega)))<|zE) fun a w6 s=> ?_
  replace s:=s.drop [4]
  refine yU (UF.eq (.int .i64 ((p.1+1:Nat):Int))) rfl s (by kernel_rfl) iiz fun a w s=> ?_
  refine zA rfl ?_
  have hbw:=s.below
  replace s:=s1.back (s.keepK [(4, .u (UF.eq (.int .i64 ((p.1+1:Nat):Int)))),(10, .u (UF.eq (.int .i64 ((p.1+1:Nat):Int)))),(3, .u (UF.eq v')),(26, .u (UF.eq v')),(11, .u (UF.eq (p.2))),(8, .u (UF.eq (.bool (decide (((p.1:Nat):Int)<(((pvs m ps).length:Nat):Int)))))),(0, .u (UF.eq l))] (fmz ⟨.head _,fmz ⟨mz1,fmz ⟨mz2,fmz ⟨mz3,fmz ⟨mz4,fmz ⟨mz5,fmz ⟨mz6,fnz⟩⟩⟩⟩⟩⟩⟩)) rfl
  exact ⟨(p.1+1,v'),(by show ps.length - (p.1+1)<ps.length - p.1;omega),⟨hk,Nat.le_trans hI'.1 hbw.size,by rw [zIY hk];exact hI'.2.below hbw⟩,s.keepK _ (fmz ⟨mz6,fmz ⟨mz2,fmz ⟨.head _,fnz⟩⟩⟩)⟩
 ·have hk:p.1=ps.length:=by have:=of_decide_eq_false e;simp at this;omega
  refine wpIn_exit ?_
  refine wpIn_seq ?_
  refine zB 2 ((27, .s ((UF.eq (p.2)).toSF))::(2, .u (UF.eq (p.2))):: []) hmix s (by kernel_rfl)
   (oc zC<|oc zG<|zE) fun a w7 s=> ?_
  refine zA rfl ?_
  refine wpIn_ret ?_
  exact StS.resN s s0.below rfl (by rw [s.val (.head _)];have:=hI.2.2.below s.below;rw [hk,List.take_length] at this;exact this)
end Go.Proofs.Wd

namespace Go.Proofs.Wd
set_option maxRecDepth 100000
set_option maxHeartbeats 1000000
open Go.RowKit Lb
def TB (m:Nat) (g:V2→Bool) (xs:Array Value) (W:World) (R:SF):Prop:= ∃u p,xs=#[u]∧(fPV m p).p u W∧R=(fB (g p)).toSF
def zKi {α:Type} (g:α→Bool) (l:List α):Int:=if l.any g then ((l.findIdx g:Nat):Int) else -1
theorem zN8 {α:Type} (g:α→Bool) (l:List α):decide (zKi g l≥0)=l.any g:=by
 unfold zKi
 cases h:l.any g with
 |true=>simp
 |false=>simp
theorem zQy {g:V2→Bool} {l:List V2} {k:Nat} (hk:k<l.length) (h0: ∀j,j<k→g (at_ l j)=false) (h1:g (at_ l k)=true):zKi g l=((k:Nat):Int):=by
 have ha:l.any g=true:=List.any_eq_true.2 ⟨_,zDB hk,h1⟩
 unfold zKi
 rw [if_pos ha]
 congr 1
 have ge: ∀j,at_ l j=l.getD j (0,0):=fun _=>rfl
 refine (List.findIdx_eq hk).2 ⟨by have:=h1;unfold at_ at this;rwa [List.getD_eq_getElem?_getD,List.getElem?_eq_getElem hk] at this,fun j hj=> ?_⟩
 have:=h0 j hj
 unfold at_ at this
 rwa [List.getD_eq_getElem?_getD,List.getElem?_eq_getElem (Nat.lt_trans hj hk)] at this
theorem zL9 {g:V2→Bool} {l:List V2} (h0: ∀j,j<l.length→g (at_ l j)=false):zKi g l= -1:=by
 unfold zKi
 rw [if_neg]
 intro ha
 obtain ⟨p,hp,e⟩:=List.any_eq_true.1 ha
 obtain ⟨j,hj,rfl⟩:=zLU hp
 rw [h0 j hj] at e
 cases e
theorem zTn {m:Nat} {g:V2→Bool} {W:World} {l f:Value} {ps:List V2} (hl:(SF.row 6 (pvs m ps)).p l W) (hf:(SF.fn Tryz.prog (TB m g)).p f W) (hn:ps.length≤1000000):Calls Tryz.prog 124 #[l,f] W (Ret W (fI (zKi g ps)).toSF):=by
 refine z7 [SF.row 6 (pvs m ps),SF.fn Tryz.prog (TB m g)] Tryz.func124 rfl (by kernel_rfl) ⟨hl,hf,trivial⟩ fun a s=> ?_
 refine wpIn_seq ?_
 refine zB 1 ((4, .u (UF.eq (.int .i64 0))):: []) hmix s (by kernel_rfl)
  (oc zG<|zE) fun a w1 s=> ?_
 refine zA rfl ?_
 refine wpIn_seq ?_
 refine wpIn_seq ?_
 refine zB 3 ((6, .s (SF.row 6 (pvs m ps)))::(7, .u (UF.eq (.int .i64 (((pvs m ps).length:Nat):Int))))::(8, .u (UF.eq (.int .i64 0))):: []) hmix s (by kernel_rfl)
  (oc zC<|oc (zCm (z:=6) (Cs:=pvs m ps) (by kernel_rfl) iiz (fun _=>rfl))<|oc zC<|zE) fun a w2 s=> ?_
 refine zA rfl ?_
 refine wpIn_block ?_
 refine zC6 (fun k=>k≤ps.length∧ ∀j,j<k→g (at_ ps j)=false) (fun k=> [(0, .o (SF.row 6 (pvs m ps))),(1, .o (SF.fn Tryz.prog (TB m g))),(7, .u (UF.eq (.int .i64 (((pvs m ps).length:Nat):Int)))),(8, .u (UF.eq (.int .i64 ((k:Nat):Int))))]) (fun k=>ps.length - k) (0:Nat) (⟨Nat.zero_le _,fun j hj=>absurd hj (Nat.not_lt_zero _)⟩) (s.keepK _ (fmz ⟨mz3,fmz ⟨mz4,fmz ⟨.head _,fmz ⟨mz1,fnz⟩⟩⟩⟩)) fun k a w hx s=> ?_
 refine wpIn_seq ?_
 refine zB 1 ((9, .u (UF.eq (.bool (decide (((k:Nat):Int)<(((pvs m ps).length:Nat):Int)))))):: []) hmix s (by kernel_rfl)
  (oc (zQ .i64 ((k:Nat):Int) (((pvs m ps).length:Nat):Int) (decide (((k:Nat):Int)<(((pvs m ps).length:Nat):Int))) iiz iiz rfl rfl)<|zE) fun a w3 s=> ?_
 refine zA rfl ?_
 refine wpIn_seq ?_
 refine StS.cond s (decide (((k:Nat):Int)<(((pvs m ps).length:Nat):Int))) iiz (fun e=> ?_) (fun e=> ?_)
 ·have hk:k<ps.length:=by have:=of_decide_eq_true e;simp at this;omega
  refine wpIn_skip ?_
  refine wpIn_seq ?_
  refine wpIn_block ?_
  refine wpIn_seq ?_
  refine zB 2 ((10, .s ((UF.eq (.int .i64 ((k:Nat):Int))).toSF))::(5, .u (UF.eq (.int .i64 ((k:Nat):Int)))):: []) hmix s (by kernel_rfl)
   (oc zC<|oc zG<|zE) fun a w4 s=> ?_
  refine zA rfl ?_
  refine wpIn_seq ?_
  refine zB 6 ((11, .s (SF.fn Tryz.prog (TB m g)))::(12, .s (SF.row 6 (pvs m ps)))::(13, .s ((UF.eq (.int .i64 ((k:Nat):Int))).toSF))::(14, .s (SF.ptr (CU.agg (fPV m (at_ ps k))).cf))::(15, .s ((fPV m (at_ ps k)).toSF))::(16, .u (UF.eq (.bool (g (at_ ps k))))):: []) hmix s (by kernel_rfl)
   (oc zC<|oc zC<|oc zC<|oc (zAK (z:=6) (Cs:=pvs m ps) (i:=k) (C:=CU.agg (fPV m (at_ ps k))) (by kernel_rfl) (jD hk) iiz iiz)<|oc (zK (f:=fPV m (at_ ps k)) 6 (by kernel_rfl) (hz:=zP _ _))<|oc (zRJ (TB m g) zD iiz (fun u W hb (h:(fPV m (at_ ps k)).p u W)=>⟨u,_,rfl,h,rfl⟩))<|zE) fun a w5 s=> ?_
  refine zA rfl ?_
  refine StS.cond s (g (at_ ps k)) iiz (fun e=> ?_) (fun e=> ?_)
  ·refine wpIn_seq ?_
   refine zB 2 ((17, .s ((UF.eq (.int .i64 ((k:Nat):Int))).toSF))::(4, .u (UF.eq (.int .i64 ((k:Nat):Int)))):: []) hmix s (by kernel_rfl)
    (oc zC<|oc zG<|zE) fun a w6 s=> ?_
   refine zA rfl ?_
   refine wpIn_ret ?_
   exact StS.res1 s (t:=4) rfl (fun v W h=>by rw [zQy hk hx.2 e];exact h)
  ·refine wpIn_skip ?_
   refine qC 1 ((18, .u (UF.eq (.int .i64 ((k+1:Nat):Int)))):: []) s (by kernel_rfl)
    (oc (y7 .i64 ((k:Nat):Int) 1 ((k+1:Nat):Int) iiz iiz (wrap64 _ _ (by omega) (by omega)))<|zE) fun a w7 s=> ?_
   replace s:=s.drop [8]
   refine zBH (UF.eq (.int .i64 ((k+1:Nat):Int))) rfl s (by kernel_rfl) zC (by kernel_rfl) fun a w s=> ?_
   refine zA rfl ?_
   exact ⟨k+1,⟨hk,fun j hj=>by rcases Nat.lt_or_eq_of_le (Nat.le_of_lt_succ hj) with h|h;exact hx.2 j h;rw [h];exact e⟩,(by show ps.length - (k+1)<ps.length - k;omega),s.keepK _ (fmz ⟨mz5,fmz ⟨mz6,fmz ⟨mz7,fmz ⟨.head _,fnz⟩⟩⟩⟩)⟩
 ·have hk:k=ps.length:=by have h7:=of_decide_eq_false e;have h8:=hx.1;simp at h7;omega
  refine wpIn_exit ?_
  refine wpIn_seq ?_
  refine zB 1 ((4, .u (UF.eq (.int .i64 (-1)))):: []) hmix s (by kernel_rfl)
   (oc zG<|zE) fun a w8 s=> ?_
  refine zA rfl ?_
  refine wpIn_ret ?_
  exact StS.res1 s (t:=4) rfl (fun v W h=>by rw [zL9 (fun j hj=>hx.2 j (by omega))];exact h)
theorem zT3 {m:Nat} {g:V2→Bool} {W:World} {l f:Value} {ps:List V2} (hl:(SF.row 6 (pvs m ps)).p l W) (hf:(SF.fn Tryz.prog (TB m g)).p f W) (hn:ps.length≤1000000):Calls Tryz.prog 81 #[l,f] W (Ret W (fB (ps.any g)).toSF):=by
 refine z7 [SF.row 6 (pvs m ps),SF.fn Tryz.prog (TB m g)] Tryz.func81 rfl (by kernel_rfl) ⟨hl,hf,trivial⟩ fun a s=> ?_
 refine wpIn_seq ?_
 refine zB 1 ((4, .u (UF.eq (.bool false))):: []) hmix s (by kernel_rfl)
  (oc zG<|zE) fun a w1 s=> ?_
 refine zA rfl ?_
 refine wpIn_seq ?_
 replace s:=s.drop [4]
 refine zB 5 ((5, .s (SF.row 6 (pvs m ps)))::(6, .s (SF.fn Tryz.prog (TB m g)))::(7, .s ((UF.eq (.int .i64 (zKi g ps))).toSF))::(8, .s ((UF.eq (.bool (decide (zKi g ps≥0)))).toSF))::(4, .u (UF.eq (.bool (decide (zKi g ps≥0))))):: []) hmix s (by kernel_rfl)
  (oc zC<|oc zC<|oc (zH zD zSw (fun u0 u1 W hb (h0:(SF.row 6 (pvs m ps)).p u0 W) (h1:(SF.fn Tryz.prog (TB m g)).p u1 W)=>zTn h0 h1 hn))<|oc (zQ .i64 (zKi g ps) 0 (decide (zKi g ps≥0)) iiz iiz rfl rfl)<|oc zG<|zE) fun a w2 s=> ?_
 refine zA rfl ?_
 refine wpIn_ret ?_
 exact StS.res1 s (t:=4) rfl (fun v W h=>by rw [←zN8];exact h)
theorem zCh {m:Nat} (hm0:0<m) {p:V2} {v:Value} {W:World} (h:(fPV m p).p v W):QB p.1 m∧QB p.2 m:=by
 obtain ⟨_,_,_,_,_,_,_,_,_,_,_,_,_,_,_,h1,h2⟩:=h
 exact ⟨h1.qb hm0,h2.qb hm0⟩
theorem zLv {ps:List V2} {t:V2} {k:Nat} (h:k<ps.length):pns ((zBq ps t).take (k+1))=pns ((zBq ps t).take k)++ [CU.agg (fPN (zEC (at_ ps k) t))]:=by
 rw [zIY (by rw [zBp];exact h),zDA h]
theorem zBM {N:Nat} {w w1:World} (hb:Below w.heap.size w w1) (hN:N≤w.heap.size):Itr N w w1:=
 ⟨hb.os,hb.tape,hb.output,hb.size,fun k hk=>hb.block k (Nat.lt_of_lt_of_le hk hN),fun k o ho _=>(hb.block k (Array.getElem?_eq_some_iff.1 ho).1).trans ho,zU hb⟩
theorem zKV {N:Nat} {C:Nat→Prop} {w0 w w1:World} (hb:Below w0.heap.size w0 w) (hr:Rnd N C w w1) (hN:w0.heap.size≤N) (hC: ∀k,C k→w0.heap.size≤k):Below w0.heap.size w0 w1:=
 ⟨hr.os.trans hb.os,hr.tape.trans hb.tape,hr.output.trans hb.output,Nat.le_trans hb.size hr.size,fun k hk=>(hr.low k (Nat.lt_of_lt_of_le hk hN) (fun h=>by have:=hC k h;omega)).trans (hb.block k hk)⟩
theorem zBK {z:Nat} {Cs:List CU} {v:Value} {W:World} (h:(SF.row z Cs).p v W):v.cells=#[v]∧yG v=true:=by
 obtain ⟨A,c,rfl,_⟩:=h
 exact ⟨rfl,rfl⟩
theorem zHo {S:Nat→Prop} {w0 w w1:World} (hb:Below w0.heap.size w0 w) (hr:BlS S w w1) (hC: ∀k,S k→w0.heap.size≤k):Below w0.heap.size w0 w1:=
 ⟨hr.os.trans hb.os,hr.tape.trans hb.tape,hr.output.trans hb.output,Nat.le_trans hb.size hr.size,fun k hk=>(hr.block k (Nat.lt_of_lt_of_le hk hb.size) (fun h=>by have:=hC k h;omega)).trans (hb.block k hk)⟩
def CU.isP (v:Value) (P:Prop):CU:=⟨fun cs _=>cs= [v]∧P,fun _ _ _ h _=>h⟩
theorem zGe {u:Value} {P:Prop}: ∀cs W,(CU.isP u P).p cs W→ ∃x,cs[0]?=some x∧(UF.eq u).p x W:=fun cs W h=>by
 obtain ⟨rfl,_⟩:=h
 exact ⟨u,rfl,rfl⟩
section
variable {F:Fence} {m:Nat} {P:Program} {w0:World} {ops:Array Oper} {G:Nat→SF} {d:Tmp} {ty:TypeId} {pos:String} {aft:Array Edge}
end
def Lo (W W':World):Prop:= ∀p:Addr,p.block<W.heap.size→W'.cell? p=W.cell? p
theorem zJa {W w:World} (h:Below W.heap.size W w):Lo W w:=fun p hp=>h.cell hp
theorem Lo.trans {W w w':World} (h:Lo W w) (h': ∀p:Addr,p.block<W.heap.size→w'.cell? p=w.cell? p):Lo W w':=fun p hp=>(h' p hp).trans (h p hp)
theorem zI9 {S:Nat→Prop} {W w w':World} (h:Lo W w) (hb:BlS S w w') (hW:W.heap.size≤w.heap.size) (hS: ∀k,S k→W.heap.size≤k):Lo W w':=
 h.trans fun p hp=>World.cell?_of_block (hb.block _ (Nat.lt_of_lt_of_le hp hW) fun h=>by have:=hS _ h;omega)
theorem zOC {W W':World} (h:Tab W) (hl:Lo W W'):Tab W':=fun j hj=>(hl _ (World.block_lt_of_cell? W _ (h j hj))).trans (h j hj)
theorem StS.resMP {w0:World} {K:List (Nat×KF)} {B:List Bx} {n:Nat} {ds:List Deferred} {a:Act} {w:World} {P:Program} (h:St w0 K B n ds a w) {fn:Func} (v:Value) {t:Nat} {e:TypeId} {C:CU} (hr:fn.results=#[.cell t e]) (hsz:zDU P e=true) {y:Bx} (hB:zFh B t=some y) (hyC:y.c=C) (hyl: ∀cs W,C.p cs W→cs= [v]):bodyPostM Fence.wide 0 P fn (Ret w0 (UF.eq v).toSF) .ret a w:=by
 obtain ⟨hy,rfl⟩:=zAj hB
 subst hyC
 obtain ⟨cs,h1,h2,h3,h4,h5⟩:=h.bx.mem y hy
 have e1:=hyl cs w h4
 have h0:a.tmps[y.t]?.getD undef= .pointer (some ⟨y.b,0,none⟩):=by rw [←Array.getD_eq_getD_getElem?];exact h1
 refine h.resM (v:=v) (fun w' ho=> ?_) fun w' ho=>rfl
 have hm:=zAL (zLD ho h3)
 have:=zBJ hsz hm (u:=v) (by rw [e1];rfl)
 simp [results,hr,asAddr,h0,this]
abbrev V6:=V2×V2×V2
abbrev tl (t:V6):List V2:= [t.1,t.2.1,t.2.2]
theorem zEn {m m':Nat} (hm:m≤m') {ps:List V2} (v:Value) (W:World) (hv:(SF.row 6 (pvs m ps)).p v W):(SF.row 6 (pvs m' ps)).p v W:=
 zHK (by simp) (fun i C D hC hD cs W h=>by
  have hi:i<ps.length:=by have:=(List.getElem?_eq_some_iff.1 hC).1;simpa using this
  rw [jD hi] at hC
  rw [jD hi] at hD
  cases hC;cases hD
  exact zCi hm h) v W hv
section
variable {F:Fence} {m:Nat} {P:Program} {w0:World} {ops:Array Oper} {G:Nat→SF} {d:Tmp} {ty:TypeId} {pos:String} {aft:Array Edge}
end
theorem zRB {m:Nat} (hm0:0<m) {ps:List V2} {v:Value} {W:World} (h:(SF.row 6 (pvs m ps)).p v W): ∀x,x∈ps→QB x.1 m∧QB x.2 m:=fun x hx=>by
 obtain ⟨i,hi,rfl⟩:=zLU hx
 obtain ⟨_,_,_,_,_,_,h5⟩:=h
 obtain ⟨b,o,cs,_,_,h6⟩:=h5 i _ (jD hi)
 exact zCh hm0 (v:= .agg cs.toArray) h6
abbrev PX:=QX×QX
abbrev PX.p (x:PX):V2:=(x.1.q,x.2.q)
abbrev PX.u (x:PX):UF:=fPT (fQX x.1.n x.1.n' x.1.k x.1.d) (fQX x.2.n x.2.n' x.2.k x.2.d)
abbrev PX.cu (x:PX):CU:=CU.agg x.u
abbrev pxs (L:List PX):List CU:=L.map PX.cu
abbrev pps (L:List PX):List V2:=L.map PX.p
theorem zUg {x:PX} (cs:List Value) (W:World) (h:(PX.cu x).p cs W): ∃u,cs[1]?=some u∧(fSl x.1.n).p u W:=by
 obtain ⟨s,A,n,c,A',n',c',s2,B,k,d,B',k',d',e,h1,h2⟩:=h
 rw [zDx e]
 have:=zLi _ W (show (QX.cu x.1).p [Value.bool s, .slice A n c, .slice A' n' c'] W from h1)
 exact this
theorem zUf {x:PX} (cs:List Value) (W:World) (h:(PX.cu x).p cs W): ∃u,cs[2]?=some u∧(fSl x.1.n').p u W:=by
 obtain ⟨s,A,n,c,A',n',c',s2,B,k,d,B',k',d',e,h1,h2⟩:=h
 rw [zDx e]
 have:=zLh _ W (show (QX.cu x.1).p [Value.bool s, .slice A n c, .slice A' n' c'] W from h1)
 exact this
theorem zUe {x:PX} (cs:List Value) (W:World) (h:(PX.cu x).p cs W): ∃u,cs[4]?=some u∧(fSl x.2.n).p u W:=by
 obtain ⟨s,A,n,c,A',n',c',s2,B,k,d,B',k',d',e,h1,h2⟩:=h
 rw [zDx e]
 have:=zLi _ W (show (QX.cu x.2).p [Value.bool s2, .slice B k d, .slice B' k' d'] W from h2)
 exact this
theorem zUd {x:PX} (cs:List Value) (W:World) (h:(PX.cu x).p cs W): ∃u,cs[5]?=some u∧(fSl x.2.n').p u W:=by
 obtain ⟨s,A,n,c,A',n',c',s2,B,k,d,B',k',d',e,h1,h2⟩:=h
 rw [zDx e]
 have:=zLh _ W (show (QX.cu x.2).p [Value.bool s2, .slice B k d, .slice B' k' d'] W from h2)
 exact this
section
variable {F:Fence} {m:Nat} {P:Program} {w0:World} {ops:Array Oper} {G:Nat→SF} {d:Tmp} {ty:TypeId} {pos:String} {aft:Array Edge}
end
end Go.Proofs.Wd

namespace Go.Proofs.Wd
set_option maxRecDepth 100000
set_option maxHeartbeats 1000000
open Go.RowKit Lb
def zAT (p q:V2):Int:=if qsg p.1 q.1=0 then qsg p.2 q.2 else qsg p.1 q.1
theorem zSN {p q:V2} (h:(qsg p.1 q.1 !=0)=true):zAT p q=qsg p.1 q.1:=by unfold zAT;rw [if_neg (by simpa using h)]
theorem zSM {p q:V2} (h:(qsg p.1 q.1 !=0)=false):zAT p q=qsg p.2 q.2:=by unfold zAT;rw [if_pos (by simpa using h)]
theorem zPP (a n:Nat):((a:Nat):Int).tmod ((n:Nat):Int)=((a % n:Nat):Int):=rfl
theorem zHD {m:Nat} {p q:V2} (hp:QB p.1 m∧QB p.2 m) (hq:QB q.1 m∧QB q.2 m):QB (p.1 - q.1) (2*m+1)∧QB (p.2 - q.2) (2*m+1):=⟨(hp.1.sub hq.1).mono (by omega),(hp.2.sub hq.2).mono (by omega)⟩
theorem zK4 {m:Nat} {W:World} {u v:Value} {p q:V2} (h1:(fPV m p).p u W) (h2:(fPV m q).p v W) (hm:m≤990) (hm0:0<m):Calls Tryz.prog 52 #[u,v] W (Ret W (fI (zAT p q)).toSF):=by
 refine z7 [(fPV m p).toSF,(fPV m q).toSF] Tryz.func52 rfl (by kernel_rfl) ⟨h1,h2,trivial⟩ fun a s=> ?_
 refine wpIn_seq ?_
 refine zB 0 [] hmix s (by kernel_rfl)
  zE fun a w1 s=> ?_
 refine yJ (CU.agg (fPV m p)) rfl s (by kernel_rfl) (fun v W h=>yP h) fun b2 a w s=> ?_
 refine yJ (CU.agg (fPV m q)) rfl s (by kernel_rfl) (fun v W h=>yP h) fun b3 a w s=> ?_
 refine yU (UF.eq (.int .i64 0)) rfl s (by kernel_rfl) iiz fun a w s=> ?_
 refine zA rfl ?_
 refine wpIn_seq ?_
 refine zB 6 ((6, .s (SF.ptr ((CU.agg (fPV m p)).cf.at 0)))::(7, .s ((fRV m ((p).1)).toSF))::(8, .s (SF.ptr ((CU.agg (fPV m q)).cf.at 0)))::(9, .s ((fRV m ((q).1)).toSF))::(10, .s ((UF.eq (.int .i64 (qsg (p).1 (q).1))).toSF))::(5, .u (UF.eq (.int .i64 (qsg (p).1 (q).1)))):: []) hmix s (by kernel_rfl)
  (oc (zN (C:=(CU.agg (fPV m p)).cf) 0 (by kernel_rfl))<|oc (zX (C:=(CU.agg (fPV m p)).cf) (k:=0) 3 (by kernel_rfl) (h:=zFj))<|oc (zN (C:=(CU.agg (fPV m q)).cf) 0 (by kernel_rfl))<|oc (zX (C:=(CU.agg (fPV m q)).cf) (k:=0) 3 (by kernel_rfl) (h:=zFj))<|oc (zH zD zQJ (fun u0 u1 W hb (h0:RVp m ((p).1) u0 W) (h1:RVp m ((q).1) u1 W)=>zHP h0 h1 hm hm0))<|oc zG<|zE) fun a w2 s=> ?_
 refine zA rfl ?_
 refine wpIn_seq ?_
 refine wpIn_seq ?_
 refine zB 2 ((11, .s ((UF.eq (.int .i64 (qsg (p).1 (q).1))).toSF))::(12, .u (UF.eq (.bool (qsg (p).1 (q).1 !=0)))):: []) hmix s (by kernel_rfl)
  (oc zC<|oc (zQ .i64 (qsg (p).1 (q).1) 0 (qsg (p).1 (q).1 !=0) iiz iiz rfl rfl)<|zE) fun a w3 s=> ?_
 refine zA rfl ?_
 refine StS.cond s (qsg (p).1 (q).1 !=0) iiz (fun e=> ?_) (fun e=> ?_)
 ·refine wpIn_seq ?_
  replace s:=s.drop [4]
  refine zB 2 ((13, .s ((UF.eq (.int .i64 (qsg (p).1 (q).1))).toSF))::(4, .u (UF.eq (.int .i64 (qsg (p).1 (q).1)))):: []) hmix s (by kernel_rfl)
   (oc zC<|oc zG<|zE) fun a w4 s=> ?_
  refine zA rfl ?_
  refine wpIn_ret ?_
  exact StS.res1 s (t:=4) rfl (fun v W h=>by rw [zSN e];exact h)
 ·refine wpIn_skip ?_
  refine wpIn_seq ?_
  replace s:=s.drop [4]
  refine zB 6 ((14, .s (SF.ptr ((CU.agg (fPV m p)).cf.at 3)))::(15, .s ((fRV m ((p).2)).toSF))::(16, .s (SF.ptr ((CU.agg (fPV m q)).cf.at 3)))::(17, .s ((fRV m ((q).2)).toSF))::(18, .s ((UF.eq (.int .i64 (qsg (p).2 (q).2))).toSF))::(4, .u (UF.eq (.int .i64 (qsg (p).2 (q).2)))):: []) hmix s (by kernel_rfl)
   (oc (zN (C:=(CU.agg (fPV m p)).cf) 3 (by kernel_rfl))<|oc (zX (C:=(CU.agg (fPV m p)).cf) (k:=3) 3 (by kernel_rfl) (h:=zDM))<|oc (zN (C:=(CU.agg (fPV m q)).cf) 3 (by kernel_rfl))<|oc (zX (C:=(CU.agg (fPV m q)).cf) (k:=3) 3 (by kernel_rfl) (h:=zDM))<|oc (zH zD zQJ (fun u0 u1 W hb (h0:RVp m ((p).2) u0 W) (h1:RVp m ((q).2) u1 W)=>zHP h0 h1 hm hm0))<|oc zG<|zE) fun a w5 s=> ?_
  refine zA rfl ?_
  refine wpIn_ret ?_
  exact StS.res1 s (t:=4) rfl (fun v W h=>by rw [zSM e];exact h)
section
variable {F:Fence} {m:Nat} {P:Program} {w0:World} {ops:Array Oper} {G:Nat→SF} {d:Tmp} {ty:TypeId} {pos:String} {aft:Array Edge}
theorem zDj {t:TypeId} {i j k:Nat} {x y z:Operand} (h: ∀u v q W,(fct G x).p u W→(fct G y).p v W→(fct G z).p q W→ ∃cells,P.built t [(i,u),(j,v),(k,q)]=some cells∧(G d).p (.agg cells) W):qK F m P w0 ops G ⟨some d, .build t #[(i,x),(j,y),(k,z)],ty,pos,aft,none⟩:=
 zF6 fun b W hb hh=>by
  obtain ⟨cells,h1,h2⟩:=h _ _ _ W (hh x (by simp)) (hh y (by simp)) (hh z (by simp))
  exact ⟨cells,by simpa using h1,h2⟩
end
theorem qbz {z:Int} (h:z.natAbs<100):QB ((z:Int):Rat) 1:=QB.int (Nat.lt_trans h (by decide)) (by decide)
def TGp (u v q:UF) (x:Value) (w:World):Prop:= ∃a b c:List Value,x= .agg (a++b++c).toArray∧(CU.agg u).p a w∧(CU.agg v).p b w∧(CU.agg q).p c w
def fTG (u v q:UF):UF:= .mk' (TGp u v q) fun _ _ _ ⟨a,b,c,e,h1,h2,h3⟩ k=>⟨a,b,c,e,(CU.agg u).us _ _ _ h1 k,(CU.agg v).us _ _ _ h2 k,(CU.agg q).us _ _ _ h3 k⟩
section
variable {f g f' g' f'' g'':UF}
theorem zEh {cs:List Value} {W:World} (h:(CU.agg (fTG (fPT f g) (fPT f' g') (fPT f'' g''))).p cs W): ∃a b c:List Value,cs=a++b++c∧a.length=6∧b.length=6∧c.length=6∧(CU.agg (fPT f g)).p a W∧(CU.agg (fPT f' g')).p b W∧(CU.agg (fPT f'' g'')).p c W:=by
 obtain ⟨a,b,c,e,h1,h2,h3⟩:=h
 have:=congrArg Array.toList (jF e)
 have this:cs=a++b++c:=this
 exact ⟨a,b,c,this,(zDf _ _ a W h1).1,(zDf _ _ b W h2).1,(zDf _ _ c W h3).1,h1,h2,h3⟩
theorem zS6:CU.ok 18 (CU.agg (fTG (fPT f g) (fPT f' g') (fPT f'' g''))):=fun cs W h=>by
 obtain ⟨a,b,c,rfl,l1,l2,l3,h1,h2,h3⟩:=zEh h
 have o1:=zDf _ _ a W h1;have o2:=zDf _ _ b W h2;have o3:=zDf _ _ c W h3
 refine ⟨by simp [l1,l2,l3],zIk o1.2.1 o2.2.1 o3.2.1,fun u hu=> ?_⟩
 rcases List.mem_append.1 hu with hu|hu
 ·rcases List.mem_append.1 hu with hu|hu
  ·exact o1.2.2 u hu
  ·exact o2.2.2 u hu
 ·exact o3.2.2 u hu
theorem zQ5 {v:Value} {W:World} (h:(fTG (fPT f g) (fPT f' g') (fPT f'' g'')).p v W):(CU.agg (fTG (fPT f g) (fPT f' g') (fPT f'' g''))).p v.cells.toList W∧v.cells.toList.all yG=true:=by
 obtain ⟨a,b,c,rfl,h1⟩:=id h
 exact ⟨h,(zS6 _ W h).2.1⟩
theorem zOB (cs:List Value) (W:World) (h:(CU.agg (fTG (fPT f g) (fPT f' g') (fPT f'' g''))).p cs W):0+6≤cs.length∧(fPT f g).p (.agg ((cs.drop 0).take 6).toArray) W:=by
 obtain ⟨a,b,c,rfl,l1,l2,l3,h1,_⟩:=zEh h
 refine ⟨by simp [l1,l2,l3], ?_⟩
 rw [List.drop_zero,List.append_assoc,List.take_append_of_le_length (by omega),List.take_of_length_le (by omega)]
 exact h1
theorem zQ4 (cs:List Value) (W:World) (h:(CU.agg (fTG (fPT f g) (fPT f' g') (fPT f'' g''))).p cs W):6+6≤cs.length∧(fPT f' g').p (.agg ((cs.drop 6).take 6).toArray) W:=by
 obtain ⟨a,b,c,rfl,l1,l2,l3,_,h2,_⟩:=zEh h
 refine ⟨by simp [l1,l2,l3], ?_⟩
 rw [List.append_assoc,List.drop_append_of_le_length (by omega),List.drop_of_length_le (by omega),List.nil_append,List.take_append_of_le_length (by omega),List.take_of_length_le (by omega)]
 exact h2
theorem zPy (cs:List Value) (W:World) (h:(CU.agg (fTG (fPT f g) (fPT f' g') (fPT f'' g''))).p cs W):12+6≤cs.length∧(fPT f'' g'').p (.agg ((cs.drop 12).take 6).toArray) W:=by
 obtain ⟨a,b,c,rfl,l1,l2,l3,_,_,h3⟩:=zEh h
 refine ⟨by simp [l1,l2,l3], ?_⟩
 rw [List.drop_append_of_le_length (by simp;omega),List.drop_of_length_le (by simp;omega),List.nil_append,List.take_of_length_le (by omega)]
 exact h3
theorem zHJ {W:World} {e:TypeId} {z:Nat} {Cs:List CU} {cs:List Value} (hlen:Cs.length≤9223372036854775807) (h: ∀(i:Nat) (C:CU),Cs[i]?=some C→ ∃p:List Value,(∀j u,p[j]?=some u→cs[i*z+j]?=some u)∧C.p p W):(SF.row z Cs).p (.slice (some ⟨W.heap.size,0,none⟩) Cs.length Cs.length) (W.alloc (.cells cs.toArray e)):=by
 refine ⟨some ⟨W.heap.size,0,none⟩,Cs.length,rfl,Nat.le_refl _,hlen,fun e=>(by cases e),fun i C hi=> ?_⟩
 obtain ⟨p,h1,h2⟩:=h i C hi
 refine ⟨W.heap.size,0,p,rfl,fun j u hj=> ?_,C.us _ _ _ h2 (zU (zCx W _))⟩
 have:=zBF W cs.toArray e (i*z+j) u (by simpa using h1 j u hj)
 rwa [←Nat.add_assoc] at this
theorem zT9 (s:Bool) (A A':Option Addr) (n n' c c':Nat) (s2:Bool) (B B':Option Addr) (k k' d d':Nat) (t:Bool) (C C':Option Addr) (i i' j j':Nat) (t2:Bool) (D D':Option Addr) (x x' y y':Nat) (r:Bool) (E E':Option Addr) (p p' q q':Nat) (r2:Bool) (F F':Option Addr) (g g' h h':Nat):yH Tryz.prog 22 3 [(0, .agg #[.bool s, .slice A n c, .slice A' n' c', .bool s2, .slice B k d, .slice B' k' d']),(1, .agg #[.bool t, .slice C i j, .slice C' i' j', .bool t2, .slice D x y, .slice D' x' y']),(2, .agg #[.bool r, .slice E p q, .slice E' p' q', .bool r2, .slice F g h, .slice F' g' h'])]=some (30,#[.bool s, .slice A n c, .slice A' n' c', .bool s2, .slice B k d, .slice B' k' d', .bool t, .slice C i j, .slice C' i' j', .bool t2, .slice D x y, .slice D' x' y', .bool r, .slice E p q, .slice E' p' q', .bool r2, .slice F g h, .slice F' g' h']):=by kernel_rfl
theorem zRd {u v q:Value} {W:World} (hu:(fPT f g).p u W) (hv:(fPT f' g').p v W) (hq:(fPT f'' g'').p q W): ∃e cs,yH Tryz.prog 22 3 [(0,u),(1,v),(2,q)]=some (e,cs)∧(SF.row 6 [CU.agg (fPT f g),CU.agg (fPT f' g'),CU.agg (fPT f'' g'')]).p (.slice (some ⟨W.heap.size,0,none⟩) 3 3) (W.alloc (.cells cs e)):=by
 obtain ⟨s,A,n,c,A',n',c',s2,B,k,d,B',k',d',rfl,h1,h2⟩:=hu
 obtain ⟨s3,A3,n3,c3,A4,n4,c4,s4,B3,k3,d3,B4,k4,d4,rfl,h3,h4⟩:=hv
 obtain ⟨s5,A5,n5,c5,A6,n6,c6,s6,B5,k5,d5,B6,k6,d6,rfl,h5,h6⟩:=hq
 refine ⟨_,_,zT9 ..,zHJ (Cs:= [CU.agg (fPT f g),CU.agg (fPT f' g'),CU.agg (fPT f'' g'')]) (cs:=_) (by simp) fun i C hi=> ?_⟩
 have hlt:=(List.getElem?_eq_some_iff.1 hi).1
 simp at hlt
 rcases (by omega:i=0∨i=1∨i=2) with rfl|rfl|rfl
 ·obtain rfl:CU.agg (fPT f g)=C:=by simpa using hi
  exact ⟨[.bool s, .slice A n c, .slice A' n' c', .bool s2, .slice B k d, .slice B' k' d'],fun j u hj=>by
   have h9:=(List.getElem?_eq_some_iff.1 hj).1
   simp at h9
   rcases (by omega:j=0∨j=1∨j=2∨j=3∨j=4∨j=5) with rfl|rfl|rfl|rfl|rfl|rfl<;>exact hj,s,A,n,c,A',n',c',s2,B,k,d,B',k',d',rfl,h1,h2⟩
 ·obtain rfl:CU.agg (fPT f' g')=C:=by simpa using hi
  exact ⟨[.bool s3, .slice A3 n3 c3, .slice A4 n4 c4, .bool s4, .slice B3 k3 d3, .slice B4 k4 d4],fun j u hj=>by
   have h9:=(List.getElem?_eq_some_iff.1 hj).1
   simp at h9
   rcases (by omega:j=0∨j=1∨j=2∨j=3∨j=4∨j=5) with rfl|rfl|rfl|rfl|rfl|rfl<;>exact hj,s3,A3,n3,c3,A4,n4,c4,s4,B3,k3,d3,B4,k4,d4,rfl,h3,h4⟩
 ·obtain rfl:CU.agg (fPT f'' g'')=C:=by simpa using hi
  exact ⟨[.bool s5, .slice A5 n5 c5, .slice A6 n6 c6, .bool s6, .slice B5 k5 d5, .slice B6 k6 d6],fun j u hj=>by
   have h9:=(List.getElem?_eq_some_iff.1 hj).1
   simp at h9
   rcases (by omega:j=0∨j=1∨j=2∨j=3∨j=4∨j=5) with rfl|rfl|rfl|rfl|rfl|rfl<;>exact hj,s5,A5,n5,c5,A6,n6,c6,s6,B5,k5,d5,B6,k6,d6,rfl,h5,h6⟩
end
def PX.b (x:PX):Nat:=x.1.n+x.1.n'+(x.2.n+x.2.n')
section
variable {F:Fence} {m:Nat} {P:Program} {w0:World} {ops:Array Oper} {G:Nat→SF} {d:Tmp} {ty:TypeId} {pos:String} {aft:Array Edge}
end
theorem zUa (s:Bool) (A A':Option Addr) (n n' c c':Nat) (s2:Bool) (B B':Option Addr) (k k' d d':Nat) (t:Bool) (C C':Option Addr) (i i' j j':Nat) (t2:Bool) (D D':Option Addr) (x x' y y':Nat):yH Tryz.prog 22 2 [(0, .agg #[.bool s, .slice A n c, .slice A' n' c', .bool s2, .slice B k d, .slice B' k' d']),(1, .agg #[.bool t, .slice C i j, .slice C' i' j', .bool t2, .slice D x y, .slice D' x' y'])]=some (30,#[.bool s, .slice A n c, .slice A' n' c', .bool s2, .slice B k d, .slice B' k' d', .bool t, .slice C i j, .slice C' i' j', .bool t2, .slice D x y, .slice D' x' y']):=by kernel_rfl
theorem zRe {f g f' g':UF} {u v:Value} {W:World} (hu:(fPT f g).p u W) (hv:(fPT f' g').p v W): ∃e cs,yH Tryz.prog 22 2 [(0,u),(1,v)]=some (e,cs)∧(SF.row 6 [CU.agg (fPT f g),CU.agg (fPT f' g')]).p (.slice (some ⟨W.heap.size,0,none⟩) 2 2) (W.alloc (.cells cs e)):=by
 obtain ⟨s,A,n,c,A',n',c',s2,B,k,d,B',k',d',rfl,h1,h2⟩:=hu
 obtain ⟨s3,A3,n3,c3,A4,n4,c4,s4,B3,k3,d3,B4,k4,d4,rfl,h3,h4⟩:=hv
 refine ⟨_,_,zUa ..,zHJ (Cs:= [CU.agg (fPT f g),CU.agg (fPT f' g')]) (cs:=_) (by simp) fun i C hi=> ?_⟩
 have hlt:=(List.getElem?_eq_some_iff.1 hi).1
 simp at hlt
 rcases (by omega:i=0∨i=1) with rfl|rfl
 ·obtain rfl:CU.agg (fPT f g)=C:=by simpa using hi
  exact ⟨[.bool s, .slice A n c, .slice A' n' c', .bool s2, .slice B k d, .slice B' k' d'],fun j u hj=>by
   have h9:=(List.getElem?_eq_some_iff.1 hj).1
   simp at h9
   rcases (by omega:j=0∨j=1∨j=2∨j=3∨j=4∨j=5) with rfl|rfl|rfl|rfl|rfl|rfl<;>exact hj,s,A,n,c,A',n',c',s2,B,k,d,B',k',d',rfl,h1,h2⟩
 ·obtain rfl:CU.agg (fPT f' g')=C:=by simpa using hi
  exact ⟨[.bool s3, .slice A3 n3 c3, .slice A4 n4 c4, .bool s4, .slice B3 k3 d3, .slice B4 k4 d4],fun j u hj=>by
   have h9:=(List.getElem?_eq_some_iff.1 hj).1
   simp at h9
   rcases (by omega:j=0∨j=1∨j=2∨j=3∨j=4∨j=5) with rfl|rfl|rfl|rfl|rfl|rfl<;>exact hj,s3,A3,n3,c3,A4,n4,c4,s4,B3,k3,d3,B4,k4,d4,rfl,h3,h4⟩
end Go.Proofs.Wd

namespace Go.Proofs.Wd
set_option maxRecDepth 100000
set_option maxHeartbeats 1000000
open Go.RowKit Lb
section
variable {F:Fence} {m:Nat} {P:Program} {w0:World} {ops:Array Oper} {G:Nat→SF} {d:Tmp} {ty:TypeId} {pos:String} {aft:Array Edge}
theorem zLI {t:TypeId} {x y:Operand} {t':TypeId} (k:IntKind) (u v r:Int) (hx: ∀q W,(fct G x).p q W→q= .int k u) (hy: ∀q W,(fct G y).p q W→q= .int k v) (hr:k.wrap (u*v)=r) (hd: ∀W,(G d).p (.int k r) W:=by exact fun _=>rfl):qK F m P w0 ops G ⟨some d, .binOp .mul t x y t',ty,pos,aft,none⟩:=
 zCn (.int k u) (.int k v) (.int k r) hx hy (fun W=>by simp [eqGuard]) (fun W=>by subst hr;simp [binOp,Op.intArith]) hd
end
def yM (a b p:V2):Int:=(crs a b p).num.sign
def zLB (a b r:Rat):Bool:=(!(qsg a b==0))||(qsg a r==0)
def zBQ (a b r:Rat):Bool:=decide (qsg a r*qsg r b≥0)&&zLB a b r
def onB (a b p:V2):Bool:=((yM a b p==0)&&zBQ a.1 b.1 p.1)&&zBQ a.2 b.2 p.2
theorem zGU (a b:Rat):qsg a b= -1∨qsg a b=0∨qsg a b=1:=by
 unfold qsg
 generalize a.num*(b.den:Int) - b.num*(a.den:Int)=z
 rcases Int.lt_trichotomy z 0 with h|h|h
 ·left;exact Int.sign_eq_neg_one_of_neg h
 ·right;left;rw [h];rfl
 ·right;right;exact Int.sign_eq_one_of_pos h
abbrev QP (m:Nat) (p:V2):Prop:=QB p.1 m∧QB p.2 m
theorem QP.sub {m:Nat} {p q:V2} (hp:QP m p) (hq:QP m q):QP (2*m+1) (p.1 - q.1,p.2 - q.2):=⟨(hp.1.sub hq.1).mono (by omega),(hp.2.sub hq.2).mono (by omega)⟩
theorem zS5 {m:Nat} (hm0:0<m) {a b c:V2} {x:Value} {W:World} (h:(fTG (fPV m a) (fPV m b) (fPV m c)).p x W):QP m a∧QP m b∧QP m c:=by
 obtain ⟨u,v,q,_,h1,h2,h3⟩:=h
 exact ⟨zCh hm0 (v:= .agg u.toArray) h1,zCh hm0 (v:= .agg v.toArray) h2,zCh hm0 (v:= .agg q.toArray) h3⟩
theorem thB (s:Bool) (A A':Option Addr) (n n' c c':Nat) (s2:Bool) (B B':Option Addr) (k k' d d':Nat) (t:Bool) (C C':Option Addr) (i i' j j':Nat) (t2:Bool) (D D':Option Addr) (x x' y y':Nat) (r:Bool) (E E':Option Addr) (p p' q q':Nat) (r2:Bool) (F F':Option Addr) (g g' h h':Nat):Tryz.prog.built 151 [(0, .agg #[.bool s, .slice A n c, .slice A' n' c', .bool s2, .slice B k d, .slice B' k' d']),(1, .agg #[.bool t, .slice C i j, .slice C' i' j', .bool t2, .slice D x y, .slice D' x' y']),(2, .agg #[.bool r, .slice E p q, .slice E' p' q', .bool r2, .slice F g h, .slice F' g' h'])]=some #[.bool s, .slice A n c, .slice A' n' c', .bool s2, .slice B k d, .slice B' k' d', .bool t, .slice C i j, .slice C' i' j', .bool t2, .slice D x y, .slice D' x' y', .bool r, .slice E p q, .slice E' p' q', .bool r2, .slice F g h, .slice F' g' h']:=by kernel_rfl
theorem zUo {f g f' g' f'' g'':UF} {u v q:Value} {W:World} (hu:(fPT f g).p u W) (hv:(fPT f' g').p v W) (hq:(fPT f'' g'').p q W): ∃cells,Tryz.prog.built 151 [(0,u),(1,v),(2,q)]=some cells∧(fTG (fPT f g) (fPT f' g') (fPT f'' g'')).p (.agg cells) W:=by
 obtain ⟨s,A,n,c,A',n',c',s2,B,k,d,B',k',d',rfl,h1,h2⟩:=hu
 obtain ⟨s3,A3,n3,c3,A4,n4,c4,s4,B3,k3,d3,B4,k4,d4,rfl,h3,h4⟩:=hv
 obtain ⟨s5,A5,n5,c5,A6,n6,c6,s6,B5,k5,d5,B6,k6,d6,rfl,h5,h6⟩:=hq
 exact ⟨_,thB ..,_,_,_,rfl,⟨s,A,n,c,A',n',c',s2,B,k,d,B',k',d',rfl,h1,h2⟩,⟨s3,A3,n3,c3,A4,n4,c4,s4,B3,k3,d3,B4,k4,d4,rfl,h3,h4⟩,⟨s5,A5,n5,c5,A6,n6,c6,s6,B5,k5,d5,B6,k6,d6,rfl,h5,h6⟩⟩
theorem zPw {m:Nat} {W:World} {p q r:V2} {x:Value} (hx:(fTG (fPV m p) (fPV m q) (fPV m r)).p x W) (hm:m≤159) (hm0:0<m) (hT:Tab W):Calls Tryz.prog 128 #[x] W (Ret W (fI (yM p q r)).toSF):=by
 have hq:=zS5 hm0 hx
 refine z7 [(fTG (fPV m p) (fPV m q) (fPV m r)).toSF] Tryz.func128 rfl (by kernel_rfl) ⟨hx,trivial⟩ fun a s=> ?_
 replace s:=s.renew [(0, .u (fTG (fPV m p) (fPV m q) (fPV m r)))] (fmz ⟨.inr ⟨_,rfl, .head _⟩,fnz⟩)
 refine wpIn_seq ?_
 refine zB 0 [] hmix s (by kernel_rfl)
  zE fun a w1 s=> ?_
 refine yJ (CU.agg (fTG (fPV m p) (fPV m q) (fPV m r))) rfl s (by kernel_rfl) (fun v W h=>zQ5 h) fun b1 a w s=> ?_
 refine yU (UF.eq (.int .i64 0)) rfl s (by kernel_rfl) iiz fun a w s=> ?_
 refine zA rfl ?_
 refine wpIn_seq ?_
 replace s:=s.drop [2]
 refine zB 13 ((3, .s (SF.ptr ((CU.agg (fTG (fPV m p) (fPV m q) (fPV m r))).cf.at 6)))::(4, .s ((fPV m q).toSF))::(5, .s (SF.ptr ((CU.agg (fTG (fPV m p) (fPV m q) (fPV m r))).cf.at 0)))::(6, .s ((fPV m p).toSF))::(7, .s ((fPN ((q).1 - (p).1,(q).2 - (p).2)).toSF))::(8, .s (SF.ptr ((CU.agg (fTG (fPV m p) (fPV m q) (fPV m r))).cf.at 12)))::(9, .s ((fPV m r).toSF))::(10, .s (SF.ptr ((CU.agg (fTG (fPV m p) (fPV m q) (fPV m r))).cf.at 0)))::(11, .s ((fPV m p).toSF))::(12, .s ((fPN ((r).1 - (p).1,(r).2 - (p).2)).toSF))::(13, .s ((fQN (((q).1 - (p).1,(q).2 - (p).2).1*((r).1 - (p).1,(r).2 - (p).2).2 - ((q).1 - (p).1,(q).2 - (p).2).2*((r).1 - (p).1,(r).2 - (p).2).1)).toSF))::(14, .s ((UF.eq (.int .i64 (yM p q r))).toSF))::(2, .u (UF.eq (.int .i64 (yM p q r)))):: []) hmix s (by kernel_rfl)
  (oc (zN (C:=(CU.agg (fTG (fPV m p) (fPV m q) (fPV m r))).cf) 6 (by kernel_rfl))<|oc (zX (C:=(CU.agg (fTG (fPV m p) (fPV m q) (fPV m r))).cf) (k:=6) 6 (by kernel_rfl) (h:=zQ4))<|oc (zN (C:=(CU.agg (fTG (fPV m p) (fPV m q) (fPV m r))).cf) 0 (by kernel_rfl))<|oc (zX (C:=(CU.agg (fTG (fPV m p) (fPV m q) (fPV m r))).cf) (k:=0) 6 (by kernel_rfl) (h:=zOB))<|oc (zH zD zPf (fun u0 u1 W hb (h0:(fPV m q).p u0 W) (h1:(fPV m p).p u1 W)=>zOu (p:=q) (q:=p) h0 h1 (by omega) hm0 (hT.below (s.up hb))))<|oc (zN (C:=(CU.agg (fTG (fPV m p) (fPV m q) (fPV m r))).cf) 12 (by kernel_rfl))<|oc (zX (C:=(CU.agg (fTG (fPV m p) (fPV m q) (fPV m r))).cf) (k:=12) 6 (by kernel_rfl) (h:=zPy))<|oc (zN (C:=(CU.agg (fTG (fPV m p) (fPV m q) (fPV m r))).cf) 0 (by kernel_rfl))<|oc (zX (C:=(CU.agg (fTG (fPV m p) (fPV m q) (fPV m r))).cf) (k:=0) 6 (by kernel_rfl) (h:=zOB))<|oc (zH zD zPf (fun u0 u1 W hb (h0:(fPV m r).p u0 W) (h1:(fPV m p).p u1 W)=>zOu (p:=r) (q:=p) h0 h1 (by omega) hm0 (hT.below (s.up hb))))<|oc (zH zD zSE (fun u0 u1 W hb (h0:(fPN ((q).1 - (p).1,(q).2 - (p).2)).p u0 W) (h1:(fPN ((r).1 - (p).1,(r).2 - (p).2)).p u1 W)=>zMW (m:=(2*m+1)) (p:=((q).1 - (p).1,(q).2 - (p).2)) (q:=((r).1 - (p).1,(r).2 - (p).2)) (zBe (p:=((q).1 - (p).1,(q).2 - (p).2)) (m:=(2*m+1)) ((QP.sub hq.2.1 hq.1).1.mono (by first|omega|decide)) ((QP.sub hq.2.1 hq.1).2.mono (by first|omega|decide)) h0) (zBe (p:=((r).1 - (p).1,(r).2 - (p).2)) (m:=(2*m+1)) ((QP.sub hq.2.2 hq.1).1.mono (by first|omega|decide)) ((QP.sub hq.2.2 hq.1).2.mono (by first|omega|decide)) h1) (QP.sub hq.2.1 hq.1) (QP.sub hq.2.2 hq.1) (by omega) (by omega) (hT.below (s.up hb))))<|oc (zI zD zSF (fun u0 W hb (h0:QNp (((q).1 - (p).1,(q).2 - (p).2).1*((r).1 - (p).1,(r).2 - (p).2).2 - ((q).1 - (p).1,(q).2 - (p).2).2*((r).1 - (p).1,(r).2 - (p).2).1) u0 W)=>zPV (QNp.rv h0 (QB.mono (((QP.sub hq.2.1 hq.1).1.mul (QP.sub hq.2.2 hq.1).2).sub ((QP.sub hq.2.1 hq.1).2.mul (QP.sub hq.2.2 hq.1).1)) (m':=8*m+5) (by omega))) (by omega) (by omega) (hT.below (s.up hb))))<|oc zG<|zE) fun a w2 s=> ?_
 refine zA rfl ?_
 refine wpIn_ret ?_
 exact StS.res1 s (t:=2) rfl iiz
theorem zHE {m:Nat} {W:World} {p q r:V2} {u v x:Value} (h1:(fPV m p).p u W) (h2:(fPV m q).p v W) (h3:(fPV m r).p x W) (hm:m≤159) (hm0:0<m) (hT:Tab W):Calls Tryz.prog 91 #[u,v,x] W (Ret W (fI (yM p q r)).toSF):=by
 refine z7 [(fPV m p).toSF,(fPV m q).toSF,(fPV m r).toSF] Tryz.func91 rfl (by kernel_rfl) ⟨h1,h2,h3,trivial⟩ fun a s=> ?_
 replace s:=s.renew [(0, .u (fPV m p)),(1, .u (fPV m q)),(2, .u (fPV m r))] (fmz ⟨.inr ⟨_,rfl, .head _⟩,fmz ⟨.inr ⟨_,rfl,mz1⟩,fmz ⟨.inr ⟨_,rfl,mz2⟩,fnz⟩⟩⟩)
 refine wpIn_seq ?_
 refine zB 0 [] hmix s (by kernel_rfl)
  zE fun a w1 s=> ?_
 refine yJ (CU.agg (fPV m p)) rfl s (by kernel_rfl) (fun v W h=>yP h) fun b3 a w s=> ?_
 refine yJ (CU.agg (fPV m q)) rfl s (by kernel_rfl) (fun v W h=>yP h) fun b4 a w s=> ?_
 refine yJ (CU.agg (fPV m r)) rfl s (by kernel_rfl) (fun v W h=>yP h) fun b5 a w s=> ?_
 refine yU (UF.eq (.int .i64 0)) rfl s (by kernel_rfl) iiz fun a w s=> ?_
 refine zA rfl ?_
 refine wpIn_seq ?_
 replace s:=s.drop [6]
 refine zB 6 ((7, .s ((fPV m p).toSF))::(8, .s ((fPV m q).toSF))::(9, .s ((fPV m r).toSF))::(10, .s ((fTG (fPV m p) (fPV m q) (fPV m r)).toSF))::(11, .s ((UF.eq (.int .i64 (yM p q r))).toSF))::(6, .u (UF.eq (.int .i64 (yM p q r)))):: []) hmix s (by kernel_rfl)
  (oc (zK (f:=fPV m p) 6 (by kernel_rfl) (hz:=zP _ _))<|oc (zK (f:=fPV m q) 6 (by kernel_rfl) (hz:=zP _ _))<|oc (zK (f:=fPV m r) 6 (by kernel_rfl) (hz:=zP _ _))<|oc (zDj (fun u v z W (hu:(fPV m p).p u W) (hv:(fPV m q).p v W) (hz:(fPV m r).p z W)=>zUo hu hv hz))<|oc (zI zD zSs (fun u0 W hb (h0:(fTG (fPV m p) (fPV m q) (fPV m r)).p u0 W)=>zPw h0 hm hm0 (hT.below (s.up hb))))<|oc zG<|zE) fun a w2 s=> ?_
 refine zA rfl ?_
 refine wpIn_ret ?_
 exact StS.res1 s (t:=6) rfl iiz
theorem zQi {m:Nat} {W:World} {p q r:Rat} {u v x:Value} (h1:RVp m p u W) (h2:RVp m q v W) (h3:RVp m r x W) (hm:m≤2000) (hm0:0<m) (hT:Tab W):Calls Tryz.prog 176 #[u,v,x] W (Ret W (fB (zLB p q r)).toSF):=by
 refine z7 [(fRV m p).toSF,(fRV m q).toSF,(fRV m r).toSF] Tryz.func176 rfl (by kernel_rfl) ⟨h1,h2,h3,trivial⟩ fun a s=> ?_
 replace s:=s.renew [(0, .u (fRV m p)),(1, .u (fRV m q)),(2, .u (fRV m r))] (fmz ⟨.inr ⟨_,rfl, .head _⟩,fmz ⟨.inr ⟨_,rfl,mz1⟩,fmz ⟨.inr ⟨_,rfl,mz2⟩,fnz⟩⟩⟩)
 refine wpIn_seq ?_
 refine zB 0 [] hmix s (by kernel_rfl)
  zE fun a w1 s=> ?_
 refine yJ (CU.agg (fRV m p)) rfl s (by kernel_rfl) (fun v W h=>jT h) fun b3 a w s=> ?_
 refine yJ (CU.agg (fRV m q)) rfl s (by kernel_rfl) (fun v W h=>jT h) fun b4 a w s=> ?_
 refine yJ (CU.agg (fRV m r)) rfl s (by kernel_rfl) (fun v W h=>jT h) fun b5 a w s=> ?_
 refine yU (UF.eq (.bool false)) rfl s (by kernel_rfl) iiz fun a w s=> ?_
 refine zA rfl ?_
 refine wpIn_seq ?_
 replace s:=s.drop [6]
 refine zB 10 ((7, .s ((fRV m p).toSF))::(8, .s ((fRV m q).toSF))::(9, .s ((UF.eq (.bool (qsg p q==0))).toSF))::(10, .s ((UF.eq (.bool (!(qsg p q==0)))).toSF))::(11, .s ((UF.eq (.bool (!(qsg p q==0)))).toSF))::(12, .s (SF.imp ((!(qsg p q==0))=false) ((fRV m p).toSF)))::(13, .s (SF.imp ((!(qsg p q==0))=false) ((fRV m r).toSF)))::(14, .s (SF.imp ((!(qsg p q==0))=false) ((UF.eq (.bool (qsg p r==0))).toSF)))::(15, .s ((UF.eq (.bool ((!(qsg p q==0))||(qsg p r==0)))).toSF))::(6, .u (UF.eq (.bool ((!(qsg p q==0))||(qsg p r==0))))):: []) hmix s (by kernel_rfl)
  (oc (zK (f:=fRV m p) 3 (by kernel_rfl) (hz:=qD _ _))<|oc (zK (f:=fRV m q) 3 (by kernel_rfl) (hz:=qD _ _))<|oc (zH zD zO3 (fun u0 u1 W hb (h0:RVp m p u0 W) (h1:RVp m q u1 W)=>zK2 h0 h1 hm hm0 (hT.below (s.up hb))))<|oc (zD6 (qsg p q==0) iiz (fun _=>rfl))<|oc zC<|oc (zF 11 (!(qsg p q==0)) (by kernel_rfl) iiz (fun e=>zR [] ((fRV m p).toSF) fnz (fun _ _ h _=>h) (by kernel_rfl) (zK (f:=fRV m p) 3 (by kernel_rfl) (hz:=qD _ _))) (fun e W h=>absurd h e))<|oc (zF 11 (!(qsg p q==0)) (by kernel_rfl) iiz (fun e=>zR [] ((fRV m r).toSF) fnz (fun _ _ h _=>h) (by kernel_rfl) (zK (f:=fRV m r) 3 (by kernel_rfl) (hz:=qD _ _))) (fun e W h=>absurd h e))<|oc (zF 11 (!(qsg p q==0)) (by kernel_rfl) iiz (fun e=>zR [(12,(fRV m p).toSF),(13,(fRV m r).toSF)] ((UF.eq (.bool (qsg p r==0))).toSF) (fmz ⟨fun v W h=>zJ (c:=(!(qsg p q==0))=false) (f:=(fRV m p).toSF) e h,fmz ⟨fun v W h=>zJ (c:=(!(qsg p q==0))=false) (f:=(fRV m r).toSF) e h,fnz⟩⟩) (fun _ _ h _=>h) (by kernel_rfl) (zH zD zO3 (fun u0 u1 W hb (h0:RVp m p u0 W) (h1:RVp m r u1 W)=>zK2 h0 h1 hm hm0 (hT.below (s.up hb))))) (fun e W h=>absurd h e))<|oc (yF (!(qsg p q==0)) iiz (fun e v W h=>zCk h e) (fun e v W h=>zBA (zJ e h) e))<|oc zG<|zE) fun a w2 s=> ?_
 refine zA rfl ?_
 refine wpIn_ret ?_
 exact StS.res1 s (t:=6) rfl iiz
theorem zJw {m:Nat} {W:World} {p q r:Rat} {u v x:Value} (h1:RVp m p u W) (h2:RVp m q v W) (h3:RVp m r x W) (hm:m≤2000) (hm0:0<m) (hT:Tab W):Calls Tryz.prog 155 #[u,v,x] W (Ret W (fB (zBQ p q r)).toSF):=by
 refine z7 [(fRV m p).toSF,(fRV m q).toSF,(fRV m r).toSF] Tryz.func155 rfl (by kernel_rfl) ⟨h1,h2,h3,trivial⟩ fun a s=> ?_
 replace s:=s.renew [(0, .u (fRV m p)),(1, .u (fRV m q)),(2, .u (fRV m r))] (fmz ⟨.inr ⟨_,rfl, .head _⟩,fmz ⟨.inr ⟨_,rfl,mz1⟩,fmz ⟨.inr ⟨_,rfl,mz2⟩,fnz⟩⟩⟩)
 refine wpIn_seq ?_
 refine zB 0 [] hmix s (by kernel_rfl)
  zE fun a w1 s=> ?_
 refine yJ (CU.agg (fRV m p)) rfl s (by kernel_rfl) (fun v W h=>jT h) fun b3 a w s=> ?_
 refine yJ (CU.agg (fRV m q)) rfl s (by kernel_rfl) (fun v W h=>jT h) fun b4 a w s=> ?_
 refine yJ (CU.agg (fRV m r)) rfl s (by kernel_rfl) (fun v W h=>jT h) fun b5 a w s=> ?_
 refine yU (UF.eq (.bool false)) rfl s (by kernel_rfl) iiz fun a w s=> ?_
 refine zA rfl ?_
 refine wpIn_seq ?_
 replace s:=s.drop [6]
 refine zB 15 ((7, .s ((fRV m p).toSF))::(8, .s ((fRV m r).toSF))::(9, .s ((UF.eq (.int .i64 (qsg p r))).toSF))::(10, .s ((fRV m r).toSF))::(11, .s ((fRV m q).toSF))::(12, .s ((UF.eq (.int .i64 (qsg r q))).toSF))::(13, .s ((UF.eq (.int .i64 (qsg p r*qsg r q))).toSF))::(14, .s ((UF.eq (.bool (decide (qsg p r*qsg r q≥0)))).toSF))::(15, .s ((UF.eq (.bool (decide (qsg p r*qsg r q≥0)))).toSF))::(16, .s (SF.imp ((decide (qsg p r*qsg r q≥0))=true) ((fRV m p).toSF)))::(17, .s (SF.imp ((decide (qsg p r*qsg r q≥0))=true) ((fRV m q).toSF)))::(18, .s (SF.imp ((decide (qsg p r*qsg r q≥0))=true) ((fRV m r).toSF)))::(19, .s (SF.imp ((decide (qsg p r*qsg r q≥0))=true) ((UF.eq (.bool (zLB p q r))).toSF)))::(20, .s ((UF.eq (.bool ((decide (qsg p r*qsg r q≥0))&&(zLB p q r)))).toSF))::(6, .u (UF.eq (.bool ((decide (qsg p r*qsg r q≥0))&&(zLB p q r))))):: []) hmix s (by kernel_rfl)
  (oc (zK (f:=fRV m p) 3 (by kernel_rfl) (hz:=qD _ _))<|oc (zK (f:=fRV m r) 3 (by kernel_rfl) (hz:=qD _ _))<|oc (zH zD zEd (fun u0 u1 W hb (h0:RVp m p u0 W) (h1:RVp m r u1 W)=>zD5 h0 h1 hm hm0 (hT.below (s.up hb))))<|oc (zK (f:=fRV m r) 3 (by kernel_rfl) (hz:=qD _ _))<|oc (zK (f:=fRV m q) 3 (by kernel_rfl) (hz:=qD _ _))<|oc (zH zD zEd (fun u0 u1 W hb (h0:RVp m r u0 W) (h1:RVp m q u1 W)=>zD5 h0 h1 hm hm0 (hT.below (s.up hb))))<|oc (zLI .i64 (qsg p r) (qsg r q) (qsg p r*qsg r q) iiz iiz (by rw [IntKind.wrap_i64];rcases zGU p r with h|h|h<;>rcases zGU r q with h'|h'|h'<;>rw [h,h']<;>rfl))<|oc (zQ .i64 (qsg p r*qsg r q) 0 (decide (qsg p r*qsg r q≥0)) iiz iiz rfl rfl)<|oc zC<|oc (zF 15 (decide (qsg p r*qsg r q≥0)) (by kernel_rfl) iiz (fun e=>zR [] ((fRV m p).toSF) fnz (fun _ _ h _=>h) (by kernel_rfl) (zK (f:=fRV m p) 3 (by kernel_rfl) (hz:=qD _ _))) (fun e W h=>absurd h e))<|oc (zF 15 (decide (qsg p r*qsg r q≥0)) (by kernel_rfl) iiz (fun e=>zR [] ((fRV m q).toSF) fnz (fun _ _ h _=>h) (by kernel_rfl) (zK (f:=fRV m q) 3 (by kernel_rfl) (hz:=qD _ _))) (fun e W h=>absurd h e))<|oc (zF 15 (decide (qsg p r*qsg r q≥0)) (by kernel_rfl) iiz (fun e=>zR [] ((fRV m r).toSF) fnz (fun _ _ h _=>h) (by kernel_rfl) (zK (f:=fRV m r) 3 (by kernel_rfl) (hz:=qD _ _))) (fun e W h=>absurd h e))<|oc (zF 15 (decide (qsg p r*qsg r q≥0)) (by kernel_rfl) iiz (fun e=>zR [(16,(fRV m p).toSF),(17,(fRV m q).toSF),(18,(fRV m r).toSF)] ((UF.eq (.bool (zLB p q r))).toSF) (fmz ⟨fun v W h=>zJ (c:=(decide (qsg p r*qsg r q≥0))=true) (f:=(fRV m p).toSF) e h,fmz ⟨fun v W h=>zJ (c:=(decide (qsg p r*qsg r q≥0))=true) (f:=(fRV m q).toSF) e h,fmz ⟨fun v W h=>zJ (c:=(decide (qsg p r*qsg r q≥0))=true) (f:=(fRV m r).toSF) e h,fnz⟩⟩⟩) (fun _ _ h _=>h) (by kernel_rfl) (jZ zD zSh (fun u0 u1 u2 W hb (h0:RVp m p u0 W) (h1:RVp m q u1 W) (h2:RVp m r u2 W)=>zQi h0 h1 h2 hm hm0 (hT.below (s.up hb))))) (fun e W h=>absurd h e))<|oc (yF (decide (qsg p r*qsg r q≥0)) iiz (fun e v W h=>jQ (zJ e h) e) (fun e v W h=>qY h e))<|oc zG<|zE) fun a w2 s=> ?_
 refine zA rfl ?_
 refine wpIn_ret ?_
 exact StS.res1 s (t:=6) rfl iiz
theorem zS9 {m:Nat} {W:World} {p q r:V2} {u v x:Value} (h1:(fPV m p).p u W) (h2:(fPV m q).p v W) (h3:(fPV m r).p x W) (hm:m≤159) (hm0:0<m) (hT:Tab W):Calls Tryz.prog 121 #[u,v,x] W (Ret W (fB (onB p q r)).toSF):=by
 refine z7 [(fPV m p).toSF,(fPV m q).toSF,(fPV m r).toSF] Tryz.func121 rfl (by kernel_rfl) ⟨h1,h2,h3,trivial⟩ fun a s=> ?_
 replace s:=s.renew [(0, .u (fPV m p)),(1, .u (fPV m q)),(2, .u (fPV m r))] (fmz ⟨.inr ⟨_,rfl, .head _⟩,fmz ⟨.inr ⟨_,rfl,mz1⟩,fmz ⟨.inr ⟨_,rfl,mz2⟩,fnz⟩⟩⟩)
 refine wpIn_seq ?_
 refine zB 0 [] hmix s (by kernel_rfl)
  zE fun a w1 s=> ?_
 refine yJ (CU.agg (fPV m p)) rfl s (by kernel_rfl) (fun v W h=>yP h) fun b3 a w s=> ?_
 refine yJ (CU.agg (fPV m q)) rfl s (by kernel_rfl) (fun v W h=>yP h) fun b4 a w s=> ?_
 refine yJ (CU.agg (fPV m r)) rfl s (by kernel_rfl) (fun v W h=>yP h) fun b5 a w s=> ?_
 refine yU (UF.eq (.bool false)) rfl s (by kernel_rfl) iiz fun a w s=> ?_
 refine zA rfl ?_
 refine wpIn_seq ?_
 replace s:=s.drop [6]
 refine zB 24 ((7, .s ((fPV m p).toSF))::(8, .s ((fPV m q).toSF))::(9, .s ((fPV m r).toSF))::(10, .s ((UF.eq (.int .i64 (yM p q r))).toSF))::(11, .s ((UF.eq (.bool (yM p q r==0))).toSF))::(12, .s ((UF.eq (.bool (yM p q r==0))).toSF))::(13, .s (SF.imp ((yM p q r==0)=true) (SF.ptr ((CU.agg (fPV m p)).cf.at 0))))::(14, .s (SF.imp ((yM p q r==0)=true) ((fRV m ((p).1)).toSF)))::(15, .s (SF.imp ((yM p q r==0)=true) (SF.ptr ((CU.agg (fPV m q)).cf.at 0))))::(16, .s (SF.imp ((yM p q r==0)=true) ((fRV m ((q).1)).toSF)))::(17, .s (SF.imp ((yM p q r==0)=true) (SF.ptr ((CU.agg (fPV m r)).cf.at 0))))::(18, .s (SF.imp ((yM p q r==0)=true) ((fRV m ((r).1)).toSF)))::(19, .s (SF.imp ((yM p q r==0)=true) ((UF.eq (.bool (zBQ ((p).1) ((q).1) ((r).1)))).toSF)))::(20, .s ((UF.eq (.bool ((yM p q r==0)&&(zBQ ((p).1) ((q).1) ((r).1))))).toSF))::(21, .s ((UF.eq (.bool ((yM p q r==0)&&(zBQ ((p).1) ((q).1) ((r).1))))).toSF))::(22, .s (SF.imp (((yM p q r==0)&&(zBQ ((p).1) ((q).1) ((r).1)))=true) (SF.ptr ((CU.agg (fPV m p)).cf.at 3))))::(23, .s (SF.imp (((yM p q r==0)&&(zBQ ((p).1) ((q).1) ((r).1)))=true) ((fRV m ((p).2)).toSF)))::(24, .s (SF.imp (((yM p q r==0)&&(zBQ ((p).1) ((q).1) ((r).1)))=true) (SF.ptr ((CU.agg (fPV m q)).cf.at 3))))::(25, .s (SF.imp (((yM p q r==0)&&(zBQ ((p).1) ((q).1) ((r).1)))=true) ((fRV m ((q).2)).toSF)))::(26, .s (SF.imp (((yM p q r==0)&&(zBQ ((p).1) ((q).1) ((r).1)))=true) (SF.ptr ((CU.agg (fPV m r)).cf.at 3))))::(27, .s (SF.imp (((yM p q r==0)&&(zBQ ((p).1) ((q).1) ((r).1)))=true) ((fRV m ((r).2)).toSF)))::(28, .s (SF.imp (((yM p q r==0)&&(zBQ ((p).1) ((q).1) ((r).1)))=true) ((UF.eq (.bool (zBQ ((p).2) ((q).2) ((r).2)))).toSF)))::(29, .s ((UF.eq (.bool (((yM p q r==0)&&(zBQ ((p).1) ((q).1) ((r).1)))&&(zBQ ((p).2) ((q).2) ((r).2))))).toSF))::(6, .u (UF.eq (.bool (((yM p q r==0)&&(zBQ ((p).1) ((q).1) ((r).1)))&&(zBQ ((p).2) ((q).2) ((r).2)))))):: []) hmix s (by kernel_rfl)
  (oc (zK (f:=fPV m p) 6 (by kernel_rfl) (hz:=zP _ _))<|oc (zK (f:=fPV m q) 6 (by kernel_rfl) (hz:=zP _ _))<|oc (zK (f:=fPV m r) 6 (by kernel_rfl) (hz:=zP _ _))<|oc (jZ zD zQG (fun u0 u1 u2 W hb (h0:(fPV m p).p u0 W) (h1:(fPV m q).p u1 W) (h2:(fPV m r).p u2 W)=>zHE h0 h1 h2 hm hm0 (hT.below (s.up hb))))<|oc (zQ .i64 (yM p q r) 0 (yM p q r==0) iiz iiz rfl rfl)<|oc zC<|oc (zF 12 (yM p q r==0) (by kernel_rfl) iiz (fun e=>zR [] (SF.ptr ((CU.agg (fPV m p)).cf.at 0)) fnz (fun _ _ h _=>h) (by kernel_rfl) (zN (C:=(CU.agg (fPV m p)).cf) 0 (by kernel_rfl))) (fun e W h=>absurd h e))<|oc (zF 12 (yM p q r==0) (by kernel_rfl) iiz (fun e=>zR [(13,SF.ptr ((CU.agg (fPV m p)).cf.at 0))] ((fRV m ((p).1)).toSF) (fmz ⟨fun v W h=>zJ (c:=(yM p q r==0)=true) (f:=SF.ptr ((CU.agg (fPV m p)).cf.at 0)) e h,fnz⟩) (fun _ _ h _=>h) (by kernel_rfl) (zX (C:=(CU.agg (fPV m p)).cf) (k:=0) 3 (by kernel_rfl) (h:=zFj))) (fun e W h=>absurd h e))<|oc (zF 12 (yM p q r==0) (by kernel_rfl) iiz (fun e=>zR [] (SF.ptr ((CU.agg (fPV m q)).cf.at 0)) fnz (fun _ _ h _=>h) (by kernel_rfl) (zN (C:=(CU.agg (fPV m q)).cf) 0 (by kernel_rfl))) (fun e W h=>absurd h e))<|oc (zF 12 (yM p q r==0) (by kernel_rfl) iiz (fun e=>zR [(15,SF.ptr ((CU.agg (fPV m q)).cf.at 0))] ((fRV m ((q).1)).toSF) (fmz ⟨fun v W h=>zJ (c:=(yM p q r==0)=true) (f:=SF.ptr ((CU.agg (fPV m q)).cf.at 0)) e h,fnz⟩) (fun _ _ h _=>h) (by kernel_rfl) (zX (C:=(CU.agg (fPV m q)).cf) (k:=0) 3 (by kernel_rfl) (h:=zFj))) (fun e W h=>absurd h e))<|oc (zF 12 (yM p q r==0) (by kernel_rfl) iiz (fun e=>zR [] (SF.ptr ((CU.agg (fPV m r)).cf.at 0)) fnz (fun _ _ h _=>h) (by kernel_rfl) (zN (C:=(CU.agg (fPV m r)).cf) 0 (by kernel_rfl))) (fun e W h=>absurd h e))<|oc (zF 12 (yM p q r==0) (by kernel_rfl) iiz (fun e=>zR [(17,SF.ptr ((CU.agg (fPV m r)).cf.at 0))] ((fRV m ((r).1)).toSF) (fmz ⟨fun v W h=>zJ (c:=(yM p q r==0)=true) (f:=SF.ptr ((CU.agg (fPV m r)).cf.at 0)) e h,fnz⟩) (fun _ _ h _=>h) (by kernel_rfl) (zX (C:=(CU.agg (fPV m r)).cf) (k:=0) 3 (by kernel_rfl) (h:=zFj))) (fun e W h=>absurd h e))<|oc (zF 12 (yM p q r==0) (by kernel_rfl) iiz (fun e=>zR [(14,(fRV m ((p).1)).toSF),(16,(fRV m ((q).1)).toSF),(18,(fRV m ((r).1)).toSF)] ((UF.eq (.bool (zBQ ((p).1) ((q).1) ((r).1)))).toSF) (fmz ⟨fun v W h=>zJ (c:=(yM p q r==0)=true) (f:=(fRV m ((p).1)).toSF) e h,fmz ⟨fun v W h=>zJ (c:=(yM p q r==0)=true) (f:=(fRV m ((q).1)).toSF) e h,fmz ⟨fun v W h=>zJ (c:=(yM p q r==0)=true) (f:=(fRV m ((r).1)).toSF) e h,fnz⟩⟩⟩) (fun _ _ h _=>h) (by kernel_rfl) (jZ zD zO7 (fun u0 u1 u2 W hb (h0:RVp m ((p).1) u0 W) (h1:RVp m ((q).1) u1 W) (h2:RVp m ((r).1) u2 W)=>zJw h0 h1 h2 (by omega) hm0 (hT.below (s.up hb))))) (fun e W h=>absurd h e))<|oc (yF (yM p q r==0) iiz (fun e v W h=>jQ (zJ e h) e) (fun e v W h=>qY h e))<|oc zC<|oc (zF 21 ((yM p q r==0)&&(zBQ ((p).1) ((q).1) ((r).1))) (by kernel_rfl) iiz (fun e=>zR [] (SF.ptr ((CU.agg (fPV m p)).cf.at 3)) fnz (fun _ _ h _=>h) (by kernel_rfl) (zN (C:=(CU.agg (fPV m p)).cf) 3 (by kernel_rfl))) (fun e W h=>absurd h e))<|oc (zF 21 ((yM p q r==0)&&(zBQ ((p).1) ((q).1) ((r).1))) (by kernel_rfl) iiz (fun e=>zR [(22,SF.ptr ((CU.agg (fPV m p)).cf.at 3))] ((fRV m ((p).2)).toSF) (fmz ⟨fun v W h=>zJ (c:=((yM p q r==0)&&(zBQ ((p).1) ((q).1) ((r).1)))=true) (f:=SF.ptr ((CU.agg (fPV m p)).cf.at 3)) e h,fnz⟩) (fun _ _ h _=>h) (by kernel_rfl) (zX (C:=(CU.agg (fPV m p)).cf) (k:=3) 3 (by kernel_rfl) (h:=zDM))) (fun e W h=>absurd h e))<|oc (zF 21 ((yM p q r==0)&&(zBQ ((p).1) ((q).1) ((r).1))) (by kernel_rfl) iiz (fun e=>zR [] (SF.ptr ((CU.agg (fPV m q)).cf.at 3)) fnz (fun _ _ h _=>h) (by kernel_rfl) (zN (C:=(CU.agg (fPV m q)).cf) 3 (by kernel_rfl))) (fun e W h=>absurd h e))<|oc (zF 21 ((yM p q r==0)&&(zBQ ((p).1) ((q).1) ((r).1))) (by kernel_rfl) iiz (fun e=>zR [(24,SF.ptr ((CU.agg (fPV m q)).cf.at 3))] ((fRV m ((q).2)).toSF) (fmz ⟨fun v W h=>zJ (c:=((yM p q r==0)&&(zBQ ((p).1) ((q).1) ((r).1)))=true) (f:=SF.ptr ((CU.agg (fPV m q)).cf.at 3)) e h,fnz⟩) (fun _ _ h _=>h) (by kernel_rfl) (zX (C:=(CU.agg (fPV m q)).cf) (k:=3) 3 (by kernel_rfl) (h:=zDM))) (fun e W h=>absurd h e))<|oc (zF 21 ((yM p q r==0)&&(zBQ ((p).1) ((q).1) ((r).1))) (by kernel_rfl) iiz (fun e=>zR [] (SF.ptr ((CU.agg (fPV m r)).cf.at 3)) fnz (fun _ _ h _=>h) (by kernel_rfl) (zN (C:=(CU.agg (fPV m r)).cf) 3 (by kernel_rfl))) (fun e W h=>absurd h e))<|oc (zF 21 ((yM p q r==0)&&(zBQ ((p).1) ((q).1) ((r).1))) (by kernel_rfl) iiz (fun e=>zR [(26,SF.ptr ((CU.agg (fPV m r)).cf.at 3))] ((fRV m ((r).2)).toSF) (fmz ⟨fun v W h=>zJ (c:=((yM p q r==0)&&(zBQ ((p).1) ((q).1) ((r).1)))=true) (f:=SF.ptr ((CU.agg (fPV m r)).cf.at 3)) e h,fnz⟩) (fun _ _ h _=>h) (by kernel_rfl) (zX (C:=(CU.agg (fPV m r)).cf) (k:=3) 3 (by kernel_rfl) (h:=zDM))) (fun e W h=>absurd h e))<|oc (zF 21 ((yM p q r==0)&&(zBQ ((p).1) ((q).1) ((r).1))) (by kernel_rfl) iiz (fun e=>zR [(23,(fRV m ((p).2)).toSF),(25,(fRV m ((q).2)).toSF),(27,(fRV m ((r).2)).toSF)] ((UF.eq (.bool (zBQ ((p).2) ((q).2) ((r).2)))).toSF) (fmz ⟨fun v W h=>zJ (c:=((yM p q r==0)&&(zBQ ((p).1) ((q).1) ((r).1)))=true) (f:=(fRV m ((p).2)).toSF) e h,fmz ⟨fun v W h=>zJ (c:=((yM p q r==0)&&(zBQ ((p).1) ((q).1) ((r).1)))=true) (f:=(fRV m ((q).2)).toSF) e h,fmz ⟨fun v W h=>zJ (c:=((yM p q r==0)&&(zBQ ((p).1) ((q).1) ((r).1)))=true) (f:=(fRV m ((r).2)).toSF) e h,fnz⟩⟩⟩) (fun _ _ h _=>h) (by kernel_rfl) (jZ zD zO7 (fun u0 u1 u2 W hb (h0:RVp m ((p).2) u0 W) (h1:RVp m ((q).2) u1 W) (h2:RVp m ((r).2) u2 W)=>zJw h0 h1 h2 (by omega) hm0 (hT.below (s.up hb))))) (fun e W h=>absurd h e))<|oc (yF ((yM p q r==0)&&(zBQ ((p).1) ((q).1) ((r).1))) iiz (fun e v W h=>jQ (zJ e h) e) (fun e v W h=>qY h e))<|oc zG<|zE) fun a w2 s=> ?_
 refine zA rfl ?_
 refine wpIn_ret ?_
 exact StS.res1 s (t:=6) rfl iiz
end Go.Proofs.Wd

namespace Go.Proofs.Wd
set_option maxRecDepth 100000
set_option maxHeartbeats 1000000
open Go.RowKit Lb
theorem zSI {m M:Nat} {a b p:V2} (ha:QB a.1 m∧QB a.2 m) (hb:QB b.1 m∧QB b.2 m) (hp:QB p.1 M∧QB p.2 M):QB (crs a b p) ((2*m+1+(M+m+1))+(2*m+1+(M+m+1))+1):=
 ((((hb.1.sub ha.1).mul (hp.2.sub ha.2)).sub ((hb.2.sub ha.2).mul (hp.1.sub ha.1))).mono (by omega))
theorem zAU {m M:Nat} {p q:V2} (hp:QB p.1 M∧QB p.2 M) (hq:QB q.1 m∧QB q.2 m):QB (p.1 - q.1) (M+m+1)∧QB (p.2 - q.2) (M+m+1):=⟨hp.1.sub hq.1,hp.2.sub hq.2⟩
theorem zPE {z:Rat}:z.num.sign<0↔z<0:=by
 have n0:z<0↔z.num<0:=by rw [Rat.lt_iff];simp
 rw [n0]
 rcases Int.lt_trichotomy z.num 0 with h|h|h
 ·rw [Int.sign_eq_neg_one_of_neg h];exact ⟨fun _=>h,fun _=>by decide⟩
 ·rw [h];decide
 ·rw [Int.sign_eq_one_of_pos h];exact ⟨fun h'=>absurd h' (by decide),fun h'=>by omega⟩
theorem zJP {m M:Nat} {W:World} {u v:Value} {p q:V2} (h1:(fPV M p).p u W) (h2:(fPV M q).p v W) (hp:QB p.1 m∧QB p.2 m) (hq:QB q.1 M∧QB q.2 M) (hmM:m≤M) (hm0:0<m) (hM:m+M≤990):Calls Tryz.prog 60 #[u,v] W (Ret W (fQN (p.1*q.2 - p.2*q.1)).toSF):=by
 refine z7 [(fPV M p).toSF,(fPV M q).toSF] Tryz.func60 rfl (by kernel_rfl) ⟨h1,h2,trivial⟩ fun a s=> ?_
 refine wpIn_seq ?_
 refine zB 0 [] hmix s (by kernel_rfl)
  zE fun a w1 s=> ?_
 refine yJ (CU.agg (fPV M p)) rfl s (by kernel_rfl) (fun v W h=>yP h) fun b2 a w s=> ?_
 refine yJ (CU.agg (fPV M q)) rfl s (by kernel_rfl) (fun v W h=>yP h) fun b3 a w s=> ?_
 refine zY (CU.len 3) (cs:=zR3) (by kernel_rfl) rfl s (by kernel_rfl) (fun W=>rfl) rfl fun b4 a w s=> ?_
 refine zA rfl ?_
 refine wpIn_seq ?_
 refine yL [] 13 ((5, .s (SF.ptr ((CU.agg (fPV M p)).cf.at 0)))::(6, .s ((fRV M ((p).1)).toSF))::(7, .s (SF.ptr ((CU.agg (fPV M q)).cf.at 3)))::(8, .s ((fRV M ((q).2)).toSF))::(9, .s (SF.row 3 (rvs M [(p).1,(q).2])))::(10, .s ((fQN ((p).1*(q).2)).toSF))::(11, .s (SF.ptr ((CU.agg (fPV M p)).cf.at 3)))::(12, .s ((fRV M ((p).2)).toSF))::(13, .s (SF.ptr ((CU.agg (fPV M q)).cf.at 0)))::(14, .s ((fRV M ((q).1)).toSF))::(15, .s (SF.row 3 (rvs M [(p).2,(q).1])))::(16, .s ((fQN ((p).2*(q).1)).toSF))::(17, .u (fQN (((p).1*(q).2) - ((p).2*(q).1)))):: []) hmix s (by kernel_rfl)
  (oc (zN (C:=(CU.agg (fPV M p)).cf) 0 (by kernel_rfl))<|oc (zX (C:=(CU.agg (fPV M p)).cf) (k:=0) 3 (by kernel_rfl) (h:=zFj))<|oc (zN (C:=(CU.agg (fPV M q)).cf) 3 (by kernel_rfl))<|oc (zX (C:=(CU.agg (fPV M q)).cf) (k:=3) 3 (by kernel_rfl) (h:=zDM))<|oc (yE (fun u v W (hu:RVp M ((p).1) u W) (hv:RVp M ((q).2) v W)=>zBI hu hv))<|oc (zI zD zHi (fun u0 W hb (h0:(SF.row 3 (rvs M [(p).1,(q).2])).p u0 W)=>zBz h0 (hp.1.mono hmM) hq.2 (by omega)))<|oc (zN (C:=(CU.agg (fPV M p)).cf) 3 (by kernel_rfl))<|oc (zX (C:=(CU.agg (fPV M p)).cf) (k:=3) 3 (by kernel_rfl) (h:=zDM))<|oc (zN (C:=(CU.agg (fPV M q)).cf) 0 (by kernel_rfl))<|oc (zX (C:=(CU.agg (fPV M q)).cf) (k:=0) 3 (by kernel_rfl) (h:=zFj))<|oc (yE (fun u v W (hu:RVp M ((p).2) u W) (hv:RVp M ((q).1) v W)=>zBI hu hv))<|oc (zI zD zHi (fun u0 W hb (h0:(SF.row 3 (rvs M [(p).2,(q).1])).p u0 W)=>zBz h0 (hp.2.mono hmM) hq.1 (by omega)))<|oc (zH zD zJv (fun u0 u1 W hb (h0:QNp ((p).1*(q).2) u0 W) (h1:QNp ((p).2*(q).1) u1 W)=>zFU (QNp.rv h0 (hp.1.mul hq.2)) (QNp.rv h1 (hp.2.mul hq.1)) (by omega) (by omega)))<|zE) fun Q' hQ a w2 s=> ?_
 refine zV (CU.agg (fQN (((p).1*(q).2) - ((p).2*(q).1)))) ((fQN (((p).1*(q).2) - ((p).2*(q).1))).toSF) rfl s (by kernel_rfl) rfl rfl rfl iiz iiz yK fun a w s=> ?_
 refine zA rfl (hQ _ _ ?_)
 refine wpIn_ret ?_
 exact StS.resC s (CU.agg (fQN (p.1*q.2 - p.2*q.1))) rfl (by kernel_rfl) rfl rfl (qX _) (fun cs W h=>h)
theorem QB.inv {q:Rat} {m:Nat} (h:QB q m):QB q⁻¹ m:=by
 by_cases e:q=0
 ·subst e
  rw [Rat.inv_zero];exact h
 ·have hn:q.num≠0:=fun h0=>e (Rat.num_eq_zero.1 h0)
  refine QB.ratio h.pos (X:=(q.den:Int)) (D:=q.num) ?_ hn (qP h.2) h.1
  have h1:(q.num:Rat)=q*((q.den:Nat):Rat):=zE3 q
  rw [h1, ←Rat.mul_assoc,Rat.inv_mul_cancel q e,Rat.one_mul]
  rfl
theorem QB.div {p q:Rat} {m n:Nat} (h:QB p m) (h':QB q n):QB (p / q) (m+n):=by
 rw [Rat.div_def]
 exact h.mul h'.inv
end Go.Proofs.Wd

namespace Go.Proofs.Wd
set_option maxRecDepth 100000
set_option maxHeartbeats 1000000
open Go.RowKit Lb
def PRp (u v:UF) (x:Value) (w:World):Prop:= ∃a b:List Value,x= .agg (a++b).toArray∧(CU.agg u).p a w∧(CU.agg v).p b w
def fPR (u v:UF):UF:= .mk' (PRp u v) fun _ _ _ ⟨a,b,e,h1,h2⟩ k=>⟨a,b,e,(CU.agg u).us _ _ _ h1 k,(CU.agg v).us _ _ _ h2 k⟩
section
variable {f g f' g':UF}
theorem zBU {cs:List Value} {W:World} (h:(CU.agg (fPR (fPT f g) (fPT f' g'))).p cs W): ∃a b:List Value,cs=a++b∧a.length=6∧b.length=6∧(CU.agg (fPT f g)).p a W∧(CU.agg (fPT f' g')).p b W:=by
 obtain ⟨a,b,e,h1,h2⟩:=h
 have:=congrArg Array.toList (jF e)
 have this:cs=a++b:=this
 exact ⟨a,b,this,(zDf _ _ a W h1).1,(zDf _ _ b W h2).1,h1,h2⟩
theorem zQf:CU.ok 12 (CU.agg (fPR (fPT f g) (fPT f' g'))):=fun cs W h=>by
 obtain ⟨a,b,rfl,l1,l2,h1,h2⟩:=zBU h
 have o1:=zDf _ _ a W h1;have o2:=zDf _ _ b W h2
 refine ⟨by simp [l1,l2],by rw [List.all_append,o1.2.1,o2.2.1];rfl,fun u hu=> ?_⟩
 rcases List.mem_append.1 hu with hu|hu
 ·exact o1.2.2 u hu
 ·exact o2.2.2 u hu
theorem zRF: ∀cs:List Value, ∀W,(fPR (fPT f g) (fPT f' g')).p (.agg cs.toArray) W→cs.length=12:=fun cs W h=>(zQf cs W h).1
theorem zRG {v:Value} {W:World} (h:(fPR (fPT f g) (fPT f' g')).p v W):(CU.agg (fPR (fPT f g) (fPT f' g'))).p v.cells.toList W∧v.cells.toList.all yG=true:=by
 obtain ⟨a,b,rfl,h1⟩:=id h
 exact ⟨h,(zQf _ W h).2.1⟩
theorem zIV (v:Value) (W:World) (h:(fPR (fPT f g) (fPT f' g')).p v W): ∃vs:List Value,v= .agg vs.toArray∧vs.length=12∧(∀u,u∈vs→u.oneCell'=true)∧vs.all yG=true∧(CU.agg (fPR (fPT f g) (fPT f' g'))).p vs W:=by
 obtain ⟨a,b,rfl,h1⟩:=id h
 have:=zQf _ W h
 exact ⟨_,rfl,this.1,this.2.2,this.2.1,h⟩
theorem zIX (cs:List Value) (W:World) (h:(CU.agg (fPR (fPT f g) (fPT f' g'))).p cs W):0+6≤cs.length∧(fPT f g).p (.agg ((cs.drop 0).take 6).toArray) W:=by
 obtain ⟨a,b,rfl,l1,l2,h1,_⟩:=zBU h
 refine ⟨by simp [l1,l2], ?_⟩
 rw [List.drop_zero,List.take_append_of_le_length (by omega),List.take_of_length_le (by omega)]
 exact h1
theorem zIW (cs:List Value) (W:World) (h:(CU.agg (fPR (fPT f g) (fPT f' g'))).p cs W):6+6≤cs.length∧(fPT f' g').p (.agg ((cs.drop 6).take 6).toArray) W:=by
 obtain ⟨a,b,rfl,l1,l2,_,h2⟩:=zBU h
 refine ⟨by simp [l1,l2], ?_⟩
 rw [List.drop_append_of_le_length (by omega),List.drop_of_length_le (by omega),List.nil_append,List.take_of_length_le (by omega)]
 exact h2
theorem zQe (cs:List Value) (W:World) (h:(CU.agg (fPR (fPT f g) (fPT f' g'))).p cs W):3+3≤cs.length∧g.p (.agg ((cs.drop 3).take 3).toArray) W:=by
 obtain ⟨a,b,rfl,l1,l2,h1,_⟩:=zBU h
 refine ⟨by simp [l1,l2], ?_⟩
 have:=(zDM a W h1).2
 rwa [List.drop_append_of_le_length (by omega),List.take_append_of_le_length (by simp;omega)]
theorem zQd (cs:List Value) (W:World) (h:(CU.agg (fPR (fPT f g) (fPT f' g'))).p cs W):9+3≤cs.length∧g'.p (.agg ((cs.drop 9).take 3).toArray) W:=by
 obtain ⟨a,b,rfl,l1,l2,_,h2⟩:=zBU h
 refine ⟨by simp [l1,l2], ?_⟩
 have:=(zDM b W h2).2
 rwa [show 9=a.length+3 by omega,List.drop_append,List.drop_of_length_le (by omega),List.nil_append,Nat.add_sub_cancel_left]
end
section
variable {F:Fence} {m:Nat} {P:Program} {u w0:World} {ops:Array Oper} {G:Nat→SF} {d:Tmp} {ty:TypeId} {pos:String} {aft:Array Edge}
variable {l:Value} {x y:Operand} {t:TypeId} {z:Nat} {Cs:List CU} {i:Nat} {C:CU}
theorem zDh (hz:jJ P t=some z) (hi:Cs[i]?=some C) (hl:(SF.row z Cs).p l u) (hx: ∀v W,(fct G x).p v W→v=l) (hy: ∀v W,(fct G y).p v W→v= .int .i64 (i:Int)) (hd: ∀v W,(fOp u C).p v W→(G d).p v W:=by exact fun _ _ h=>h):qK F m P w0 ops G ⟨some d, .indexAddr t x y,ty,pos,aft,none⟩:=
 qQ (fun _ e=>by cases e) (fun _ e=>by cases e) fun b W hb hh=>by
  have e1:=hx _ _ (hh x (by simp [Op.operands]))
  have e2:=hy _ _ (hh y (by simp [Op.operands]))
  obtain ⟨A,c,rfl,h2,h3,h4,h5⟩:=hl
  obtain ⟨b',o,cs,rfl,h6,h7⟩:=h5 i C hi
  refine ⟨.pointer (some ⟨b',o+i*z,none⟩), ?_,hd _ _ ⟨b',o+i*z,cs,rfl,h7,h6⟩⟩
  simp [execOp,e1,e2,zFr hz (List.getElem?_eq_some_iff.1 hi).1]
theorem zEs (hu:Below u.heap.size u w0) (f:UF) (k:Nat) (hk:jL P t=some k) (hx: ∀v W,(fct G x).p v W→(fOp u C).p v W) (h: ∀cs W,C.p cs W→0+k≤cs.length∧f.p (.agg ((cs.drop 0).take k).toArray) W) (hd: ∀v W,f.p v W→(G d).p v W:=by exact fun _ _ h=>h):qK F m P w0 ops G ⟨some d, .load t x,ty,pos,aft,none⟩:=
 qQ (fun _ e=>by cases e) (fun _ e=>by cases e) fun b W hb hh=>by
  have hb:=hu.trans (hb.mono hu.size)
  obtain ⟨a,q,cs,e,h2,h3⟩:=hx _ _ (hh x (by simp [Op.operands]))
  obtain ⟨h4,h5⟩:=h cs W (C.us _ _ _ h2 (zU hb))
  rw [List.drop_zero] at h5
  exact ⟨_,by simp [execOp,Instr.loadAt,e,Instr.sureAddr,zAa hk (h3.below hb) (by omega)],hd _ _ h5⟩
end
section
variable {S:Nat→Prop} {w0:World} {K:List (Nat×KF)} {B:List Bx} {n:Nat} {ds:List Deferred} {a:Act} {w:World}
theorem StS.own (h:St w0 K B n ds a w) {c:Nat} {y:Bx} (hB:zFh B c=some y) (hro:y.r=false):w0.heap.size≤y.b:=by
 obtain ⟨hy,_⟩:=zAj hB
 obtain ⟨_,_,h2,_⟩:=h.bx.mem y hy
 rcases h2 with e|e|e
 ·rw [hro] at e;cases e
 ·exact e
 ·exact e.elim
theorem zJj {wb:World} (h:Below wb.heap.size wb w) {b:Nat} (hb:wb.heap.size≤b) (vs:Array Value):Gr (GW wb) (w.setRow b vs):=zE9 (zD1 h hb)
abbrev GB (wb:World) (b:Nat) (o:Obj):World→Prop:=fun W=>Below wb.heap.size wb W∧W.heap[b]?=some o
theorem zOc {wb:World} {b:Nat} {o:Obj} (h:Below wb.heap.size wb w) (ho:w.heap[b]?=some o):Gr (GB wb b o) w:=fun _ hb=>⟨h.trans (hb.mono h.size),(hb.block b (Array.getElem?_eq_some_iff.1 ho).1).trans ho⟩
theorem zRU {wb:World} {b:Nat} {o:Obj} (h:Below wb.heap.size wb w) (ho:w.heap[b]?=some o) {c:Nat} (hc:wb.heap.size≤c) (hne:b≠c) (vs:Array Value):Gr (GB wb b o) (w.setRow c vs):=zOc (zD1 h hc) ((setRow_other w c b vs hne).trans ho)
theorem zQD {P:Program} {wb:World} {b kk:Nat} {cs:List Value} {te t:TypeId} {ops:Array Oper} {G:Nat→SF} {d:Tmp} {ty:TypeId} {pos:String} {aft:Array Edge} {x:Operand} (hsz:jL P t=some kk) (hl:cs.length=kk) (hx: ∀v W,(fct G x).p v W→v= .pointer (some ⟨b,0,none⟩)):FdC P (GB wb b (.cells cs.toArray te (0,0))) w ops G ⟨some d, .load t x,ty,pos,aft,none⟩:=by
 intro bb W _ hr
 have e1:bb.eval x= .pointer (some ⟨b,0,none⟩):=hx _ _ (qB (fun t ht=>hr t (by unfold looks;simpa using ht)) (x:=x) (by simp [Op.operands]))
 refine ⟨.agg cs.toArray, .inl ⟨rfl,fun W' hW'=> ?_⟩,fun w=>rfl⟩
 simp [execOp,Instr.loadAt,e1,Instr.sureAddr,zEi hsz hl hW'.2]
end
theorem zKM (m:Nat) (W:World):RVp m 0 (.agg #[.bool false, .slice none 0 0, .slice none 0 0]) W:=⟨iv false [],0,⟨_,_,_,rfl,⟨false,none,0,0, [],rfl,Rd.nil_ W,zBu,Nat.zero_le _,rfl⟩,⟨none,0,0, [],rfl,Rd.nil_ W,zBu,Nat.zero_le _,rfl⟩⟩,Rat.mkRat_zero _⟩
abbrev ptZ:List Value:= [.bool false, .slice none 0 0, .slice none 0 0, .bool false, .slice none 0 0, .slice none 0 0]
theorem zIU (cs:List Value) (W:World) (h:(CU.is ptZ).p cs W):0+6≤cs.length∧(UF.eq (.agg (ptZ).toArray)).p (.agg ((cs.drop 0).take 6).toArray) W:=by
 obtain rfl:cs=ptZ:=h
 exact ⟨by decide,rfl⟩
theorem zDL (m:Nat) (W:World):(CU.agg (fPV m (0,0))).p ptZ W:=⟨false,none,0,0,none,0,0,false,none,0,0,none,0,0,rfl,zKM m W,zKM m W⟩
def nE (ps:List V2):Nat:=if 2≤ps.length then ps.length else 0
theorem zSG {m:Nat} {W:World} {l u:Value} {ps:List V2} {k:Nat} (hl:(SF.row 6 (pvs m ps)).p l W) (hu:u= .int .i64 ((k:Nat):Int)) (hk:k<ps.length) (hn:ps.length≤1000000) (h2:2≤ps.length):Calls Tryz.prog 154 #[l,u] W (Ret W (zB7 (fPV m (at_ ps k)) (fPV m (at_ ps ((k+1) % ps.length))) (fB true)).toSF):=by
 have hk1:(k+1) % ps.length<ps.length:=Nat.mod_lt _ (by omega)
 refine z7 [(UF.eq l).toSF,(UF.eq (.int .i64 ((k:Nat):Int))).toSF] Tryz.func154 rfl (by kernel_rfl) ⟨rfl,hu,trivial⟩ fun a s=> ?_
 replace s:=s.renew [(0, .u (UF.eq l)),(1, .u (UF.eq (.int .i64 ((k:Nat):Int))))] (fmz ⟨.inr ⟨_,rfl, .head _⟩,fmz ⟨.inr ⟨_,rfl,mz1⟩,fnz⟩⟩)
 refine wpIn_seq ?_
 refine zB 0 [] hmix s (by kernel_rfl)
  zE fun a w1 s=> ?_
 refine zY (CU.agg (fPV m (((0:Rat),(0:Rat)):V2))) (cs:=ptZ) (by kernel_rfl) rfl s (by kernel_rfl) (fun W=>zDL m W) rfl fun b4 a w s=> ?_
 refine zY (CU.agg (fPV m (((0:Rat),(0:Rat)):V2))) (cs:=ptZ) (by kernel_rfl) rfl s (by kernel_rfl) (fun W=>zDL m W) rfl fun b5 a w s=> ?_
 refine yU (UF.eq (.bool false)) rfl s (by kernel_rfl) iiz fun a w s=> ?_
 refine zA rfl ?_
 refine wpIn_seq ?_
 refine wpIn_seq ?_
 refine zB 13 ((7, .s ((UF.eq l).toSF))::(8, .s ((UF.eq (.int .i64 (((pvs m ps).length:Nat):Int))).toSF))::(9, .s ((UF.eq (.bool false)).toSF))::(10, .s ((UF.eq (.bool false)).toSF))::(11, .s ((UF.eq (.int .i64 ((k:Nat):Int))).toSF))::(12, .s ((UF.eq (.bool false)).toSF))::(13, .s ((UF.eq (.bool false)).toSF))::(14, .s ((UF.eq (.bool false)).toSF))::(15, .s ((UF.eq (.int .i64 ((k:Nat):Int))).toSF))::(16, .s ((UF.eq l).toSF))::(17, .s ((UF.eq (.int .i64 (((pvs m ps).length:Nat):Int))).toSF))::(18, .s ((UF.eq (.bool false)).toSF))::(19, .u (UF.eq (.bool false))):: []) hmix s (by kernel_rfl)
  (oc zC<|oc (y6 (z:=6) (Cs:=pvs m ps) (by kernel_rfl) (fun v W hb h=>(yW hl h (s.up hb))) (fun _=>rfl))<|oc (zQ .i64 (((pvs m ps).length:Nat):Int) 2 false iiz iiz (by first|(simp;omega)|simp) rfl)<|oc zC<|oc (zF 10 false (by kernel_rfl) iiz (fun _=>zC) arf)<|oc (zF 10 false (by kernel_rfl) iiz (fun _=>zQ .i64 ((k:Nat):Int) 0 false iiz iiz (by first|(simp;omega)|simp) rfl) arf)<|oc (yF false iiz (fun e=>by cases e) (fun _ _ _ h=>h))<|oc zC<|oc (zF 14 false (by kernel_rfl) iiz (fun _=>zC) arf)<|oc (zF 14 false (by kernel_rfl) iiz (fun _=>zC) arf)<|oc (zF 14 false (by kernel_rfl) iiz (fun _=>y6 (z:=6) (Cs:=pvs m ps) (by kernel_rfl) (fun v W hb h=>(yW hl h (s.up hb))) (fun _=>rfl)) arf)<|oc (zF 14 false (by kernel_rfl) iiz (fun _=>zQ .i64 ((k:Nat):Int) (((pvs m ps).length:Nat):Int) false iiz iiz (by first|(simp;omega)|simp) rfl) arf)<|oc (yF false iiz (fun e=>by cases e) (fun _ _ _ h=>h))<|zE) fun a w2 s=> ?_
 refine zA rfl ?_
 refine StS.cond s false iiz (fun e=>by cases e) (fun e=> ?_)
 refine wpIn_skip ?_
 refine wpIn_seq ?_
 have hwb:=s.below
 replace s:=s.drop [6]
 refine zDH (GW W) hmix s fun w3 _ s=> ?_
 have hwb:=s.below
 refine zA4 [4,5,6,7,8,9,10,11] [0,1,2,3,4,5,6,7,8,9,10,11] ((22, .u (UF.eq l))::(23, .u (UF.eq (.int .i64 ((k:Nat):Int))))::(24, .u (fOp W (CU.agg (fPV m (at_ ps k)))))::(25, .u (fPV m (at_ ps k)))::(26, .u (UF.eq l))::(27, .u (UF.eq (.int .i64 ((k:Nat):Int))))::(28, .u (UF.eq (.int .i64 ((k+1:Nat):Int))))::(29, .u (UF.eq l))::(30, .u (UF.eq (.int .i64 (((pvs m ps).length:Nat):Int))))::(31, .u (UF.eq (.int .i64 (((k+1) % ps.length:Nat):Int))))::(32, .u (fOp W (CU.agg (fPV m (at_ ps ((k+1) % ps.length))))))::(33, .u (fPV m (at_ ps ((k+1) % ps.length)))):: []) (zE9 hwb) s (by kernel_rfl)
  (oc zC<|oc zC<|oc (zDh (z:=6) (Cs:=pvs m ps) (i:=k) (C:=CU.agg (fPV m (at_ ps k))) (by kernel_rfl) (jD hk) hl iiz iiz)<|oc (zEs hwb (fPV m (at_ ps k)) 6 (by kernel_rfl) iiz zBT)<|oc zC<|oc zC<|oc (y7 .i64 ((k:Nat):Int) 1 ((k+1:Nat):Int) iiz iiz (wrap64 _ _ (by omega) (by omega)))<|oc zC<|oc (y6 (z:=6) (Cs:=pvs m ps) (by kernel_rfl) (fun v W hb h=>by rw [show _=l from h];exact (SF.row 6 (pvs m ps)).st _ _ _ hl (s.up hb)) (fun _=>rfl))<|oc (zCU .i64 ((k+1:Nat):Int) (((pvs m ps).length:Nat):Int) (((k+1) % ps.length:Nat):Int) iiz iiz (by simp only [List.length_map];omega) (by simp only [List.length_map];rw [Int.tmod_eq_emod_of_nonneg (by omega)];rfl))<|oc (zDh (z:=6) (Cs:=pvs m ps) (i:=((k+1) % ps.length)) (C:=CU.agg (fPV m (at_ ps ((k+1) % ps.length)))) (by kernel_rfl) (jD hk1) hl iiz iiz)<|oc (zEs hwb (fPV m (at_ ps ((k+1) % ps.length))) 6 (by kernel_rfl) iiz zBT)<|zE)
  (qO rfl (zC3.c zCu hwb) (qO rfl (zC3.c zCu hwb) (qO rfl (zC3.c (zMh (x:= .tmp 27) (y:= .const (.int .i64 1)) .i64 ((k:Nat):Int) 1 iiz iiz) hwb) (qO rfl (zC3.c zCu hwb) (qO rfl (zC3.c (zO0 (x:= .tmp 29) (z:=6) (Cs:=pvs m ps) (by kernel_rfl) (fun v W hb h=>by rw [show _=l from h];exact (SF.row 6 (pvs m ps)).st _ _ _ hl hb)) hwb) (qO rfl (zC3.c (zMg (x:= .tmp 28) (y:= .tmp 30) .i64 ((k+1:Nat):Int) (((pvs m ps).length:Nat):Int) iiz iiz (by simp only [List.length_map];omega)) hwb) (qO rfl (zC3.c (zHf (x:= .tmp 26) (y:= .tmp 31) (z:=6) (Cs:=pvs m ps) (i:=((k+1) % ps.length)) (C:=CU.agg (fPV m (at_ ps ((k+1) % ps.length)))) (by kernel_rfl) (jD hk1) hl iiz iiz) hwb) (qO rfl (zC3.c (zJp (x:= .tmp 32) (fPV m (at_ ps ((k+1) % ps.length))) 6 (by kernel_rfl) iiz zBT) hwb) zA7)))))))) fun a w4 hbw s hr=> ?_
 replace hwb:=hwb.trans (hbw.mono hwb.size)
 refine zBi (i:=12) (c:=4) (CU.agg (fPV m (at_ ps k))) ((fPV m (at_ ps k)).toSF) s rfl (by kernel_rfl) (by kernel_rfl) rfl rfl rfl (zP _ _) iiz yR (fun vs _=>zJj hwb (s.own (c:=4) rfl rfl) _) fun w5 hg _ s=> ?_
 replace hwb:=hg _ (Below.refl _ _)
 refine zBi (i:=13) (c:=5) (CU.agg (fPV m (at_ ps ((k+1) % ps.length)))) ((fPV m (at_ ps ((k+1) % ps.length))).toSF) s rfl (by kernel_rfl) (by kernel_rfl) rfl rfl rfl (zP _ _) iiz yR (fun vs _=>zJj hwb (s.own (c:=5) rfl rfl) _) fun w6 hg _ s=> ?_
 replace hwb:=hg _ (Below.refl _ _)
 refine zA4 [] [14] ((6, .u (UF.eq (.bool true))):: []) (zE9 hwb) s (by kernel_rfl) (zEu zG<|zE) zA7 fun a w7 hbw s hr=> ?_
 refine zCE (by kernel_rfl) ?_
 refine wpIn_ret ?_
 exact StS.resCCT s (CU.agg (fPV m (at_ ps k))) (CU.agg (fPV m (at_ ps ((k+1) % ps.length)))) rfl (by kernel_rfl) (by kernel_rfl) rfl rfl (zP _ _) rfl rfl (zP _ _) (fun cs cs' v W h1 h2 h3=>⟨_,_,_,rfl,h1,h2,h3⟩)
theorem zQO {m:Nat} {W:World} {l u:Value} {ps:List V2} {k:Nat} (hl:(SF.row 6 (pvs m ps)).p l W) (hu:u= .int .i64 ((k:Nat):Int)) (hk:k<ps.length) (hn:ps.length≤1000000) (h2:ps.length<2):Calls Tryz.prog 154 #[l,u] W (Ret W (zB7 (fPV m (((0:Rat),(0:Rat)):V2)) (fPV m (((0:Rat),(0:Rat)):V2)) (fB false)).toSF):=by
 refine z7 [(UF.eq l).toSF,(UF.eq (.int .i64 ((k:Nat):Int))).toSF] Tryz.func154 rfl (by kernel_rfl) ⟨rfl,hu,trivial⟩ fun a s=> ?_
 replace s:=s.renew [(0, .u (UF.eq l)),(1, .u (UF.eq (.int .i64 ((k:Nat):Int))))] (fmz ⟨.inr ⟨_,rfl, .head _⟩,fmz ⟨.inr ⟨_,rfl,mz1⟩,fnz⟩⟩)
 refine wpIn_seq ?_
 refine zB 0 [] hmix s (by kernel_rfl)
  zE fun a w1 s=> ?_
 refine zY (CU.is ptZ) (cs:=ptZ) (by kernel_rfl) rfl s (by kernel_rfl) (fun W=>rfl) rfl fun b4 a w s=> ?_
 refine zY (CU.is ptZ) (cs:=ptZ) (by kernel_rfl) rfl s (by kernel_rfl) (fun W=>rfl) rfl fun b5 a w s=> ?_
 refine yU (UF.eq (.bool false)) rfl s (by kernel_rfl) iiz fun a w s=> ?_
 refine zA rfl ?_
 refine wpIn_seq ?_
 refine wpIn_seq ?_
 refine zB 13 ((7, .s ((UF.eq l).toSF))::(8, .s ((UF.eq (.int .i64 (((pvs m ps).length:Nat):Int))).toSF))::(9, .s ((UF.eq (.bool true)).toSF))::(10, .s ((UF.eq (.bool true)).toSF))::(13, .s ((UF.eq (.bool true)).toSF))::(14, .s ((UF.eq (.bool true)).toSF))::(19, .u (UF.eq (.bool true))):: []) hmix s (by kernel_rfl)
  (oc zC<|oc (y6 (z:=6) (Cs:=pvs m ps) (by kernel_rfl) (fun v W hb h=>(yW hl h (s.up hb))) (fun _=>rfl))<|oc (zQ .i64 (((pvs m ps).length:Nat):Int) 2 true iiz iiz (by first|(simp;omega)|simp) rfl)<|oc zC<|oc (zF 10 true (by kernel_rfl) iiz (fun e=>by cases e) (fun _ _=>trivial))<|oc (zF 10 true (by kernel_rfl) iiz (fun e=>by cases e) (fun _ _=>trivial))<|oc (yF true iiz (fun _ _ _ h=>h) (fun e=>by cases e))<|oc zC<|oc (zF 14 true (by kernel_rfl) iiz (fun e=>by cases e) (fun _ _=>trivial))<|oc (zF 14 true (by kernel_rfl) iiz (fun e=>by cases e) (fun _ _=>trivial))<|oc (zF 14 true (by kernel_rfl) iiz (fun e=>by cases e) (fun _ _=>trivial))<|oc (zF 14 true (by kernel_rfl) iiz (fun e=>by cases e) (fun _ _=>trivial))<|oc (yF true iiz (fun _ _ _ h=>h) (fun e=>by cases e))<|zE) fun a w2 s=> ?_
 refine zA rfl ?_
 refine StS.cond s true iiz (fun e=> ?_) (fun e=>by cases e)
 refine wpIn_seq ?_
 replace s:=s.drop [6]
 have ho4:=s.own (c:=4) rfl rfl;have ho5:=s.own (c:=5) rfl rfl
 have hne:b5≠b4:=by obtain ⟨⟨_,_,_,_,_,_,g⟩,_⟩:=s.bx;rcases g _ (.head _) with g|⟨g,_⟩;exact Ne.symm g;cases g
 have h5:w2.heap[b5]?=some (.cells (ptZ).toArray 30 (0,0)):=by obtain ⟨⟨cs,_,_,g3,g4,_⟩,_⟩:=s.bx;obtain rfl:cs=ptZ:=g4;exact g3
 refine zDH (GB W b5 (.cells (ptZ).toArray 30 (0,0))) hmix s fun w3 hd s=> ?_
 have hwb:=s.below
 replace h5:=(hd.block b5 (Array.getElem?_eq_some_iff.1 h5).1).trans h5
 refine zA4 [1] [0,1] ((20, .u (UF.eq (.agg (ptZ).toArray)))::(21, .u (UF.eq (.agg (ptZ).toArray))):: []) (zOc hwb h5) s (by kernel_rfl)
  (oc (zAh (C:=(CU.is ptZ).cf) 6 (by kernel_rfl) (fun _ _ h=>h.2) zIU)<|oc (zAh (C:=(CU.is ptZ).cf) 6 (by kernel_rfl) (fun _ _ h=>h.2) zIU)<|zE)
  (qO rfl (zQD (x:= .tmp 5) (kk:=6) (by kernel_rfl) rfl (fun _ _ h=>h.1)) zA7) fun a w4 hbw s hr=> ?_
 replace hwb:=hwb.trans (hbw.mono hwb.size)
 replace h5:=(hbw.block b5 (Array.getElem?_eq_some_iff.1 h5).1).trans h5
 refine zBi (i:=2) (c:=4) (CU.is ptZ) ((UF.eq (.agg (ptZ).toArray)).toSF) s rfl (by kernel_rfl) (by kernel_rfl) rfl rfl rfl (fun cs W h=>by rw [show cs=ptZ from h]) iiz (fun v W h=>⟨ptZ,h,rfl,by decide,rfl,rfl⟩) (fun vs _=>zRU hwb h5 ho4 hne _) fun w5 hg hk9 s=> ?_
 replace hwb:=(hg _ (Below.refl _ _)).1
 replace h5:=(hg _ (Below.refl _ _)).2
 refine zBi (i:=3) (c:=5) (CU.is ptZ) ((UF.eq (.agg (ptZ).toArray)).toSF) s rfl (by kernel_rfl) (by kernel_rfl) rfl rfl rfl (fun cs W h=>by rw [show cs=ptZ from h]) iiz (fun v W h=>⟨ptZ,h,rfl,by decide,rfl,rfl⟩) (fun vs hv=>zOc (zD1 hwb ho5) (by rw [jF hv];exact setRow_heap _ b5 _ _ _ _ h5)) fun w6 hg hk9 s=> ?_
 replace hwb:=(hg _ (Below.refl _ _)).1
 replace h5:=(hg _ (Below.refl _ _)).2
 refine zA4 [] [4] ((6, .u (UF.eq (.bool false))):: []) (zOc hwb h5) s (by kernel_rfl) (zEu zG<|zE) zA7 fun a w7 hbw s hr=> ?_
 refine zCE (by kernel_rfl) ?_
 refine wpIn_ret ?_
 exact StS.resCCT s (CU.is ptZ) (CU.is ptZ) rfl (by kernel_rfl) (by kernel_rfl) rfl rfl (fun cs W h=>by rw [show cs=ptZ from h]) rfl rfl (fun cs W h=>by rw [show cs=ptZ from h]) (fun cs cs' v W h1 h2 h3=>⟨_,_,_,rfl,by rw [show cs=ptZ from h1];exact zDL m W,by rw [show cs'=ptZ from h2];exact zDL m W,h3⟩)
end Go.Proofs.Wd
