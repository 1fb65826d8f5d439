/- Walks of package nat: pairs, Add, Sub and what it needs. -/
import Derived.Test.YthegekeodchhiaaGreatDoorMLR4
import Derived.Shelf.RegionOpen
abbrev xI:=@Go.IntWalk.u64_in
abbrev xJ:=@Go.callsIn_wide
abbrev xK:=@Int.natCast_nonneg
namespace Go.Proofs.Wd
open Tryz
set_option maxRecDepth 100000
set_option maxHeartbeats 1000000
open Go.RowKit Lb
attribute [local go_sem] Oper.semAt_some qF yI
theorem zFa (A:Option Addr) (n c:Nat) (l:List Nat) (A':Option Addr) (n' c':Nat) (l':List Nat) (b1 b2 N:Nat) (w0:World) (h:Rd w0 A n c l) (h':Rd w0 A' n' c' l') (ht:Lt l) (ht':Lt l')
  (hc1:w0.cell? ⟨b1,0,none⟩=some (.slice A n c)) (hc2:w0.cell? ⟨b2,0,none⟩=some (.slice A' n' c')) (hmx:(n<n'/\n'=N)∨(¬n<n'/\n=N))
  {S:Nat->Prop} (hS: ∀b,S b->b<w0.heap.size) (hS1:S b1) (hS2:S b2) (hSA: ∀b o,0<n->A=some ⟨b,o,none⟩->S b) (hSA': ∀b o,0<n'->A'=some ⟨b,o,none⟩->S b):
  zTU prog 156 #[.pointer (some ⟨b1,0,none⟩), .pointer (some ⟨b2,0,none⟩)] (fun k=>#[.int .u64 (lm l k:Nat), .int .u64 (lm l' k:Nat)]) N (y9 S) Mk (fun _=>True) w0:=by
 intro lp J W hW hJ hY h0
 have hle:=h.le;have hcap:=h.cap;have hle':=h'.le;have hcap':=h'.cap
 have hl1:=z7 hc1;have hl2:=z7 hc2
 have hmix:prog.follows .mixedOrders=true:=by kernel_rfl
 have hw1:=(hW.cell (p:=⟨b1,0,none⟩) hl1).trans hc1
 have hw2:=(hW.cell (p:=⟨b2,0,none⟩) hl2).trans hc2
 rcases hmx with ⟨hnn,rfl⟩|⟨hnn,rfl⟩
 ·refine zBL func156 rfl ?_
  simp only [ntmps156,List.size_toArray,List.length_cons,List.length_nil,Nat.reduceAdd,Nat.reduceSub,Array.replicate_succ,Array.replicate_zero,List.push_toArray,List.append_toArray,List.nil_append,List.cons_append]
  gi_wp2
  gi_loopw [10] (fun i wr=> ∃k:Nat,k<=n'/\i= .int .i64 k/\J k wr/\y9 S w0 wr) (fun i _=>n' - (intOf i).toNat)
  case atStart=>exact ⟨0,Nat.zero_le _,rfl,h0,wQ hW hS⟩
  case round=>
   obtain ⟨k,hk,rfl,hj,hb⟩:=hrel
   by_cases hkn:k<n'
   ·have hr1:=(hb.cell (p:=⟨b1,0,none⟩) hS1).trans hc1
    have hr2:=(hb.cell (p:=⟨b2,0,none⟩) hS2).trans hc2
    obtain ⟨fn,tmps,assign,body,hy,hR⟩:=hY k wr.drew hkn (hJ k wr wr.drew hj ((Below.refl _ _).drew))
    have hA1:=(h.keepS hb hSA).drew
    have hA2:=(h'.keepS hb hSA').drew
    have x1:=qM ht k;have x2:=qM ht' k
    simp only [BB] at x1 x2
    gi_wp2
    have e1:=xI (lm l k:Int) (by omega)
    have e2:=xI (lm l' k:Int) (by omega)
    gi_region_with_o (first|(gi_at_call 147;first|((with_reducible refine (xJ.2 (zA2 A _ c l _ _ hA1 (xK k))).mono ?_);rintro e w1 ⟨rfl,rfl⟩)|((with_reducible refine (xJ.2 (zA2 A' _ c' l' _ _ hA2 (xK k))).mono ?_);rintro e w1 ⟨rfl,rfl⟩))|(refine hR.mono ?_;rintro e W3 ⟨rfl,hJ3,hk3⟩))
    all_goals
     clear e1 e2 hy
     gi_wp2
     go_roundw
     case rel=>exact ⟨k+1,by omega,by go_num,hJ3,(hb.drew).trans hk3⟩
     case measure=>simp [intOf];omega
   ·obtain rfl:k=n':=by omega
    gi_wp2
    go_end0
    exact ⟨⟨_,rfl⟩,hj,trivial⟩
 ·refine zBL func156 rfl ?_
  simp only [ntmps156,List.size_toArray,List.length_cons,List.length_nil,Nat.reduceAdd,Nat.reduceSub,Array.replicate_succ,Array.replicate_zero,List.push_toArray,List.append_toArray,List.nil_append,List.cons_append]
  gi_wp2
  gi_loopw [10] (fun i wr=> ∃k:Nat,k<=n/\i= .int .i64 k/\J k wr/\y9 S w0 wr) (fun i _=>n - (intOf i).toNat)
  case atStart=>exact ⟨0,Nat.zero_le _,rfl,h0,wQ hW hS⟩
  case round=>
   obtain ⟨k,hk,rfl,hj,hb⟩:=hrel
   by_cases hkn:k<n
   ·have hr1:=(hb.cell (p:=⟨b1,0,none⟩) hS1).trans hc1
    have hr2:=(hb.cell (p:=⟨b2,0,none⟩) hS2).trans hc2
    obtain ⟨fn,tmps,assign,body,hy,hR⟩:=hY k wr.drew hkn (hJ k wr wr.drew hj ((Below.refl _ _).drew))
    have hA1:=(h.keepS hb hSA).drew
    have hA2:=(h'.keepS hb hSA').drew
    have x1:=qM ht k;have x2:=qM ht' k
    simp only [BB] at x1 x2
    gi_wp2
    have e1:=xI (lm l k:Int) (by omega)
    have e2:=xI (lm l' k:Int) (by omega)
    gi_region_with_o (first|(gi_at_call 147;first|((with_reducible refine (xJ.2 (zA2 A _ c l _ _ hA1 (xK k))).mono ?_);rintro e w1 ⟨rfl,rfl⟩)|((with_reducible refine (xJ.2 (zA2 A' _ c' l' _ _ hA2 (xK k))).mono ?_);rintro e w1 ⟨rfl,rfl⟩))|(refine hR.mono ?_;rintro e W3 ⟨rfl,hJ3,hk3⟩))
    all_goals
     clear e1 e2 hy
     gi_wp2
     go_roundw
     case rel=>exact ⟨k+1,by omega,by go_num,hJ3,(hb.drew).trans hk3⟩
     case measure=>simp [intOf];omega
   ·obtain rfl:k=n:=by omega
    gi_wp2
    go_end0
    exact ⟨⟨_,rfl⟩,hj,trivial⟩
theorem zHy (A:Option Addr) (n c:Nat) (A':Option Addr) (n' c':Nat) (w:World):
  Calls prog 139 #[.slice A n c, .slice A' n' c'] w fun e w'=>e= .returned (.func (.func 156) #[] #[.pointer (some ⟨w.heap.size,0,none⟩), .pointer (some ⟨w.heap.size+1,0,none⟩)])/\
   (w.alloc (.cells #[.slice A n c] 23)).alloc (.cells #[.slice A' n' c'] 23)=w':=by
 go_enter func139,ntmps139
 go_wp2
 go_ret
 exact ⟨rfl,rfl⟩
end Go.Proofs.Wd
