/- Natural numbers as values; the walks of gcd's Reduce, Lcm, Coprime; Th and what it needs. -/
import Derived.Test.YtdfhaibojmnmkaaGreatDoorMCX18
import Derived.Test.YtdfhaibojmnmkaaGreatDoorMCX13
import Derived.Test.YtdfhaibojmnmkaaGreatDoorMCX7
import Derived.Test.YtdfhaibojmnmkaaGreatDoorMCX19
import Derived.Test.YtdfhaibojmnmkaaGreatDoorMCX17
import Derived.Test.YtdfhaibojmnmkaaGreatDoorMCX6
import Derived.Test.YtdfhaibojmnmkaaGreatDoorMCX1
import Derived.Test.YtdfhaibojmnmkaaGreatDoorMCX9
import Derived.Test.YtdfhaibojmnmkaaGreatDoorMCX16
theorem kH {P:Prop} (h:P:=by kernel_rfl):P:=h
theorem oO {P:Prop} (h:P:=by omega):P:=h
theorem dA {P:Prop} (h:P:=by decide):P:=h
namespace Go.Proofs.Wd
set_option maxHeartbeats 1000000
open Go.RowKit Lb
theorem zTT {W:World} {m:Nat} {v v':Value} {a b:Nat} (h:LV W m v a) (h':LV W m v' b) (hm:m<=2000) (hT:Tab W):Calls Tryz.prog 199 #[v,v'] W (zMS W (Nat.gcd a b)):=by
 obtain ⟨A,n,c,l,rfl,h1,h2,h3,rfl⟩:=h
 obtain ⟨A',n',c',l',rfl,h1',h2',h3',rfl⟩:=h'
 exact (zQX A n c l A' n' c' l' W h1 h1' h2 h2' oO oO hT).mono fun _ _=>q8.v
theorem zPd {a b m:Nat} (ha:a<BB^m) (hb:b<BB^m):Nat.gcd a b<BB^m:=by
 rcases Nat.eq_zero_or_pos a with rfl|h
 ·rwa [Nat.gcd_zero_left]
 ·exact Nat.lt_of_le_of_lt (Nat.gcd_le_left b h) ha
theorem zME {m:Nat} {v vg:Value} {a g B:Nat} {W:World} (h:LV W m v a) (hg:LV W m vg g) (hm:m<=2000) (hg0:0<g) (hc:W.cell? ⟨B,0,none⟩=some vg):
  Calls Tryz.prog 207 #[v, .pointer (some ⟨B,0,none⟩)] W (zMS W (a / g)):=by
 obtain ⟨A,n,c,l,rfl,h1,h2,h3,h4⟩:=h
 obtain ⟨A',n',c',l',rfl,h1',h2',h3',h4'⟩:=hg
 have hd:=zIR a g hg0 A n c l A' n' c' l' W h1 h2 h1' h2' h4 h4' oO oO
 have H4:=hid h4;have H4':=hid h4'
 clear h4 h4'
 go_enter Tryz.func207,Tryz.ntmps207
 go_wp2_with fail
 refine hd.mono ?_
 rintro e w4 ⟨A4,n4,c4,l4,A5,n5,c5,l5,rfl,hi4,hr4,hi5,hr5,hb5⟩
 go_wp2_with fail
 go_ret
 exact ⟨_,rfl,⟨A4,n4,c4,l4,rfl,hi4,hr4⟩,hb5⟩
theorem zTd (A:Option Addr) (n c:Nat) (w:World):
  Calls Tryz.prog 200 #[.slice A n c] w fun e w'=>e= .returned (.func (.func 207) #[] #[.pointer (some ⟨w.heap.size,0,none⟩)])/\w'=w.alloc (.cells #[.slice A n c] 24):=by
 go_enter Tryz.func200,Tryz.ntmps200
 go_wp2
 go_ret
 exact ⟨rfl,rfl⟩
theorem zNt {W:World} {m:Nat} {v v':Value} {a b:Nat} (h:LV W m v a) (h':LV W m v' b) (hm:m<=2000) (hT:Tab W):Calls Tryz.prog 188 #[v,v'] W (zUm W (a / Nat.gcd a b) (b / Nat.gcd a b)):=by
 have hgc:=zTT h h' hm hT
 have hgl:=zPd h.bound h'.bound
 have hen: ∀args w,(callFunc 207 args).run Tryz.prog w= .ok (.enter 207 args) w:=enters_of Tryz.func207 kH rfl
 obtain ⟨g,hg⟩: ∃g,Nat.gcd a b=g:=⟨_,rfl⟩
 rw [hg] at hgc hgl ⊢
 rcases Nat.eq_zero_or_pos g with h0|h0
 ·have HZ:=hid h0
  go_enter Tryz.func188,Tryz.ntmps188
  go_wp2_with fail
  refine hgc.mono ?_
  rintro e w4 ⟨v4,rfl,⟨A4,n4,c4,l4,rfl,hi4,hr4⟩,hb4⟩
  obtain rfl:n4=0:=by rw [<-hr4.len];exact hi4.zero_iff.1 HZ.out
  go_wp2_with fail
  go_ret2
  exact ⟨_,_,rfl,⟨none,0,0, [],rfl,by rw [HZ.out,Nat.div_zero];exact Is.nil,Rd.nil_ _⟩,⟨none,0,0, [],rfl,by rw [HZ.out,Nat.div_zero];exact Is.nil,Rd.nil_ _⟩,hb4⟩
 ·clear hg
  go_enter Tryz.func188,Tryz.ntmps188
  go_wp2_with fail
  refine hgc.mono ?_
  rintro e w4 ⟨v4,rfl,⟨A4,n4,c4,l4,rfl,hi4,hr4⟩,hb4⟩
  have hn4:0<n4:=by rw [<-hr4.len];exact hi4.pos_iff.1 h0
  have hb5:=hb4.trans ((Below.refl _ w4).alloc (Nat.le_refl _) (.cells #[.slice A4 n4 c4] 24)|>.mono hb4.size)
  have x5:=Boxed.new w4 24 (.slice A4 n4 c4)
  obtain ⟨W5,hW5⟩: ∃W5,w4.alloc (.cells #[.slice A4 n4 c4] 24)=W5:=⟨_,rfl⟩
  rw [hW5] at hb5 x5
  have hg5:LV W5 m (.slice A4 n4 c4) g:=by rw [<-hW5];exact (qI.lv ⟨A4,n4,c4,l4,rfl,hi4,hr4⟩ hgl).below ((Below.refl _ w4).alloc (Nat.le_refl _) _)
  have hby:=zTd A4 n4 c4 w4
  rw [hW5] at hby
  clear hW5
  go_wp2_with fail
  refine hby.mono ?_
  rintro e w6 ⟨rfl,rfl⟩
  go_wp2_with fail
  refine (zME (h.below hb5) hg5 hm h0 x5.cell).mono ?_
  rintro e w7 ⟨v7,rfl,hv7,hb7⟩
  go_wp2_with fail
  refine (zME ((h'.below hb5).below hb7) (hg5.below hb7) hm h0 ((hb7.cell (p:=⟨w4.heap.size,0,none⟩) (z4 x5.cell)).trans x5.cell)).mono ?_
  rintro e w8 ⟨v8,rfl,hv8,hb8⟩
  go_wp2_with fail
  go_ret2
  have t1:=hb5.trans (hb7.mono hb5.size)
  exact ⟨_,_,rfl,hv7.below hb8,hv8,t1.trans (hb8.mono t1.size)⟩
end Go.Proofs.Wd

namespace Go.Proofs.Wd
set_option maxRecDepth 100000
open Go.RowKit Lb
theorem zOK {W:World} {m:Nat} {v:Value} {x:Nat} (h:LV W m v x) (hm:m<=100000):Calls Tryz.prog 186 #[v] W (zMS W x):=by
 obtain ⟨A,n,c,l,rfl,h1,h2,h3,rfl⟩:=h
 exact (qP A n c l W h1 h2 oO).mono fun _ _=>q8.v
theorem Tab.bls {W w:World} {b:Nat} {cs:List Value} {te:TypeId} (hT:Tab W) (hb:W.heap[b]?=some (.cells cs.toArray te (0,0))) (h0: ∃s,cs[0]?=some (.bool s)) (hg:BlS (fun k=>k=b) W w):Tab w:=fun j hj=>by
 have h1:=hT j hj
 have hne:(0:Nat)≠b:=fun e=>by
  have h2:=hT 0 dA
  obtain ⟨s,hs⟩:=h0
  unfold World.cell? at h2
  rw [show ((⟨0,0,none⟩:Addr).block)=b from e,hb] at h2
  simp [hs] at h2
 exact (World.cell?_of_block (a:=⟨0,j,none⟩) (hg.block _ (z4 h1) hne)).trans h1
theorem zHT {m:Nat} {k:Int} {d:Nat} {cs:List Value} {W:World} (h:QVp m k d (.agg cs.toArray) W): ∃s,cs[0]?=some (.bool s):=by
 obtain ⟨u,h1,s,rfl⟩:=zRN cs W h
 exact ⟨s,h1⟩
theorem zBJ {m:Nat} {k:Int} {d:Nat} {cs:List Value} {W:World} (h:QVp m k d (.agg cs.toArray) W):cs.all yG=true:=by
 have:=(zET (v:= .agg cs.toArray) h).2
 simpa [Value.cells] using this
theorem zFE {W:World} {v:Value} {x:Nat} (h:qI W v x):Calls Tryz.prog 164 #[v] W (Ret W (fNV (x:Int)).toSF):=by
 refine yD [(qU x).toSF] Tryz.func164 rfl kH ⟨h,trivial⟩ fun a s=> ?_
 refine wpIn_seq ?_
 refine zB 0 [] hmix s kH
  zE fun a w1 s=> ?_
 refine zZ (CU.len 2) (cs:= [.bool false, .slice none 0 0]) kH rfl s kH (fun W=>rfl) rfl fun b2 a w s=> ?_
 refine zA rfl ?_
 refine wpIn_seq ?_
 refine zB 2 ((3, .s ((qU x).toSF))::(4, .u (fNV (x:Int))):: []) hmix s kH
  (oc zC<|oc (zE0 (fun u W (hu:qI W u x)=>zMI hu))<|zE) fun a w2 s=> ?_
 refine zV (CU.agg (fNV (x:Int))) ((fNV (x:Int)).toSF) rfl s kH rfl rfl rfl iiz iiz zF5 fun a w s=> ?_
 refine zA rfl ?_
 refine wpIn_ret ?_
 exact StS.resC s (CU.agg (fNV (x:Int))) rfl kH rfl rfl (zO7 _) (fun cs W h=>h)
theorem zP5 {W:World} (z:Int) (hz: -9223372036854775808<=z/\z<=9223372036854775807):Calls Tryz.prog 135 #[.int .i64 z] W (Ret W (fQN (z:Rat)).toSF):=by
 refine yD [(fI z).toSF] Tryz.func135 rfl kH ⟨rfl,trivial⟩ fun a s=> ?_
 refine wpIn_seq ?_
 refine zB 0 [] hmix s kH
  zE fun a w1 s=> ?_
 refine zZ (CU.len 3) (cs:=zR3) kH rfl s kH (fun W=>rfl) rfl fun b2 a w s=> ?_
 refine zA rfl ?_
 refine wpIn_seq ?_
 refine zB 4 ((3, .s ((uI z).toSF))::(4, .s ((fNV z).toSF))::(5, .s ((qU 1).toSF))::(6, .u (fQN (z:Rat))):: []) hmix s kH
  (oc zC<|oc (zI zD zSL (fun u0 W hb (h0:u0= .int .i64 z)=>by subst h0;exact zUK z hz))<|oc (zAd (fun u W (hu:u= .int .u32 1)=>zOQ hu))<|oc (qO (fun u v W (hu:NV W u z) (hv:qI W v 1)=>zHv (q:=(z:Rat)) hu hv))<|zE) fun a w2 s=> ?_
 refine zV (CU.agg (fQN (z:Rat))) ((fQN (z:Rat)).toSF) rfl s kH rfl rfl rfl iiz iiz yL fun a w s=> ?_
 refine zA rfl ?_
 refine wpIn_ret ?_
 exact StS.resC s (CU.agg (fQN (z:Rat))) rfl kH rfl rfl (qY _) (fun cs W h=>h)
theorem zP7 {W:World} {b m:Nat} {k:Int} {d:Nat} {cs:List Value} (hh:W.heap[b]?=some (.cells cs.toArray 160 (0,0))) (hc:QVp m k d (.agg cs.toArray) W) (hm:m<=2000) (hd:d=0):Calls Tryz.prog 168 #[.pointer (some ⟨b,0,none⟩)] W (zMR W b 160 (CU.agg (fQN ((0:Int):Rat))) (uB false).toSF):=by
 have hz:true=decide (d=0):=(decide_eq_true hd).symm
 refine zFN b [(0,UF.eq (.pointer (some ⟨b,0,none⟩)))] [⟨0,160,CU.agg (fQV m k d),b,false⟩] Tryz.func168 rfl kH (fun q hq=>by simp at hq;subst hq;exact ⟨by simp,rfl⟩) ⟨⟨cs,rfl, .inr (.inr rfl),hh,hc,zBJ hc,fun y hy=>by cases hy⟩,trivial⟩ (fun x hx=>by simp at hx;subst hx;simp) fun a s=> ?_
 refine wpIn_seq ?_
 refine zB 1 ((2, .u (uB false)):: []) hmix s kH
  (oc zG<|zE) fun a w1 s=> ?_
 refine zA rfl ?_
 refine wpIn_seq ?_
 refine wpIn_seq ?_
 refine zB 8 ((3, .s (SF.pb b (CU.agg (fQV m k d)).cf))::(4, .s (SF.ptr (CU.agg (fQV m k d)).cf))::(5, .s (SF.ptr ((CU.agg (fQV m k d)).cf.at 0)))::(6, .s (SF.ptr ((CU.agg (fQV m k d)).cf.at 2)))::(7, .s ((fLV m d).toSF))::(8, .s ((qU d).toSF))::(9, .s (zPg d))::(10, .u (uB true)):: []) hmix s kH
  (oc zC<|oc (zAp (C:=(CU.agg (fQV m k d)).cf))<|oc (zN (C:=(CU.agg (fQV m k d)).cf) 0 kH)<|oc (yT (C:=(CU.agg (fQV m k d)).cf) 0 2 kH)<|oc (jK (C:=(CU.agg (fQV m k d)).cf) (k:=2) kH (h:=zGT))<|oc (zI zD zPj (fun u0 W hb (h0:LV W m u0 d)=>zOK h0 oO))<|oc (zDQ kH iiz)<|oc (zDR hz)<|zE) fun a w2 s=> ?_
 refine zA rfl ?_
 refine StS.cond s true iiz (fun e=> ?_) (fun e=>by cases e)
 refine wpIn_seq ?_
 refine zB 4 ((11, .s ((UF.eq (.pointer (some ⟨b,0,none⟩))).toSF))::(12, .u (fQN ((0:Int):Rat)))::(13, .s ((UF.eq (.pointer (some ⟨b,0,none⟩))).toSF))::(14, .u (UF.eq (.pointer (some ⟨b,0,none⟩)))):: []) hmix s kH
  (oc (zC (fun _ _ _ h=>h.1))<|oc (zI zD zSR (fun u0 W hb (h0:u0= .int .i64 0)=>by subst h0;exact zP5 0 dA))<|oc (zBX (a:=⟨b,0,none⟩) iiz)<|oc (jL (b:=b) (o:=0) 0 kH iiz)<|zE) fun a w3 s=> ?_
 refine jR (c:=0) (o:=0) (kk:=3) (CU.agg (fQN ((0:Int):Rat))) ((fQN ((0:Int):Rat)).toSF) rfl s kH rfl rfl iiz iiz zNf fun a w s=> ?_
 refine zA rfl ?_
 refine wpIn_seq ?_
 replace s:=s.drop [2]
 refine zB 1 ((2, .u (uB false)):: []) hmix s kH
  (oc zG<|zE) fun a w4 s=> ?_
 refine zA rfl ?_
 refine wpIn_ret ?_
 exact StS.resS1 s (c:=0) (C:=CU.agg (fQN ((0:Int):Rat))) rfl rfl rfl rfl iiz
theorem zP8 {W:World} {b m:Nat} {k:Int} {d:Nat} {cs:List Value} (hh:W.heap[b]?=some (.cells cs.toArray 160 (0,0))) (hc:QVp m k d (.agg cs.toArray) W) (hm:m<=2000) (hd0:0<d) (hT:Tab W):Calls Tryz.prog 168 #[.pointer (some ⟨b,0,none⟩)] W (zMR W b 160 (CU.agg (fQN (mkRat k d))) (uB true).toSF):=by
 have hz:false=decide (d=0):=(decide_eq_false oO).symm
 have bk:k.natAbs<BB^m:=by obtain ⟨_,_,_,_,h1,_⟩:=hc;exact h1.bound
 have hred: ∀W u0 u1,Tab W->LV W m u0 k.natAbs->LV W m u1 d->Calls Tryz.prog 188 #[u0,u1] W (Ret W (SF.tup2 (qU (k.natAbs / Nat.gcd k.natAbs d)).toSF (qU (d / Nat.gcd k.natAbs d)).toSF)):=fun W u0 u1 hT h0 h1=>(zNt h0 h1 hm hT).mono fun e w' ⟨v,v',e1,h1,h2,hb⟩=>⟨_,e1,⟨v,v',rfl,h1,h2⟩,hb⟩
 refine zFN b [(0,UF.eq (.pointer (some ⟨b,0,none⟩)))] [⟨0,160,CU.agg (fQV m k d),b,false⟩] Tryz.func168 rfl kH (fun q hq=>by simp at hq;subst hq;exact ⟨by simp,rfl⟩) ⟨⟨cs,rfl, .inr (.inr rfl),hh,hc,zBJ hc,fun y hy=>by cases hy⟩,trivial⟩ (fun x hx=>by simp at hx;subst hx;simp) fun a s=> ?_
 refine wpIn_seq ?_
 refine zB 1 ((2, .u (uB false)):: []) hmix s kH
  (oc zG<|zE) fun a w1 s=> ?_
 refine zA rfl ?_
 refine wpIn_seq ?_
 refine wpIn_seq ?_
 refine zB 8 ((3, .s (SF.pb b (CU.agg (fQV m k d)).cf))::(4, .s (SF.ptr (CU.agg (fQV m k d)).cf))::(5, .s (SF.ptr ((CU.agg (fQV m k d)).cf.at 0)))::(6, .s (SF.ptr ((CU.agg (fQV m k d)).cf.at 2)))::(7, .s ((fLV m d).toSF))::(8, .s ((qU d).toSF))::(9, .s (zPg d))::(10, .u (uB false)):: []) hmix s kH
  (oc zC<|oc (zAp (C:=(CU.agg (fQV m k d)).cf))<|oc (zN (C:=(CU.agg (fQV m k d)).cf) 0 kH)<|oc (yT (C:=(CU.agg (fQV m k d)).cf) 0 2 kH)<|oc (jK (C:=(CU.agg (fQV m k d)).cf) (k:=2) kH (h:=zGT))<|oc (zI zD zPj (fun u0 W hb (h0:LV W m u0 d)=>zOK h0 oO))<|oc (zDQ kH iiz)<|oc (zDR hz)<|zE) fun a w2 s=> ?_
 refine zA rfl ?_
 refine StS.cond s false iiz (fun e=>by cases e) (fun e=> ?_)
 refine wpIn_skip ?_
 refine wpIn_seq ?_
 refine zB 10 ((15, .s ((UF.eq (.pointer (some ⟨b,0,none⟩))).toSF))::(16, .s (SF.pb b (CU.agg (fQV m k d)).cf))::(17, .s (SF.ptr (CU.agg (fQV m k d)).cf))::(18, .s (SF.ptr ((CU.agg (fQV m k d)).cf.at 0)))::(19, .s (SF.ptr ((CU.agg (fQV m k d)).cf.at 0)))::(20, .s ((fUV m k).toSF))::(21, .u (fNV k))::(22, .s ((UF.eq (.pointer (some ⟨b,0,none⟩))).toSF))::(23, .s ((UF.eq (.pointer (some ⟨b,0,none⟩))).toSF))::(24, .u (UF.eq (.pointer (some ⟨b,0,none⟩)))):: []) hmix s kH
  (oc (zC (fun _ _ _ h=>h.1))<|oc zC<|oc (zAp (C:=(CU.agg (fQV m k d)).cf))<|oc (zN (C:=(CU.agg (fQV m k d)).cf) 0 kH)<|oc (yT (C:=(CU.agg (fQV m k d)).cf) 0 0 kH)<|oc (zX (C:=(CU.agg (fQV m k d)).cf) (k:=0) 2 kH (h:=zLk))<|oc (zI zD zSD (fun u0 W hb (h0:UV W m u0 k)=>zR9 h0 oO))<|oc (zBX (a:=⟨b,0,none⟩) iiz)<|oc (jL (b:=b) (o:=0) 0 kH iiz)<|oc (jL (b:=b) (o:=0) 0 kH iiz)<|zE) fun a w3 s=> ?_
 refine jR (c:=0) (o:=0) (kk:=2) (CU.agg (fQM m k d)) ((fNV k).toSF) rfl s kH rfl rfl iiz iiz zPW fun a w s=> ?_
 refine zA rfl ?_
 refine wpIn_seq ?_
 refine yN [0,1,2,8] 15 ((26, .u (UF.eq (.pointer (some ⟨b,0,none⟩))))::(27, .u (UF.eq (.pointer (some ⟨b,0,none⟩))))::(28, .s (SF.pb b (CU.agg (fQM m k d)).cf))::(29, .s (SF.ptr (CU.agg (fQM m k d)).cf))::(30, .s (SF.ptr ((CU.agg (fQM m k d)).cf.at 0)))::(31, .s (SF.ptr ((CU.agg (fQM m k d)).cf.at 0)))::(32, .s (SF.ptr ((CU.agg (fQM m k d)).cf.at 1)))::(33, .s ((qU (k.natAbs)).toSF))::(34, .s (SF.pb b (CU.agg (fQM m k d)).cf))::(35, .s (SF.ptr (CU.agg (fQM m k d)).cf))::(36, .s (SF.ptr ((CU.agg (fQM m k d)).cf.at 0)))::(37, .s (SF.ptr ((CU.agg (fQM m k d)).cf.at 2)))::(38, .s ((fLV m d).toSF))::(39, .s ((zAR (qU (k.natAbs / Nat.gcd k.natAbs d)) (qU (d / Nat.gcd k.natAbs d))).toSF))::(25, .u (zAR (qU (k.natAbs / Nat.gcd k.natAbs d)) (qU (d / Nat.gcd k.natAbs d)))):: []) hmix s kH
  (oc (zC (fun _ _ _ h=>h.1))<|oc (zC (fun _ _ _ h=>h.1))<|oc zC<|oc (zAp (C:=(CU.agg (fQM m k d)).cf))<|oc (zN (C:=(CU.agg (fQM m k d)).cf) 0 kH)<|oc (yT (C:=(CU.agg (fQM m k d)).cf) 0 0 kH)<|oc (yT (C:=(CU.agg (fQM m k d)).cf) 0 1 kH)<|oc (jK (C:=(CU.agg (fQM m k d)).cf) (k:=1) kH (h:=zRR))<|oc zC<|oc (zAp (C:=(CU.agg (fQM m k d)).cf))<|oc (zN (C:=(CU.agg (fQM m k d)).cf) 0 kH)<|oc (yT (C:=(CU.agg (fQM m k d)).cf) 0 2 kH)<|oc (jK (C:=(CU.agg (fQM m k d)).cf) (k:=2) kH (h:=zRQ))<|oc (zH zD zSC (fun u0 u1 W hb (h0:qI W u0 (k.natAbs)) (h1:LV W m u1 d)=>hred W u0 u1 (hT.bls hh (zHT hc) (s.gr.trans hb)) (qI.lv h0 bk) h1))<|oc zC<|zE) fun Q' hQ a w4 s=> ?_
 refine zBE (qU (k.natAbs / Nat.gcd k.natAbs d)) rfl s kH (zA0 (A:=(qU (k.natAbs / Nat.gcd k.natAbs d)).toSF) (B:=(qU (d / Nat.gcd k.natAbs d)).toSF) iiz) kH fun a w s=> ?_
 refine zBE (qU (d / Nat.gcd k.natAbs d)) rfl s kH (zAZ (A:=(qU (k.natAbs / Nat.gcd k.natAbs d)).toSF) (B:=(qU (d / Nat.gcd k.natAbs d)).toSF) iiz) kH fun a w s=> ?_
 refine zBE (UF.eq (.pointer (some ⟨b,0,none⟩))) rfl s kH (zBX (a:=⟨b,0,none⟩) iiz) kH fun a w s=> ?_
 refine zBE (UF.eq (.pointer (some ⟨b,0,none⟩))) rfl s kH (jL (b:=b) (o:=0) 0 kH iiz) kH fun a w s=> ?_
 refine zBE (UF.eq (.pointer (some ⟨b,0,none⟩))) rfl s kH (jL (b:=b) (o:=0) 0 kH iiz) kH fun a w s=> ?_
 refine zBE (UF.eq (.pointer (some ⟨b,1,none⟩))) rfl s kH (jL (b:=b) (o:=0) 1 kH iiz) kH fun a w s=> ?_
 refine jR (c:=0) (o:=1) (kk:=1) (CU.agg (fQA m (decide (k<0)) (k.natAbs / Nat.gcd k.natAbs d) d)) ((qU (k.natAbs / Nat.gcd k.natAbs d)).toSF) rfl s kH rfl rfl iiz iiz zRy fun a w s=> ?_
 refine zBE (UF.eq (.pointer (some ⟨b,0,none⟩))) rfl s kH (zBX (a:=⟨b,0,none⟩) iiz) kH fun a w s=> ?_
 refine zBE (UF.eq (.pointer (some ⟨b,0,none⟩))) rfl s kH (jL (b:=b) (o:=0) 0 kH iiz) kH fun a w s=> ?_
 refine zBE (UF.eq (.pointer (some ⟨b,2,none⟩))) rfl s kH (jL (b:=b) (o:=0) 2 kH iiz) kH fun a w s=> ?_
 refine jR (c:=0) (o:=2) (kk:=1) (CU.agg (fQN (mkRat k d))) ((qU (d / Nat.gcd k.natAbs d)).toSF) rfl s kH rfl rfl iiz iiz (zRx (zB1 k d hd0).symm (zDm k d hd0).symm (zCm k d hd0).symm) fun a w s=> ?_
 refine zA rfl (hQ _ _ ?_)
 refine wpIn_seq ?_
 replace s:=s.drop [2]
 refine zB 1 ((2, .u (uB true)):: []) hmix s kH
  (oc zG<|zE) fun a w5 s=> ?_
 refine zA rfl ?_
 refine wpIn_ret ?_
 exact StS.resS1 s (c:=0) (C:=CU.agg (fQN (mkRat k d))) rfl rfl rfl rfl iiz
theorem zEO {W:World} {b m:Nat} {k:Int} {d:Nat} {cs:List Value} (hh:W.heap[b]?=some (.cells cs.toArray 160 (0,0))) (hc:QVp m k d (.agg cs.toArray) W) (hm:m<=2000) (hT:Tab W):Calls Tryz.prog 168 #[.pointer (some ⟨b,0,none⟩)] W (zMR W b 160 (CU.agg (fQN (mkRat k d))) (uB (decide (0<d))).toSF):=by
 rcases Nat.eq_zero_or_pos d with h|h
 ·have:=zP7 hh hc hm h
  rw [h,Rat.mkRat_zero,decide_eq_false oO]
  exact this
 ·rw [decide_eq_true h]
  exact zP8 hh hc hm h hT
end Go.Proofs.Wd

namespace Go.Proofs.Wd
set_option maxRecDepth 100000
open Go.RowKit Lb
theorem zTG {W:World} {m:Nat} {v:Value} {k:Int} {d:Nat} (h:QVp m k d v W) (hm:m<=2000) (hT:Tab W):Calls Tryz.prog 141 #[v] W (Ret W (SF.newBox W 160 (CU.agg (fQN (mkRat k d))))):=by
 refine yD [(fQV m k d).toSF] Tryz.func141 rfl kH ⟨h,trivial⟩ fun a s=> ?_
 refine wpIn_seq ?_
 refine zB 0 [] hmix s kH
  zE fun a w1 s=> ?_
 refine yJ (CU.agg (fQV m k d)) rfl s kH (fun v W h=>zET h) fun b1 a w s=> ?_
 refine yU (UF.eq (.pointer none)) rfl s kH iiz fun a w s=> ?_
 refine zA rfl ?_
 refine wpIn_seq ?_
 refine zB 2 ((4, .s ((fQV m k d).toSF))::(5, .u (fQV m k d)):: []) hmix s kH
  (oc (zJ (f:=fQV m k d) 3 kH (hz:=zOY _ _ _))<|oc (zE0 (fun u W (hu:QVp m k d u W)=>zTe hu))<|zE) fun a w2 s=> ?_
 refine yJ (CU.agg (fQV m k d)) rfl s kH (fun v W h=>zET h) fun b6 a w s=> ?_
 refine zTz rfl s kH fun a w s=> ?_
 refine zA rfl ?_
 refine wpIn_seq ?_
 refine zB 1 ((7, .u (UF.eq (.pointer (some ⟨b6,0,none⟩)))):: []) hmix s kH
  (oc (zC (fun _ _ _ h=>h.1))<|zE) fun a w3 s=> ?_
 refine zFI (c:=3) (CU.agg (fQN (mkRat k d))) (UF.any) rfl zD zMs s kH rfl rfl iiz (fun cs h1 h2=> ?_) fun a w s=> ?_
 ·exact (zEO h1 h2 hm (hT.below s.gr.below)).mono fun e w' ⟨v,g1,_,g2⟩=>⟨v,g1,trivial,g2⟩
 refine zA rfl ?_
 refine wpIn_seq ?_
 replace s:=s.drop [2]
 refine zB 2 ((9, .s (SF.pb b6 (CU.agg (fQN (mkRat k d))).cf))::(2, .u (UF.eq (.pointer (some ⟨b6,0,none⟩)))):: []) hmix s kH
  (oc zC<|oc (zG (fun _ _ _ h=>h.1))<|zE) fun a w4 s=> ?_
 refine zA rfl ?_
 refine wpIn_ret ?_
 exact StS.resNew s (t:=2) (c:=3) rfl rfl rfl iiz
theorem zN0 {W:World} {b b' m m':Nat} {q q':Rat} {cs cs':List Value} (hh:W.heap[b]?=some (.cells cs.toArray 160 (0,0))) (hc:QNp q (.agg cs.toArray) W) (hh':W.heap[b']?=some (.cells cs'.toArray 160 (0,0))) (hc':QNp q' (.agg cs'.toArray) W) (hne:b'≠b) (hq:QB q m) (hq':QB q' m') (hm:m+m'+1<=2000) (hT:Tab W):Calls Tryz.prog 152 #[.pointer (some ⟨b,0,none⟩), .pointer (some ⟨b',0,none⟩)] W (zMR W b 160 (CU.agg (fQN (q+q'))) SF.any):=by
 have bk:Bd (((q).num*(((q').den:Nat):Int))+((q').num*(((q).den:Nat):Int))) (m+m'+1):=hq.num_add hq'
 rw [Rat.add_def']
 refine zFN b [(0,UF.eq (.pointer (some ⟨b,0,none⟩))),(1,UF.eq (.pointer (some ⟨b',0,none⟩)))] [⟨0,160,CU.agg (fQN q),b,false⟩,⟨1,160,CU.agg (fQN q'),b',true⟩] Tryz.func152 rfl kH (fun x hx=>by simp at hx;rcases hx with rfl|rfl<;>exact ⟨by simp,rfl⟩) ⟨⟨cs,rfl, .inr (.inr rfl),hh,hc,zBJ (zHV hc hq),fun y hy=>by simp at hy;subst hy;exact .inl hne⟩,⟨cs',rfl, .inl rfl,hh',hc',zBJ (zHV hc' hq'),fun y hy=>by cases hy⟩,trivial⟩ (fun x hx=>by simp at hx;rcases hx with rfl|rfl<;>simp) fun a s=> ?_
 refine wpIn_seq ?_
 refine yN [0,1,6,14,19] 32 ((4, .s ((UF.eq (.pointer (some ⟨b,0,none⟩))).toSF))::(5, .s (SF.pb b (CU.agg (fQN q)).cf))::(6, .s (SF.ptr (CU.agg (fQN q)).cf))::(7, .s (SF.ptr ((CU.agg (fQN q)).cf.at 0)))::(8, .s (SF.ptr ((CU.agg (fQN q)).cf.at 0)))::(9, .s ((fNV ((q).num)).toSF))::(10, .s (SF.pb b' (CU.agg (fQN q')).cf))::(11, .s (SF.ptr (CU.agg (fQN q')).cf))::(12, .s (SF.ptr ((CU.agg (fQN q')).cf.at 0)))::(13, .s (SF.ptr ((CU.agg (fQN q')).cf.at 2)))::(14, .s ((qU ((q').den)).toSF))::(15, .s ((fNV (((q').den:Nat):Int)).toSF))::(16, .s (zKe (m+m') [(q).num,(((q').den:Nat):Int)]))::(17, .s ((fNV ((q).num*(((q').den:Nat):Int))).toSF))::(18, .s (SF.pb b' (CU.agg (fQN q')).cf))::(19, .s (SF.ptr (CU.agg (fQN q')).cf))::(20, .s (SF.ptr ((CU.agg (fQN q')).cf.at 0)))::(21, .s (SF.ptr ((CU.agg (fQN q')).cf.at 0)))::(22, .s ((fNV ((q').num)).toSF))::(23, .s (SF.pb b (CU.agg (fQN q)).cf))::(24, .s (SF.ptr (CU.agg (fQN q)).cf))::(25, .s (SF.ptr ((CU.agg (fQN q)).cf.at 0)))::(26, .s (SF.ptr ((CU.agg (fQN q)).cf.at 2)))::(27, .s ((qU ((q).den)).toSF))::(28, .s ((fNV (((q).den:Nat):Int)).toSF))::(29, .s (zKe (m+m') [(q').num,(((q).den:Nat):Int)]))::(30, .s ((fNV ((q').num*(((q).den:Nat):Int))).toSF))::(31, .s (zKe (m+m') [((q).num*(((q').den:Nat):Int)),((q').num*(((q).den:Nat):Int))]))::(32, .u (fNV (((q).num*(((q').den:Nat):Int))+((q').num*(((q).den:Nat):Int)))))::(33, .s ((UF.eq (.pointer (some ⟨b,0,none⟩))).toSF))::(34, .s ((UF.eq (.pointer (some ⟨b,0,none⟩))).toSF))::(35, .u (UF.eq (.pointer (some ⟨b,0,none⟩)))):: []) hmix s kH
  (oc (zC (fun _ _ _ h=>h.1))<|oc zC<|oc (zAp (C:=(CU.agg (fQN q)).cf))<|oc (zN (C:=(CU.agg (fQN q)).cf) 0 kH)<|oc (yT (C:=(CU.agg (fQN q)).cf) 0 0 kH)<|oc (zX (C:=(CU.agg (fQN q)).cf) (k:=0) 2 kH (h:=zA6))<|oc zC<|oc (zAp (C:=(CU.agg (fQN q')).cf))<|oc (zN (C:=(CU.agg (fQN q')).cf) 0 kH)<|oc (yT (C:=(CU.agg (fQN q')).cf) 0 2 kH)<|oc (jK (C:=(CU.agg (fQN q')).cf) (k:=2) kH (h:=zAS))<|oc (zI zD zJt (fun u0 W hb (h0:qI W u0 ((q').den))=>zFE h0))<|oc (yI (fun u v W (hu:NV W u ((q).num)) (hv:NV W v (((q').den:Nat):Int))=>zAW (NV.uv' hu (Bd.mono (hq).1 (m':=(m+m')) (by first|omega|decide))) (NV.uv' hv (Bd.mono (q6 hq'.2) (m':=(m+m')) (by first|omega|decide)))))<|oc (zI zD zHp (fun u0 W hb (h0:ISV W (m+m') u0 [(q).num,(((q').den:Nat):Int)])=>zLH (k:=((q).num*(((q').den:Nat):Int))) h0 (by show (m+m')*2+(m+m')+1<=40000;omega) (by simp) (by simp)))<|oc zC<|oc (zAp (C:=(CU.agg (fQN q')).cf))<|oc (zN (C:=(CU.agg (fQN q')).cf) 0 kH)<|oc (yT (C:=(CU.agg (fQN q')).cf) 0 0 kH)<|oc (zX (C:=(CU.agg (fQN q')).cf) (k:=0) 2 kH (h:=zA6))<|oc zC<|oc (zAp (C:=(CU.agg (fQN q)).cf))<|oc (zN (C:=(CU.agg (fQN q)).cf) 0 kH)<|oc (yT (C:=(CU.agg (fQN q)).cf) 0 2 kH)<|oc (jK (C:=(CU.agg (fQN q)).cf) (k:=2) kH (h:=zAS))<|oc (zI zD zJt (fun u0 W hb (h0:qI W u0 ((q).den))=>zFE h0))<|oc (yI (fun u v W (hu:NV W u ((q').num)) (hv:NV W v (((q).den:Nat):Int))=>zAW (NV.uv' hu (Bd.mono (hq').1 (m':=(m+m')) (by first|omega|decide))) (NV.uv' hv (Bd.mono (q6 hq.2) (m':=(m+m')) (by first|omega|decide)))))<|oc (zI zD zHp (fun u0 W hb (h0:ISV W (m+m') u0 [(q').num,(((q).den:Nat):Int)])=>zLH (k:=((q').num*(((q).den:Nat):Int))) h0 (by show (m+m')*2+(m+m')+1<=40000;omega) (by simp) (by simp)))<|oc (yI (fun u v W (hu:NV W u ((q).num*(((q').den:Nat):Int))) (hv:NV W v ((q').num*(((q).den:Nat):Int)))=>zAW (NV.uv' hu (Bd.mono (Bd.mul (hq).1 (q6 hq'.2)) oO)) (NV.uv' hv (Bd.mono (Bd.mul (hq').1 (q6 hq.2)) oO))))<|oc (zI zD zSI (fun u0 W hb (h0:ISV W (m+m') u0 [((q).num*(((q').den:Nat):Int)),((q').num*(((q).den:Nat):Int))])=>zUi (k:=(((q).num*(((q').den:Nat):Int))+((q').num*(((q).den:Nat):Int)))) h0 oO (by simp) (by simp)))<|oc (zBX (a:=⟨b,0,none⟩) iiz)<|oc (jL (b:=b) (o:=0) 0 kH iiz)<|oc (jL (b:=b) (o:=0) 0 kH iiz)<|zE) fun Q' hQ a w1 s=> ?_
 refine jR (c:=0) (o:=0) (kk:=2) (CU.agg (fQK (((q).num*(((q').den:Nat):Int))+((q').num*(((q).den:Nat):Int))) ((q).den))) ((fNV (((q).num*(((q').den:Nat):Int))+((q').num*(((q).den:Nat):Int)))).toSF) rfl s kH rfl rfl iiz iiz (zHK (k0:=q.num) (d:=q.den)) fun a w s=> ?_
 refine zA rfl (hQ _ _ ?_)
 refine wpIn_seq ?_
 refine yN [0,1,6] 15 ((36, .s ((UF.eq (.pointer (some ⟨b,0,none⟩))).toSF))::(37, .s (SF.pb b (CU.agg (fQK (((q).num*(((q').den:Nat):Int))+((q').num*(((q).den:Nat):Int))) ((q).den))).cf))::(38, .s (SF.ptr (CU.agg (fQK (((q).num*(((q').den:Nat):Int))+((q').num*(((q).den:Nat):Int))) ((q).den))).cf))::(39, .s (SF.ptr ((CU.agg (fQK (((q).num*(((q').den:Nat):Int))+((q').num*(((q).den:Nat):Int))) ((q).den))).cf.at 0)))::(40, .s (SF.ptr ((CU.agg (fQK (((q).num*(((q').den:Nat):Int))+((q').num*(((q).den:Nat):Int))) ((q).den))).cf.at 2)))::(41, .s ((qU ((q).den)).toSF))::(42, .s (SF.pb b' (CU.agg (fQN q')).cf))::(43, .s (SF.ptr (CU.agg (fQN q')).cf))::(44, .s (SF.ptr ((CU.agg (fQN q')).cf.at 0)))::(45, .s (SF.ptr ((CU.agg (fQN q')).cf.at 2)))::(46, .s ((qU ((q').den)).toSF))::(47, .u (qU (((q).den)*((q').den))))::(48, .s ((UF.eq (.pointer (some ⟨b,0,none⟩))).toSF))::(49, .s ((UF.eq (.pointer (some ⟨b,0,none⟩))).toSF))::(50, .u (UF.eq (.pointer (some ⟨b,2,none⟩)))):: []) hmix s kH
  (oc (zC (fun _ _ _ h=>h.1))<|oc zC<|oc (zAp (C:=(CU.agg (fQK (((q).num*(((q').den:Nat):Int))+((q').num*(((q).den:Nat):Int))) ((q).den))).cf))<|oc (zN (C:=(CU.agg (fQK (((q).num*(((q').den:Nat):Int))+((q').num*(((q).den:Nat):Int))) ((q).den))).cf) 0 kH)<|oc (yT (C:=(CU.agg (fQK (((q).num*(((q').den:Nat):Int))+((q').num*(((q).den:Nat):Int))) ((q).den))).cf) 0 2 kH)<|oc (jK (C:=(CU.agg (fQK (((q).num*(((q').den:Nat):Int))+((q').num*(((q).den:Nat):Int))) ((q).den))).cf) (k:=2) kH (h:=zRT))<|oc zC<|oc (zAp (C:=(CU.agg (fQN q')).cf))<|oc (zN (C:=(CU.agg (fQN q')).cf) 0 kH)<|oc (yT (C:=(CU.agg (fQN q')).cf) 0 2 kH)<|oc (jK (C:=(CU.agg (fQN q')).cf) (k:=2) kH (h:=zAS))<|oc (zH zD zPk (fun u0 u1 W hb (h0:qI W u0 ((q).den)) (h1:qI W u1 ((q').den))=>zSc (LV.mono (qI.lv h0 hq.2) (m':=(m+m')) oO) (LV.mono (qI.lv h1 hq'.2) (m':=(m+m')) oO) oO))<|oc (zBX (a:=⟨b,0,none⟩) iiz)<|oc (jL (b:=b) (o:=0) 0 kH iiz)<|oc (jL (b:=b) (o:=0) 2 kH iiz)<|zE) fun Q' hQ a w2 s=> ?_
 refine jR (c:=0) (o:=2) (kk:=1) (CU.agg (fQK (((q).num*(((q').den:Nat):Int))+((q').num*(((q).den:Nat):Int))) (((q).den)*((q').den)))) ((qU (((q).den)*((q').den))).toSF) rfl s kH rfl rfl iiz iiz zKC fun a w s=> ?_
 refine zA rfl (hQ _ _ ?_)
 refine zB 1 ((51, .u (UF.eq (.pointer (some ⟨b,0,none⟩)))):: []) hmix s kH
  (oc (zC (fun _ _ _ h=>h.1))<|zE) fun a w3 s=> ?_
 refine zFI (c:=0) (CU.agg (fQN (mkRat (((q).num*(((q').den:Nat):Int))+((q').num*(((q).den:Nat):Int))) ((q).den*(q').den)))) (UF.any) rfl zD zMs s kH rfl rfl iiz (fun cs h1 h2=> ?_) fun a w s=> ?_
 ·exact (zEO (m:=m+m'+1) h1 (zRS h2 bk (Nat.lt_of_lt_of_le (hq.den_mul hq') (Nat.pow_le_pow_right yY oO))) oO (hT.bls hh (zHT (zHV hc hq)) s.gr)).mono fun e w' ⟨v,g1,_,g2⟩=>⟨v,g1,trivial,g2⟩
 refine zA rfl ?_
 exact StS.resS0 s (c:=0) (C:=CU.agg (fQN (mkRat (((q).num*(((q').den:Nat):Int))+((q').num*(((q).den:Nat):Int))) ((q).den*(q').den)))) rfl rfl rfl rfl (fun _=>trivial)
theorem zNZ {W:World} {b b' m m':Nat} {q q':Rat} {cs cs':List Value} (hh:W.heap[b]?=some (.cells cs.toArray 160 (0,0))) (hc:QNp q (.agg cs.toArray) W) (hh':W.heap[b']?=some (.cells cs'.toArray 160 (0,0))) (hc':QNp q' (.agg cs'.toArray) W) (hne:b'≠b) (hq:QB q m) (hq':QB q' m') (hm:m+m'+1<=2000) (hT:Tab W):Calls Tryz.prog 169 #[.pointer (some ⟨b,0,none⟩), .pointer (some ⟨b',0,none⟩)] W (zMR W b 160 (CU.agg (fQN (q*q'))) SF.any):=by
 have bk:Bd ((q).num*(q').num) (m+m'+1):=(hq.1.mul hq'.1).mono oO
 rw [Rat.mul_def']
 refine zFN b [(0,UF.eq (.pointer (some ⟨b,0,none⟩))),(1,UF.eq (.pointer (some ⟨b',0,none⟩)))] [⟨0,160,CU.agg (fQN q),b,false⟩,⟨1,160,CU.agg (fQN q'),b',true⟩] Tryz.func169 rfl kH (fun x hx=>by simp at hx;rcases hx with rfl|rfl<;>exact ⟨by simp,rfl⟩) ⟨⟨cs,rfl, .inr (.inr rfl),hh,hc,zBJ (zHV hc hq),fun y hy=>by simp at hy;subst hy;exact .inl hne⟩,⟨cs',rfl, .inl rfl,hh',hc',zBJ (zHV hc' hq'),fun y hy=>by cases hy⟩,trivial⟩ (fun x hx=>by simp at hx;rcases hx with rfl|rfl<;>simp) fun a s=> ?_
 refine wpIn_seq ?_
 refine yN [0,1,2,7,14,19] 28 ((4, .s ((UF.eq (.pointer (some ⟨b,0,none⟩))).toSF))::(5, .u (UF.eq (.pointer (some ⟨b,0,none⟩))))::(6, .s (SF.pb b (CU.agg (fQN q)).cf))::(7, .s (SF.ptr (CU.agg (fQN q)).cf))::(8, .s (SF.ptr ((CU.agg (fQN q)).cf.at 0)))::(9, .s (SF.ptr ((CU.agg (fQN q)).cf.at 0)))::(10, .s ((fNV ((q).num)).toSF))::(11, .s (SF.pb b' (CU.agg (fQN q')).cf))::(12, .s (SF.ptr (CU.agg (fQN q')).cf))::(13, .s (SF.ptr ((CU.agg (fQN q')).cf.at 0)))::(14, .s (SF.ptr ((CU.agg (fQN q')).cf.at 0)))::(15, .s ((fNV ((q').num)).toSF))::(16, .s (zKe (m+m') [(q).num,(q').num]))::(17, .u (fNV ((q).num*(q').num)))::(18, .s (SF.pb b (CU.agg (fQN q)).cf))::(19, .s (SF.ptr (CU.agg (fQN q)).cf))::(20, .s (SF.ptr ((CU.agg (fQN q)).cf.at 0)))::(21, .s (SF.ptr ((CU.agg (fQN q)).cf.at 2)))::(22, .s ((qU ((q).den)).toSF))::(23, .s (SF.pb b' (CU.agg (fQN q')).cf))::(24, .s (SF.ptr (CU.agg (fQN q')).cf))::(25, .s (SF.ptr ((CU.agg (fQN q')).cf.at 0)))::(26, .s (SF.ptr ((CU.agg (fQN q')).cf.at 2)))::(27, .s ((qU ((q').den)).toSF))::(28, .u (qU (((q).den)*((q').den))))::(29, .s ((UF.eq (.pointer (some ⟨b,0,none⟩))).toSF))::(30, .s ((UF.eq (.pointer (some ⟨b,0,none⟩))).toSF))::(31, .u (UF.eq (.pointer (some ⟨b,0,none⟩)))):: []) hmix s kH
  (oc (zC (fun _ _ _ h=>h.1))<|oc (zC (fun _ _ _ h=>h.1))<|oc zC<|oc (zAp (C:=(CU.agg (fQN q)).cf))<|oc (zN (C:=(CU.agg (fQN q)).cf) 0 kH)<|oc (yT (C:=(CU.agg (fQN q)).cf) 0 0 kH)<|oc (zX (C:=(CU.agg (fQN q)).cf) (k:=0) 2 kH (h:=zA6))<|oc zC<|oc (zAp (C:=(CU.agg (fQN q')).cf))<|oc (zN (C:=(CU.agg (fQN q')).cf) 0 kH)<|oc (yT (C:=(CU.agg (fQN q')).cf) 0 0 kH)<|oc (zX (C:=(CU.agg (fQN q')).cf) (k:=0) 2 kH (h:=zA6))<|oc (yI (fun u v W (hu:NV W u ((q).num)) (hv:NV W v ((q').num))=>zAW (NV.uv' hu (Bd.mono (hq).1 (m':=(m+m')) (by first|omega|decide))) (NV.uv' hv (Bd.mono (hq').1 (m':=(m+m')) (by first|omega|decide)))))<|oc (zI zD zHp (fun u0 W hb (h0:ISV W (m+m') u0 [(q).num,(q').num])=>zLH (k:=((q).num*(q').num)) h0 (by show (m+m')*2+(m+m')+1<=40000;omega) (by simp) (by simp)))<|oc zC<|oc (zAp (C:=(CU.agg (fQN q)).cf))<|oc (zN (C:=(CU.agg (fQN q)).cf) 0 kH)<|oc (yT (C:=(CU.agg (fQN q)).cf) 0 2 kH)<|oc (jK (C:=(CU.agg (fQN q)).cf) (k:=2) kH (h:=zAS))<|oc zC<|oc (zAp (C:=(CU.agg (fQN q')).cf))<|oc (zN (C:=(CU.agg (fQN q')).cf) 0 kH)<|oc (yT (C:=(CU.agg (fQN q')).cf) 0 2 kH)<|oc (jK (C:=(CU.agg (fQN q')).cf) (k:=2) kH (h:=zAS))<|oc (zH zD zPk (fun u0 u1 W hb (h0:qI W u0 ((q).den)) (h1:qI W u1 ((q').den))=>zSc (LV.mono (qI.lv h0 hq.2) (m':=(m+m')) oO) (LV.mono (qI.lv h1 hq'.2) (m':=(m+m')) oO) oO))<|oc (zBX (a:=⟨b,0,none⟩) iiz)<|oc (jL (b:=b) (o:=0) 0 kH iiz)<|oc (jL (b:=b) (o:=0) 0 kH iiz)<|zE) fun Q' hQ a w1 s=> ?_
 refine jR (c:=0) (o:=0) (kk:=2) (CU.agg (fQK ((q).num*(q').num) ((q).den))) ((fNV ((q).num*(q').num)).toSF) rfl s kH rfl rfl iiz iiz (zHK (k0:=q.num) (d:=q.den)) fun a w s=> ?_
 refine zBE (UF.eq (.pointer (some ⟨b,0,none⟩))) rfl s kH (zBX (a:=⟨b,0,none⟩) iiz) kH fun a w s=> ?_
 refine zBE (UF.eq (.pointer (some ⟨b,0,none⟩))) rfl s kH (jL (b:=b) (o:=0) 0 kH iiz) kH fun a w s=> ?_
 refine zBE (UF.eq (.pointer (some ⟨b,2,none⟩))) rfl s kH (jL (b:=b) (o:=0) 2 kH iiz) kH fun a w s=> ?_
 refine jR (c:=0) (o:=2) (kk:=1) (CU.agg (fQK ((q).num*(q').num) (((q).den)*((q').den)))) ((qU (((q).den)*((q').den))).toSF) rfl s kH rfl rfl iiz iiz zKC fun a w s=> ?_
 refine zA rfl (hQ _ _ ?_)
 refine zB 1 ((35, .u (UF.eq (.pointer (some ⟨b,0,none⟩)))):: []) hmix s kH
  (oc (zC (fun _ _ _ h=>h.1))<|zE) fun a w2 s=> ?_
 refine zFI (c:=0) (CU.agg (fQN (mkRat ((q).num*(q').num) ((q).den*(q').den)))) (UF.any) rfl zD zMs s kH rfl rfl iiz (fun cs h1 h2=> ?_) fun a w s=> ?_
 ·exact (zEO (m:=m+m'+1) h1 (zRS h2 bk (Nat.lt_of_lt_of_le (hq.den_mul hq') (Nat.pow_le_pow_right yY oO))) oO (hT.bls hh (zHT (zHV hc hq)) s.gr)).mono fun e w' ⟨v,g1,_,g2⟩=>⟨v,g1,trivial,g2⟩
 refine zA rfl ?_
 exact StS.resS0 s (c:=0) (C:=CU.agg (fQN (mkRat ((q).num*(q').num) ((q).den*(q').den)))) rfl rfl rfl rfl (fun _=>trivial)
end Go.Proofs.Wd

namespace Go.Proofs.Wd
set_option maxRecDepth 100000
open Go.RowKit Lb
theorem zKV {W:World} {m:Nat} {v:Value} {q:Rat} (h:RVp m q v W) (hm:m<=2000) (hT:Tab W):Calls Tryz.prog 141 #[v] W (Ret W (SF.newBox W 160 (CU.agg (fQN q)))):=by
 obtain ⟨k,d,h1,rfl⟩:=h
 exact zTG h1 hm hT
theorem zQf {W:World} {m:Nat} {v:Value} {q:Rat} (h:RVp m q v W) (hm:m<=2000) (hm0:0<m) (hT:Tab W):Calls Tryz.prog 107 #[v] W (Ret W (fI q.num.sign).toSF):=by
 have hq:QB q m:=h.qb hm0
 refine yD [(fRV m q).toSF] Tryz.func107 rfl kH ⟨h,trivial⟩ fun a s=> ?_
 refine wpIn_seq ?_
 refine zB 0 [] hmix s kH
  zE fun a w1 s=> ?_
 refine yJ (CU.agg (fRV m q)) rfl s kH (fun v W h=>jX h) fun b1 a w s=> ?_
 refine yU (uI 0) rfl s kH iiz fun a w s=> ?_
 refine zA rfl ?_
 refine wpIn_seq ?_
 replace s:=s.drop [2]
 refine zB 8 ((3, .s ((fRV m q).toSF))::(4, .s (SF.newBox w 160 (CU.agg (fQN q))))::(5, .s (SF.ptr (CU.agg (fQN q)).cf))::(6, .s (SF.ptr ((CU.agg (fQN q)).cf.at 0)))::(7, .s (SF.ptr ((CU.agg (fQN q)).cf.at 0)))::(8, .s ((fNV ((q).num)).toSF))::(9, .s ((uI (q.num.sign)).toSF))::(2, .u (uI (q.num.sign))):: []) hmix s kH
  (oc (zJ (f:=fRV m q) 3 kH (hz:=qD _ _))<|oc (zI zD zJv (fun u0 W hb (h0:RVp m q u0 W)=>(zKV h0 oO (hT.below (s.up hb))).mono (Ret.to (zCD hb.size))))<|oc (zAp (C:=(CU.agg (fQN q)).cf) zJ9)<|oc (zN (C:=(CU.agg (fQN q)).cf) 0 kH)<|oc (yT (C:=(CU.agg (fQN q)).cf) 0 0 kH)<|oc (zX (C:=(CU.agg (fQN q)).cf) (k:=0) 2 kH (h:=zA6))<|oc (zI zD zSO (fun u0 W hb (h0:NV W u0 ((q).num))=>zEw (zRC (NV.uv' h0 (hq).1) oO)))<|oc zG<|zE) fun a w2 s=> ?_
 refine zA rfl ?_
 refine wpIn_ret ?_
 exact StS.res1 s (t:=2) rfl iiz
theorem zD4 {W:World} {m:Nat} {v v':Value} {q q':Rat} (h:RVp m q v W) (h':RVp m q' v' W) (hm:m<=2000) (hm0:0<m) (hT:Tab W):Calls Tryz.prog 136 #[v,v'] W (Ret W (fI (qsg q q')).toSF):=by
 have hq:QB q m:=h.qb hm0
 have hq':QB q' m:=h'.qb hm0
 refine yD [(fRV m q).toSF,(fRV m q').toSF] Tryz.func136 rfl kH ⟨h,h',trivial⟩ fun a s=> ?_
 refine wpIn_seq ?_
 refine zB 0 [] hmix s kH
  zE fun a w1 s=> ?_
 refine yJ (CU.agg (fRV m q)) rfl s kH (fun v W h=>jX h) fun b2 a w s=> ?_
 refine yJ (CU.agg (fRV m q')) rfl s kH (fun v W h=>jX h) fun b3 a w s=> ?_
 refine yU (uI 0) rfl s kH iiz fun a w s=> ?_
 refine zA rfl ?_
 refine wpIn_seq ?_
 have so:=s.old;have sg:=s.gr
 refine jJ 6 ((7, .s ((fRV m q).toSF))::(8, .s (SF.newBox w 160 (CU.agg (fQN q))))::(9, .s ((fRV m q').toSF))::(10, .s (SF.newBox w 160 (CU.agg (fQN q'))))::(5, .s (SF.newBox w 160 (CU.agg (fQN q))))::(6, .s (SF.newBox w 160 (CU.agg (fQN q')))):: []) hmix s kH
  (oc (zJ (f:=fRV m q) 3 kH (hz:=qD _ _))<|oc (zI zD zJv (fun u0 W hb (h0:RVp m q u0 W)=>(zKV h0 oO (hT.below (s.up hb))).mono (Ret.to (zCD hb.size))))<|oc (zJ (f:=fRV m q') 3 kH (hz:=qD _ _))<|oc (zI zD zJv (fun u0 W hb (h0:RVp m q' u0 W)=>(zKV h0 oO (hT.below (s.up hb))).mono (Ret.to (zCD hb.size))))<|oc zG<|oc zG<|zE) fun a w2 s hr=> ?_
 obtain ⟨b5,_,s⟩:=s.adopt true 5 (hr (_,_) mz4) sg (fun y hy=> .inl (so y hy))
 obtain ⟨b6,_,s⟩:=s.adopt true 6 (hr (_,_) mz5) sg (fun y hy=>by rcases List.mem_cons.1 hy with rfl|hy;exact .inr ⟨rfl,rfl⟩;exact .inl (so y hy))
 refine zA rfl ?_
 refine wpIn_seq ?_
 replace s:=s.drop [4]
 refine zB 28 ((11, .s (SF.pb b5 (CU.agg (fQN q)).cf))::(12, .s (SF.ptr (CU.agg (fQN q)).cf))::(13, .s (SF.ptr ((CU.agg (fQN q)).cf.at 0)))::(14, .s (SF.ptr ((CU.agg (fQN q)).cf.at 0)))::(15, .s ((fNV ((q).num)).toSF))::(16, .s (SF.pb b6 (CU.agg (fQN q')).cf))::(17, .s (SF.ptr (CU.agg (fQN q')).cf))::(18, .s (SF.ptr ((CU.agg (fQN q')).cf.at 0)))::(19, .s (SF.ptr ((CU.agg (fQN q')).cf.at 2)))::(20, .s ((qU ((q').den)).toSF))::(21, .s ((fNV (((q').den:Nat):Int)).toSF))::(22, .s (zKe (m+m) [(q).num,(((q').den:Nat):Int)]))::(23, .s ((fNV ((q).num*(((q').den:Nat):Int))).toSF))::(24, .s (SF.pb b6 (CU.agg (fQN q')).cf))::(25, .s (SF.ptr (CU.agg (fQN q')).cf))::(26, .s (SF.ptr ((CU.agg (fQN q')).cf.at 0)))::(27, .s (SF.ptr ((CU.agg (fQN q')).cf.at 0)))::(28, .s ((fNV ((q').num)).toSF))::(29, .s (SF.pb b5 (CU.agg (fQN q)).cf))::(30, .s (SF.ptr (CU.agg (fQN q)).cf))::(31, .s (SF.ptr ((CU.agg (fQN q)).cf.at 0)))::(32, .s (SF.ptr ((CU.agg (fQN q)).cf.at 2)))::(33, .s ((qU ((q).den)).toSF))::(34, .s ((fNV (((q).den:Nat):Int)).toSF))::(35, .s (zKe (m+m) [(q').num,(((q).den:Nat):Int)]))::(36, .s ((fNV ((q').num*(((q).den:Nat):Int))).toSF))::(37, .s ((uI (qsg q q')).toSF))::(4, .u (uI (qsg q q'))):: []) hmix s kH
  (oc zC<|oc (zAp (C:=(CU.agg (fQN q)).cf))<|oc (zN (C:=(CU.agg (fQN q)).cf) 0 kH)<|oc (yT (C:=(CU.agg (fQN q)).cf) 0 0 kH)<|oc (zX (C:=(CU.agg (fQN q)).cf) (k:=0) 2 kH (h:=zA6))<|oc zC<|oc (zAp (C:=(CU.agg (fQN q')).cf))<|oc (zN (C:=(CU.agg (fQN q')).cf) 0 kH)<|oc (yT (C:=(CU.agg (fQN q')).cf) 0 2 kH)<|oc (jK (C:=(CU.agg (fQN q')).cf) (k:=2) kH (h:=zAS))<|oc (zI zD zJt (fun u0 W hb (h0:qI W u0 ((q').den))=>zFE h0))<|oc (yI (fun u v W (hu:NV W u ((q).num)) (hv:NV W v (((q').den:Nat):Int))=>zAW (NV.uv' hu (Bd.mono (hq).1 (m':=(m+m)) (by first|omega|decide))) (NV.uv' hv (Bd.mono (q6 hq'.2) (m':=(m+m)) (by first|omega|decide)))))<|oc (zI zD zHp (fun u0 W hb (h0:ISV W (m+m) u0 [(q).num,(((q').den:Nat):Int)])=>zLH (k:=((q).num*(((q').den:Nat):Int))) h0 (by show (m+m)*2+(m+m)+1<=40000;omega) (by simp) (by simp)))<|oc zC<|oc (zAp (C:=(CU.agg (fQN q')).cf))<|oc (zN (C:=(CU.agg (fQN q')).cf) 0 kH)<|oc (yT (C:=(CU.agg (fQN q')).cf) 0 0 kH)<|oc (zX (C:=(CU.agg (fQN q')).cf) (k:=0) 2 kH (h:=zA6))<|oc zC<|oc (zAp (C:=(CU.agg (fQN q)).cf))<|oc (zN (C:=(CU.agg (fQN q)).cf) 0 kH)<|oc (yT (C:=(CU.agg (fQN q)).cf) 0 2 kH)<|oc (jK (C:=(CU.agg (fQN q)).cf) (k:=2) kH (h:=zAS))<|oc (zI zD zJt (fun u0 W hb (h0:qI W u0 ((q).den))=>zFE h0))<|oc (yI (fun u v W (hu:NV W u ((q').num)) (hv:NV W v (((q).den:Nat):Int))=>zAW (NV.uv' hu (Bd.mono (hq').1 (m':=(m+m)) (by first|omega|decide))) (NV.uv' hv (Bd.mono (q6 hq.2) (m':=(m+m)) (by first|omega|decide)))))<|oc (zI zD zHp (fun u0 W hb (h0:ISV W (m+m) u0 [(q').num,(((q).den:Nat):Int)])=>zLH (k:=((q').num*(((q).den:Nat):Int))) h0 (by show (m+m)*2+(m+m)+1<=40000;omega) (by simp) (by simp)))<|oc (zH zD zSK (fun u0 u1 W hb (h0:NV W u0 ((q).num*(((q').den:Nat):Int))) (h1:NV W u1 ((q').num*(((q).den:Nat):Int)))=>zEw (zUe (NV.uv' h0 (Bd.mul (hq).1 (q6 hq'.2))) (NV.uv' h1 (Bd.mul (hq').1 (q6 hq.2))) oO)))<|oc zG<|zE) fun a w3 s=> ?_
 refine zA rfl ?_
 refine wpIn_ret ?_
 exact StS.res1 s (t:=4) rfl iiz
theorem zK5 {W:World} {m:Nat} {v v':Value} {q q':Rat} (h:RVp m q v W) (h':RVp m q' v' W) (hm:m<=2000) (hm0:0<m) (hT:Tab W):Calls Tryz.prog 195 #[v,v'] W (Ret W (fB (qsg q q'==0)).toSF):=by
 refine yD [(fRV m q).toSF,(fRV m q').toSF] Tryz.func195 rfl kH ⟨h,h',trivial⟩ fun a s=> ?_
 refine wpIn_seq ?_
 refine zB 0 [] hmix s kH
  zE fun a w1 s=> ?_
 refine yJ (CU.agg (fRV m q)) rfl s kH (fun v W h=>jX h) fun b2 a w s=> ?_
 refine yJ (CU.agg (fRV m q')) rfl s kH (fun v W h=>jX h) fun b3 a w s=> ?_
 refine yU (uB false) rfl s kH iiz fun a w s=> ?_
 refine zA rfl ?_
 refine wpIn_seq ?_
 replace s:=s.drop [4]
 refine zB 5 ((5, .s ((fRV m q).toSF))::(6, .s ((fRV m q').toSF))::(7, .s ((uI (qsg q q')).toSF))::(8, .s ((uB (qsg q q'==0)).toSF))::(4, .u (uB (qsg q q'==0))):: []) hmix s kH
  (oc (zJ (f:=fRV m q) 3 kH (hz:=qD _ _))<|oc (zJ (f:=fRV m q') 3 kH (hz:=qD _ _))<|oc (zH zD zEc (fun u0 u1 W hb (h0:RVp m q u0 W) (h1:RVp m q' u1 W)=>zD4 h0 h1 hm hm0 (hT.below (s.up hb))))<|oc (zB6 (.int .i64 (qsg q q')) (.int .i64 0) (.bool (qsg q q'==0)) iiz iiz (fun _=>rfl) (fun _=>rfl) (fun _=>rfl))<|oc zG<|zE) fun a w2 s=> ?_
 refine zA rfl ?_
 refine wpIn_ret ?_
 exact StS.res1 s (t:=4) rfl iiz
theorem zRJ {W:World} {m:Nat} {v:Value} {q:Rat} (h:RVp m q v W) (hm:m<=2000) (hm0:0<m) (hT:Tab W):Calls Tryz.prog 165 #[v] W (Ret W (fQN (-q)).toSF):=by
 have hq:QB q m:=h.qb hm0
 refine yD [(fRV m q).toSF] Tryz.func165 rfl kH ⟨h,trivial⟩ fun a s=> ?_
 refine wpIn_seq ?_
 refine zB 0 [] hmix s kH
  zE fun a w1 s=> ?_
 refine yJ (CU.agg (fRV m q)) rfl s kH (fun v W h=>jX h) fun b1 a w s=> ?_
 refine zZ (CU.len 3) (cs:=zR3) kH rfl s kH (fun W=>rfl) rfl fun b2 a w s=> ?_
 refine zA rfl ?_
 refine wpIn_seq ?_
 have so:=s.old;have sg:=s.gr
 refine jJ 3 ((4, .s ((fRV m q).toSF))::(5, .s (SF.newBox w 160 (CU.agg (fQN q))))::(3, .s (SF.newBox w 160 (CU.agg (fQN q)))):: []) hmix s kH
  (oc (zJ (f:=fRV m q) 3 kH (hz:=qD _ _))<|oc (zI zD zJv (fun u0 W hb (h0:RVp m q u0 W)=>(zKV h0 oO (hT.below (s.up hb))).mono (Ret.to (zCD hb.size))))<|oc zG<|zE) fun a w2 s hr=> ?_
 obtain ⟨b3,_,s⟩:=s.adopt false 3 (hr (_,_) mz2) sg (fun y hy=> .inl (so y hy))
 refine zA rfl ?_
 refine wpIn_seq ?_
 refine zB 10 ((6, .s ((UF.eq (.pointer (some ⟨b3,0,none⟩))).toSF))::(7, .s (SF.pb b3 (CU.agg (fQN q)).cf))::(8, .s (SF.ptr (CU.agg (fQN q)).cf))::(9, .s (SF.ptr ((CU.agg (fQN q)).cf.at 0)))::(10, .s (SF.ptr ((CU.agg (fQN q)).cf.at 0)))::(11, .s ((fNV ((q).num)).toSF))::(12, .u (fNV (-(q).num)))::(13, .s ((UF.eq (.pointer (some ⟨b3,0,none⟩))).toSF))::(14, .s ((UF.eq (.pointer (some ⟨b3,0,none⟩))).toSF))::(15, .u (UF.eq (.pointer (some ⟨b3,0,none⟩)))):: []) hmix s kH
  (oc (zC (fun _ _ _ h=>h.1))<|oc zC<|oc (zAp (C:=(CU.agg (fQN q)).cf))<|oc (zN (C:=(CU.agg (fQN q)).cf) 0 kH)<|oc (yT (C:=(CU.agg (fQN q)).cf) 0 0 kH)<|oc (zX (C:=(CU.agg (fQN q)).cf) (k:=0) 2 kH (h:=zA6))<|oc (zI zD zSE (fun u0 W hb (h0:NV W u0 ((q).num))=>zTP (NV.uv' h0 (hq).1) oO))<|oc (zBX (a:=⟨b3,0,none⟩) iiz)<|oc (jL (b:=b3) (o:=0) 0 kH iiz)<|oc (jL (b:=b3) (o:=0) 0 kH iiz)<|zE) fun a w3 s=> ?_
 refine jR (c:=3) (o:=0) (kk:=2) (CU.agg (fQN (-q))) ((fNV (-(q).num)).toSF) rfl s kH rfl rfl iiz iiz (zHK (k0:=q.num) (d:=q.den)) fun a w s=> ?_
 refine zA rfl ?_
 refine wpIn_seq ?_
 refine zB 4 ((16, .s (SF.pb b3 (CU.agg (fQN (-q))).cf))::(17, .s (SF.ptr (CU.agg (fQN (-q))).cf))::(18, .s (SF.ptr ((CU.agg (fQN (-q))).cf.at 0)))::(19, .u (fQN (-q))):: []) hmix s kH
  (oc zC<|oc (zAp (C:=(CU.agg (fQN (-q))).cf))<|oc (zN (C:=(CU.agg (fQN (-q))).cf) 0 kH)<|oc (zX (C:=(CU.agg (fQN (-q))).cf) (k:=0) 3 kH (h:=zNH))<|zE) fun a w4 s=> ?_
 refine zV (CU.agg (fQN (-q))) ((fQN (-q)).toSF) rfl s kH rfl rfl rfl iiz iiz yL fun a w s=> ?_
 refine zA rfl ?_
 refine wpIn_ret ?_
 exact StS.resC s (CU.agg (fQN (-q))) rfl kH rfl rfl (qY _) (fun cs W h=>h)
end Go.Proofs.Wd

namespace Go.Proofs.Wd
set_option maxRecDepth 100000
set_option maxHeartbeats 1000000
open Go.RowKit Lb
attribute [local go_sem] Oper.semAt_some y9 yF
structure QRd (m:Nat) (w:World) (A:Option Addr) (n:Nat) (qs:List Rat):Prop where
 len:qs.length=n
 cells: ∀i,i<n-> ∃b o c0 c1 c2 q,A=some ⟨b,o,none⟩/\w.cell? ⟨b,o+i*3,none⟩=some c0/\w.cell? ⟨b,o+i*3+1,none⟩=some c1/\w.cell? ⟨b,o+i*3+2,none⟩=some c2/\qs[i]?=some q/\RVp m q (.agg #[c0,c1,c2]) w
theorem RVp.keep {m:Nat} {q:Rat} {v:Value} {w w':World} (h:RVp m q v w) (hk: ∀p:Addr,p.block<w.heap.size->w'.cell? p=w.cell? p):RVp m q v w':=by
 obtain ⟨k,d,⟨b,s,t,e,⟨sg,A,n,c,l,e1,h1,h2⟩,A',n',c',l',e2,h1',h2'⟩,h3⟩:=h
 exact ⟨k,d,⟨b,s,t,e,⟨sg,A,n,c,l,e1,h1.keep hk,h2⟩,A',n',c',l',e2,h1'.keep hk,h2'⟩,h3⟩
theorem QRd.keep {m:Nat} {w w':World} {A:Option Addr} {n:Nat} {qs:List Rat} (h:QRd m w A n qs) (hk: ∀p:Addr,p.block<w.heap.size->w'.cell? p=w.cell? p):QRd m w' A n qs:=
 ⟨h.len,fun i hi=>by
  obtain ⟨b,o,c0,c1,c2,q,e,g0,g1,g2,h1,h2⟩:=h.cells i hi
  exact ⟨b,o,c0,c1,c2,q,e,(hk _ (World.block_lt_of_cell? w _ g0)).trans g0,(hk _ (World.block_lt_of_cell? w _ g1)).trans g1,(hk _ (World.block_lt_of_cell? w _ g2)).trans g2,h1,h2.keep hk⟩⟩
theorem QRd.below {m:Nat} {w w':World} {A:Option Addr} {n:Nat} {qs:List Rat} (h:QRd m w A n qs) (hb:Below w.heap.size w w'):QRd m w' A n qs:=h.keep fun _ hp=>hb.cell hp
theorem RVp.below {m:Nat} {q:Rat} {v:Value} {w w':World} (h:RVp m q v w) (hb:Below w.heap.size w w'):RVp m q v w':=h.keep fun _ hp=>hb.cell hp
def qAt (qs:List Rat) (k:Nat):Rat:=(qs[k]?).getD 0
def zPF (W:World) (B:Nat) (q:Rat):Prop:= ∃cs:List Value,W.heap[B]?=some (.cells cs.toArray 160 (0,0))/\QNp q (.agg cs.toArray) W
theorem QNp.keepU {q:Rat} {v:Value} {w w':World} (h:QNp q v w) (hk:jO w w'):QNp q v w':=(fQN q).us _ _ _ h hk
def zU2 (N0:Nat) (qs:List Rat) (k:Nat) (xs:Array Value) (W:World):Prop:= ∃B,xs=#[.pointer (some ⟨B,0,none⟩)]/\N0<=B/\zPF W B (qAt qs k)
theorem zIT (A:Option Addr) (n c:Nat) (w:World):
  Calls Tryz.prog 151 #[.slice A n c] w fun e w'=>e= .returned (.func (.func 173) #[] #[.pointer (some ⟨w.heap.size,0,none⟩)])/\w'=w.alloc (.cells #[.slice A n c] 110):=by
 go_enter Tryz.func151,Tryz.ntmps151
 go_wp2
 go_ret
 exact ⟨rfl,rfl⟩
theorem zTH {W:World} {m:Nat} {c0 c1 c2:Value} {q:Rat} (h:RVp m q (.agg #[c0,c1,c2]) W) (hm:m<=2000) (hT:Tab W):Calls Tryz.prog 141 #[.agg #[c0,c1,c2]] W fun e w'=> ∃B,e= .returned (.pointer (some ⟨B,0,none⟩))/\W.heap.size<=B/\zPF w' B q/\Below W.heap.size W w':=
 (zKV h hm hT).mono fun _ _ ⟨_,e1,⟨B,cs,e2,h1,h2,h3,_⟩,hb⟩=>⟨B,by rw [e1,e2],h1,⟨cs,h2,h3⟩,hb⟩
theorem zFt (m:Nat) (hm:m<=2000) (A:Option Addr) (n c:Nat) (qs:List Rat) (b1:Nat) (w w0:World) (h:QRd m w A n qs) (hT:Tab w) (hw0:Below w.heap.size w w0) (hn:n<=c) (hc:c<=9223372036854775807)
  (hc1:w0.cell? ⟨b1,0,none⟩=some (.slice A n c)) {S:Nat->Prop} (hS: ∀b,S b->b<w0.heap.size) (_hS1:S b1) (hSA: ∀b,b<w.heap.size->S b):
  zOD Tryz.prog 173 #[.pointer (some ⟨b1,0,none⟩)] (zU2 w0.heap.size qs) n (zFe S) Mk (fun _=>True) w0:=by
 intro lp J W hW hJ hY h0
 have hl1:=z4 hc1
 have hw1:=(hW.cell (p:=⟨b1,0,none⟩) hl1).trans hc1
 refine zBd Tryz.func173 rfl ?_
 simp only [Tryz.ntmps173,List.size_toArray,List.length_cons,List.length_nil,Nat.reduceAdd,Nat.reduceSub,Array.replicate_succ,Array.replicate_zero,List.push_toArray,List.append_toArray,List.nil_append,List.cons_append]
 gi_wp2
 gi_loopw [7] (fun i wr=> ∃k:Nat,k<=n/\i= .int .i64 k/\J k wr/\yV S w0 wr/\w0.heap.size<=wr.heap.size) (fun i _=>n - (intOf i).toNat)
 case atStart=>exact ⟨0,Nat.zero_le _,rfl,h0,yV.of_below hW hS,hW.size⟩
 case round=>
  obtain ⟨k,hk,rfl,hj,hb,hz⟩:=hrel
  by_cases hkn:k<n
  ·have hkeep: ∀p:Addr,p.block<w.heap.size->wr.cell? p=w.cell? p:=fun p hp=>(hb.cell (hSA _ hp)).trans (hw0.cell hp)
   obtain ⟨b,o,c0,c1,c2,q,rfl,p0,p1,p2,hi,hr⟩:=(h.keep (w':=wr) hkeep).cells k hkn
   have hTr:Tab wr:=fun j hj=>(hkeep ⟨0,j,none⟩ (z4 (hT j hj))).trans (hT j hj)
   have hid1:qAt qs k=q:=by simp [qAt,hi]
   have hjk:=hJ k wr
   have hHI:=hid hi
   clear hi
   obtain ⟨sg,A1,n1,d1,A2,n2,d2,rfl,rfl,rfl⟩: ∃sg A1 n1 d1 A2 n2 d2,c0= .bool sg/\c1= .slice A1 n1 d1/\c2= .slice A2 n2 d2:=by
    obtain ⟨k',d',hq,_⟩:=hr
    obtain ⟨sg,A1,n1,d1,A2,n2,d2,e⟩:=zDI hq
    have:=congrArg Array.toList (jM e)
    simp at this
    exact ⟨sg,A1,n1,d1,A2,n2,d2,this.1,this.2.1,this.2.2⟩
   gi_wp2_with (first|(gi_at_call 141;refine CallsIn.mono (callsIn_wide.2 (zTH (hr.below (zC1 _ _)) hm (hTr.below (zC1 _ _)))) ?_;rintro e w2 ⟨B2,rfl,hB2,hn2,hb2⟩;have hmk:Mk wr w2:=((Below.refl _ wr).alloc lr _).trans (hb2.mono (by simp));obtain ⟨fn,tmps,assign,body,hy,hR⟩:=hY k w2 #[.pointer (some ⟨B2,0,none⟩)] hkn (hjk _ hj hmk) ⟨B2,rfl,Nat.le_trans hz (Nat.le_trans (by simp) hB2),by rw [hid1];exact hn2⟩)|(refine hR.mono ?_;rintro e W3 ⟨rfl,hJ3,hk3⟩))
   refine ⟨⟨k+1,by omega,rfl,hJ3,(hb.trans (yV.of_below hmk fun b hb=>Nat.lt_of_lt_of_le (hS b hb) hz)).trans hk3.1,Nat.le_trans hz (Nat.le_trans hmk.size hk3.2)⟩, ?_⟩
   simp [intOf]
   omega
  ·obtain rfl:k=n:=by omega
   gi_wp2
   go_end0
   exact ⟨⟨_,rfl⟩,hj,trivial⟩
def zC2 (qs:List Rat):Nat->Rat
 |0=>0
 |k+1=>zC2 qs k+qAt qs k
def qV (qs:List Rat):Nat->Rat
 |0=>1
 |k+1=>qV qs k*qAt qs k
def zRi (w:World) (B0 P:Nat) (f:Nat->Rat) (k:Nat) (W:World):Prop:=
 zPF W B0 (f k)/\Boxed W P 161 (.pointer (some ⟨B0,0,none⟩))/\qT W w.heap.size 28 #[.bool false, .slice none 0 0, .slice none 0 0]/\Below w.heap.size w W/\P+2<=W.heap.size/\w.heap.size<B0
theorem zPF.abide {W W':World} {B C:Nat} {q:Rat} {row:Option Nat} (h:zPF W B q) (hg:W.grownBy W' row) (hr: ∀r,row=some r->C<=r/\ ∃o,W.heap[r]?=some o/\o.isCells=false):zPF W' B q:=by
 obtain ⟨cs,h1,h2⟩:=h
 have hk:jO W W':=fun p x hp=>zFA hp hg hr
 refine ⟨cs,(hg.block _ (Array.getElem?_eq_some_iff.1 h1).1 fun e=> ?_).trans h1,h2.keepU hk⟩
 obtain ⟨_,o,ho,hc⟩:=hr _ e.symm
 rw [h1] at ho
 cases ho
 cases hc
theorem zC7 (w:World) (B0 P:Nat) (f:Nat->Rat) {C:Nat} (hC:w.heap.size<=C):OwnFrom C (zRi w B0 P f):=by
 rintro k W W' row ⟨h1,h2,h3,h4,h5,h6⟩ hg hr
 exact ⟨h1.abide hg hr,qJ h2 hg hr,h3.abide hg hr,zAh h4 hg lr hC hr,Nat.le_trans h5 hg.size,h6⟩
theorem zNx (m M:Nat) (A:Option Addr) (n c:Nat) (qs:List Rat) (w:World) (h:QRd m w A n qs) (hn:n<=c) (hc:c<=9223372036854775807) (hm:m<=2000) (hm0:0<m) (hM:M+m+1<=2000) (hp: ∀k,k<=n->QB (zC2 qs k) M) (hT:Tab w):
  Calls Tryz.prog 119 #[.slice A n c] w (Ret w (fQN (zC2 qs n)).toSF):=by
 refine qS Tryz.func119 rfl ?_
 simp only [Tryz.ntmps119,List.size_toArray,List.length_cons,List.length_nil,Nat.reduceAdd,Nat.reduceSub,Array.replicate_succ,Array.replicate_zero,List.push_toArray,List.append_toArray,List.nil_append,List.cons_append]
 go_wp2_with (first|(go_at_call 135;refine (zP5 0 dA).mono ?_;rintro e w1 ⟨v1,rfl,hv1,hb1⟩;obtain ⟨A1,n1,c1,A2,n2,c2,rfl⟩:=zCi hv1)|(go_at_call 151;refine (zIT A n c _).mono ?_;rintro e w3 ⟨rfl,rfl⟩))
 have hv2:QNp 0 (.agg #[.bool false, .slice A1 n1 c1, .slice A2 n2 c2]) w1:=hv1
 obtain ⟨W0,hW0⟩: ∃W0,(((w1.alloc (.cells #[.bool false, .slice A1 n1 c1, .slice A2 n2 c2] 160)).alloc (.cells #[.pointer (some ⟨w1.heap.size,0,none⟩)] 161)).alloc (.cells #[.slice A n c] 110))=W0:=⟨_,rfl⟩
 have hsz:W0.heap.size=w1.heap.size+3:=by rw [<-hW0];simp
 have hbw1:Below w.heap.size w w1:=((Below.refl _ w).alloc lr _).trans (hb1.mono (by simp))
 have hsz1:w.heap.size<w1.heap.size:=Nat.lt_of_lt_of_le (by simp) hb1.size
 have hb01:Below w1.heap.size w1 W0:=by rw [<-hW0];exact (((Below.refl _ w1).alloc lr _).alloc (by simp) _).alloc (by simp;omega) _
 have hB1:Below w.heap.size w W0:=hbw1.trans (hb01.mono hbw1.size)
 have x0:zPF W0 w1.heap.size 0:=⟨[_,_,_],(by rw [<-hW0];exact ((qT.new w1 _ #[.bool false, .slice A1 n1 c1, .slice A2 n2 c2]).alloc _).alloc _),hv2.keepU (zT hb01)⟩
 have x1:Boxed W0 (w1.heap.size+1) 161 (.pointer (some ⟨w1.heap.size,0,none⟩)):=by rw [<-hW0];exact (zAn _ _ _ (by simp)).alloc _
 have x2:Boxed W0 (w1.heap.size+1+1) 110 (.slice A n c):=by rw [<-hW0];exact zAn _ _ _ (by simp)
 have x3:qT W0 w.heap.size 28 #[.bool false, .slice none 0 0, .slice none 0 0]:=(qT.kept (qT.kept (qT.new w _ _) hb1) hb01)
 rw [hW0]
 clear hW0
 have hSb: ∀b,(b<w.heap.size∨b=w1.heap.size+1+1)->b<W0.heap.size:=fun b hb=>by have:=hbw1.size;omega
 refine zCc (gf:=173) rfl (enters_of Tryz.func173 kH rfl) (zFt m hm A n c qs (w1.heap.size+1+1) w W0 h hT hB1 hn hc x2.cell (S:=fun b=>b<w.heap.size∨b=w1.heap.size+1+1) hSb (.inr rfl) (fun b hb=> .inl hb)) ?hE ?hps zFe.trans (zGb hSb)
  (zRi w w1.heap.size (w1.heap.size+1) (zC2 qs)) (zC7 w _ _ _ hB1.size) (zBe (zC7 w _ _ _ lr)) Mk.keeps (fun _ _ _ _ _ _ _ _=>trivial) ⟨x0,x1,x3,hB1,by omega,hsz1⟩
  (fun xs=>{ tmps:=#[.slice A n c,undef, .pointer (some ⟨w.heap.size,0,none⟩), .pointer (some ⟨w1.heap.size+1,0,none⟩),xs.getD 0 undef, .agg #[.bool false, .slice A1 n1 c1, .slice A2 n2 c2], .agg #[.bool false, .slice A1 n1 c1, .slice A2 n2 c2], .pointer (some ⟨w1.heap.size,0,none⟩), .slice A n c, .func (.func 173) #[] #[.pointer (some ⟨w1.heap.size+1+1,0,none⟩)],xs.getD 0 undef,undef,undef,undef,undef,undef,undef,undef],defers:= [] }) ?assign ?body ?done
 case hE=>
  rintro k xs W l o o' ⟨B,rfl,h1,h2⟩ ho hc
  exact ⟨B,rfl,h1,h2.abide (C:=0) (grownBy_putObj' W l o') (fun r e=>by cases e;exact ⟨Nat.zero_le _,o,ho,hc⟩)⟩
 case hps=>
  rintro k xs W ⟨B,rfl,_⟩
  rfl
 case assign=>
  rintro lp k xs W K ⟨B,rfl,h1,h2⟩ hK
  gi_wp2
  exact hK
 case body=>
  rintro lp k xs W hk ⟨h1,h2,h3,h4,h5,h6⟩ ⟨B,rfl,hB,hnb⟩
  have hc2:=h2.cell
  have hne:B≠w1.heap.size:=by omega
  have hbd:=hp k (Nat.le_of_lt hk)
  have hbd2:QB (qAt qs k) m:=by
   obtain ⟨_,_,_,_,_,q,_,_,_,_,e,hr⟩:=h.cells k hk
   rw [show qAt qs k=q from by simp [qAt,e]]
   exact hr.qb hm0
  have hTW:Tab W:=hT.below h4
  gi_wp2_with (gi_at_call 152;refine CallsIn.mono (callsIn_wide.2 (by
   obtain ⟨cs,g1,g2⟩:=h1
   obtain ⟨cs',g1',g2'⟩:=hnb
   exact zN0 g1 g2 g1' g2' hne hbd hbd2 oO hTW)) ?_;rintro e w3 ⟨u,rfl,_,hg3,cs3,hh3,hc3,_⟩)
  refine ⟨(KeepsOthers.of_grownBy hg3 (fun j o e ho=>by cases e;obtain ⟨cs,g1,_⟩:=h1;rw [g1] at ho;cases ho;rfl)).from _,⟨(yV.refl _ _).grown hg3 (fun b hb=>⟨by have:=h4.size;rcases hb with hb|hb<;>omega,fun e=>by have:=Option.some.inj e;omega⟩),hg3.size⟩,⟨cs3,hh3,hc3⟩,h2.kept hg3 (fun e=>by have:=Option.some.inj e;omega),(hg3.block _ h3.lt (fun e=>by have:=Option.some.inj e;omega)).trans h3,zAA h4 hg3 h4.size oO,Nat.le_trans h5 hg3.size,h6⟩
 case done=>
  rintro D W hD ⟨h1,h2,h3,h4,h5,h6⟩ _ hd
  obtain ⟨cs,hh,hq⟩:=h1
  obtain ⟨A3,n3,c3,A4,n4,c4,ecs⟩:=zCi hq
  have ecs:=congrArg Array.toList (jM ecs)
  simp at ecs
  subst ecs
  obtain ⟨g0,g1,g2⟩:W.cell? ⟨w1.heap.size,0,none⟩=some (.bool (decide ((zC2 qs n).num<0)))/\W.cell? ⟨w1.heap.size,0+1,none⟩=some (.slice A3 n3 c3)/\W.cell? ⟨w1.heap.size,0+2,none⟩=some (.slice A4 n4 c4):=⟨zAM hh 0 _ rfl,zAM hh 1 _ rfl,zAM hh 2 _ rfl⟩
  simp only [Nat.zero_add] at g1 g2
  have hc2:=h2.cell
  have q0:W.cell? ⟨w.heap.size,0,none⟩=some (.bool false):=h3.cell 0
  have q1:W.cell? ⟨w.heap.size,1,none⟩=some (.slice none 0 0):=h3.cell 1
  have q2:W.cell? ⟨w.heap.size,2,none⟩=some (.slice none 0 0):=h3.cell 2
  have q3:=h3.frozen 0;have q4:=h3.frozen 1;have q5:=h3.frozen 2
  go_wp2
  have hb5:qT (((W.setCell ⟨w.heap.size,0,none⟩ (.bool (decide ((zC2 qs n).num<0)))).setCell ⟨w.heap.size,1,none⟩ (.slice A3 n3 c3)).setCell ⟨w.heap.size,2,none⟩ (.slice A4 n4 c4)) w.heap.size 28 #[.bool (decide ((zC2 qs n).num<0)), .slice A3 n3 c3, .slice A4 n4 c4]:=((h3.set 0 _).set 1 _).set 2 _
  have hM2:Marks w.heap.size (((W.setCell ⟨w.heap.size,0,none⟩ (.bool (decide ((zC2 qs n).num<0)))).setCell ⟨w.heap.size,1,none⟩ (.slice A3 n3 c3)).setCell ⟨w.heap.size,2,none⟩ (.slice A4 n4 c4)) [mark D] [D]:=((Marks.nil w.heap.size W).more (D:=D) (by simp) (by have:=hB1.size;omega) hd).others (((KeepsOthers.setCell _ _ _).trans (KeepsOthers.setCell _ _ _)).trans (KeepsOthers.setCell _ _ _))
  have hrow: ∀(W':World) (i:Nat) (v u:Value),W'.cell? ⟨w.heap.size,i,none⟩=some u->yG u=true->jO W' (W'.setCell ⟨w.heap.size,i,none⟩ v):=fun W' i v u hu hn p x hp=>(World.cell?_setCell_other _ _ _ _ (fun e=>by rw [<-e] at hp;rw [hu] at hp;cases hp;cases hn)).trans hp
  have hk3:jO W (((W.setCell ⟨w.heap.size,0,none⟩ (.bool (decide ((zC2 qs n).num<0)))).setCell ⟨w.heap.size,1,none⟩ (.slice A3 n3 c3)).setCell ⟨w.heap.size,2,none⟩ (.slice A4 n4 c4)):=((hrow _ _ _ _ q0 rfl).trans (hrow _ _ _ _ ((h3.set 0 _).cell 1) rfl)).trans (hrow _ _ _ _ (((h3.set 0 _).set 1 _).cell 2) rfl)
  have hq3:=hq.keepU hk3
  have hb3:Below w.heap.size w (((W.setCell ⟨w.heap.size,0,none⟩ (.bool (decide ((zC2 qs n).num<0)))).setCell ⟨w.heap.size,1,none⟩ (.slice A3 n3 c3)).setCell ⟨w.heap.size,2,none⟩ (.slice A4 n4 c4)):=((h4.setCell lr _).setCell lr _).setCell lr _
  generalize ((W.setCell ⟨w.heap.size,0,none⟩ (.bool (decide ((zC2 qs n).num<0)))).setCell ⟨w.heap.size,1,none⟩ (.slice A3 n3 c3)).setCell ⟨w.heap.size,2,none⟩ (.slice A4 n4 c4)=W9 at*
  refine y7 _ (v:= .agg #[.bool (decide ((zC2 qs n).num<0)), .slice A3 n3 c3, .slice A4 n4 c4]) (fun w' ho'=> ?_) [D] _ _ hM2 (Oth.refl _ _) ?_
  ·have h7:=hb5.oth ho'
   have:=zEi (P:=Tryz.prog) (w:=w') (t:=28) (k:=3) kH (vs:= [.bool (decide ((zC2 qs n).num<0)), .slice A3 n3 c3, .slice A4 n4 c4]) rfl h7
   simp [results,Tryz.results119,asAddr,this]
  ·intro w' ho
   exact ⟨_,rfl,hq3.keepU (fun p x hp=>(ho.cell p).trans hp),jZ hb3 ho lr⟩
theorem zNw (m M:Nat) (A:Option Addr) (n c:Nat) (qs:List Rat) (w:World) (h:QRd m w A n qs) (hn:n<=c) (hc:c<=9223372036854775807) (hm:m<=2000) (hm0:0<m) (hM:M+m+1<=2000) (hp: ∀k,k<=n->QB (qV qs k) M) (hT:Tab w):
  Calls Tryz.prog 142 #[.slice A n c] w (Ret w (fQN (qV qs n)).toSF):=by
 refine qS Tryz.func142 rfl ?_
 simp only [Tryz.ntmps142,List.size_toArray,List.length_cons,List.length_nil,Nat.reduceAdd,Nat.reduceSub,Array.replicate_succ,Array.replicate_zero,List.push_toArray,List.append_toArray,List.nil_append,List.cons_append]
 go_wp2_with (first|(go_at_call 135;refine (zP5 1 dA).mono ?_;rintro e w1 ⟨v1,rfl,hv1,hb1⟩;obtain ⟨A1,n1,c1,A2,n2,c2,rfl⟩:=zCi hv1)|(go_at_call 151;refine (zIT A n c _).mono ?_;rintro e w3 ⟨rfl,rfl⟩))
 have hv2:QNp 1 (.agg #[.bool false, .slice A1 n1 c1, .slice A2 n2 c2]) w1:=hv1
 obtain ⟨W0,hW0⟩: ∃W0,(((w1.alloc (.cells #[.bool false, .slice A1 n1 c1, .slice A2 n2 c2] 160)).alloc (.cells #[.pointer (some ⟨w1.heap.size,0,none⟩)] 161)).alloc (.cells #[.slice A n c] 110))=W0:=⟨_,rfl⟩
 have hsz:W0.heap.size=w1.heap.size+3:=by rw [<-hW0];simp
 have hbw1:Below w.heap.size w w1:=((Below.refl _ w).alloc lr _).trans (hb1.mono (by simp))
 have hsz1:w.heap.size<w1.heap.size:=Nat.lt_of_lt_of_le (by simp) hb1.size
 have hb01:Below w1.heap.size w1 W0:=by rw [<-hW0];exact (((Below.refl _ w1).alloc lr _).alloc (by simp) _).alloc (by simp;omega) _
 have hB1:Below w.heap.size w W0:=hbw1.trans (hb01.mono hbw1.size)
 have x0:zPF W0 w1.heap.size 1:=⟨[_,_,_],(by rw [<-hW0];exact ((qT.new w1 _ #[.bool false, .slice A1 n1 c1, .slice A2 n2 c2]).alloc _).alloc _),hv2.keepU (zT hb01)⟩
 have x1:Boxed W0 (w1.heap.size+1) 161 (.pointer (some ⟨w1.heap.size,0,none⟩)):=by rw [<-hW0];exact (zAn _ _ _ (by simp)).alloc _
 have x2:Boxed W0 (w1.heap.size+1+1) 110 (.slice A n c):=by rw [<-hW0];exact zAn _ _ _ (by simp)
 have x3:qT W0 w.heap.size 28 #[.bool false, .slice none 0 0, .slice none 0 0]:=(qT.kept (qT.kept (qT.new w _ _) hb1) hb01)
 rw [hW0]
 clear hW0
 have hSb: ∀b,(b<w.heap.size∨b=w1.heap.size+1+1)->b<W0.heap.size:=fun b hb=>by have:=hbw1.size;omega
 refine zCc (gf:=173) rfl (enters_of Tryz.func173 kH rfl) (zFt m hm A n c qs (w1.heap.size+1+1) w W0 h hT hB1 hn hc x2.cell (S:=fun b=>b<w.heap.size∨b=w1.heap.size+1+1) hSb (.inr rfl) (fun b hb=> .inl hb)) ?hE ?hps zFe.trans (zGb hSb)
  (zRi w w1.heap.size (w1.heap.size+1) (qV qs)) (zC7 w _ _ _ hB1.size) (zBe (zC7 w _ _ _ lr)) Mk.keeps (fun _ _ _ _ _ _ _ _=>trivial) ⟨x0,x1,x3,hB1,by omega,hsz1⟩
  (fun xs=>{ tmps:=#[.slice A n c,undef, .pointer (some ⟨w.heap.size,0,none⟩), .pointer (some ⟨w1.heap.size+1,0,none⟩),xs.getD 0 undef, .agg #[.bool false, .slice A1 n1 c1, .slice A2 n2 c2], .agg #[.bool false, .slice A1 n1 c1, .slice A2 n2 c2], .pointer (some ⟨w1.heap.size,0,none⟩), .slice A n c, .func (.func 173) #[] #[.pointer (some ⟨w1.heap.size+1+1,0,none⟩)],xs.getD 0 undef,undef,undef,undef,undef,undef,undef,undef],defers:= [] }) ?assign ?body ?done
 case hE=>
  rintro k xs W l o o' ⟨B,rfl,h1,h2⟩ ho hc
  exact ⟨B,rfl,h1,h2.abide (C:=0) (grownBy_putObj' W l o') (fun r e=>by cases e;exact ⟨Nat.zero_le _,o,ho,hc⟩)⟩
 case hps=>
  rintro k xs W ⟨B,rfl,_⟩
  rfl
 case assign=>
  rintro lp k xs W K ⟨B,rfl,h1,h2⟩ hK
  gi_wp2
  exact hK
 case body=>
  rintro lp k xs W hk ⟨h1,h2,h3,h4,h5,h6⟩ ⟨B,rfl,hB,hnb⟩
  have hc2:=h2.cell
  have hne:B≠w1.heap.size:=by omega
  have hbd:=hp k (Nat.le_of_lt hk)
  have hbd2:QB (qAt qs k) m:=by
   obtain ⟨_,_,_,_,_,q,_,_,_,_,e,hr⟩:=h.cells k hk
   rw [show qAt qs k=q from by simp [qAt,e]]
   exact hr.qb hm0
  have hTW:Tab W:=hT.below h4
  gi_wp2_with (gi_at_call 169;refine CallsIn.mono (callsIn_wide.2 (by
   obtain ⟨cs,g1,g2⟩:=h1
   obtain ⟨cs',g1',g2'⟩:=hnb
   exact zNZ g1 g2 g1' g2' hne hbd hbd2 oO hTW)) ?_;rintro e w3 ⟨u,rfl,_,hg3,cs3,hh3,hc3,_⟩)
  refine ⟨(KeepsOthers.of_grownBy hg3 (fun j o e ho=>by cases e;obtain ⟨cs,g1,_⟩:=h1;rw [g1] at ho;cases ho;rfl)).from _,⟨(yV.refl _ _).grown hg3 (fun b hb=>⟨by have:=h4.size;rcases hb with hb|hb<;>omega,fun e=>by have:=Option.some.inj e;omega⟩),hg3.size⟩,⟨cs3,hh3,hc3⟩,h2.kept hg3 (fun e=>by have:=Option.some.inj e;omega),(hg3.block _ h3.lt (fun e=>by have:=Option.some.inj e;omega)).trans h3,zAA h4 hg3 h4.size oO,Nat.le_trans h5 hg3.size,h6⟩
 case done=>
  rintro D W hD ⟨h1,h2,h3,h4,h5,h6⟩ _ hd
  obtain ⟨cs,hh,hq⟩:=h1
  obtain ⟨A3,n3,c3,A4,n4,c4,ecs⟩:=zCi hq
  have ecs:=congrArg Array.toList (jM ecs)
  simp at ecs
  subst ecs
  obtain ⟨g0,g1,g2⟩:W.cell? ⟨w1.heap.size,0,none⟩=some (.bool (decide ((qV qs n).num<0)))/\W.cell? ⟨w1.heap.size,0+1,none⟩=some (.slice A3 n3 c3)/\W.cell? ⟨w1.heap.size,0+2,none⟩=some (.slice A4 n4 c4):=⟨zAM hh 0 _ rfl,zAM hh 1 _ rfl,zAM hh 2 _ rfl⟩
  simp only [Nat.zero_add] at g1 g2
  have hc2:=h2.cell
  have q0:W.cell? ⟨w.heap.size,0,none⟩=some (.bool false):=h3.cell 0
  have q1:W.cell? ⟨w.heap.size,1,none⟩=some (.slice none 0 0):=h3.cell 1
  have q2:W.cell? ⟨w.heap.size,2,none⟩=some (.slice none 0 0):=h3.cell 2
  have q3:=h3.frozen 0;have q4:=h3.frozen 1;have q5:=h3.frozen 2
  go_wp2
  have hb5:qT (((W.setCell ⟨w.heap.size,0,none⟩ (.bool (decide ((qV qs n).num<0)))).setCell ⟨w.heap.size,1,none⟩ (.slice A3 n3 c3)).setCell ⟨w.heap.size,2,none⟩ (.slice A4 n4 c4)) w.heap.size 28 #[.bool (decide ((qV qs n).num<0)), .slice A3 n3 c3, .slice A4 n4 c4]:=((h3.set 0 _).set 1 _).set 2 _
  have hM2:Marks w.heap.size (((W.setCell ⟨w.heap.size,0,none⟩ (.bool (decide ((qV qs n).num<0)))).setCell ⟨w.heap.size,1,none⟩ (.slice A3 n3 c3)).setCell ⟨w.heap.size,2,none⟩ (.slice A4 n4 c4)) [mark D] [D]:=((Marks.nil w.heap.size W).more (D:=D) (by simp) (by have:=hB1.size;omega) hd).others (((KeepsOthers.setCell _ _ _).trans (KeepsOthers.setCell _ _ _)).trans (KeepsOthers.setCell _ _ _))
  have hrow: ∀(W':World) (i:Nat) (v u:Value),W'.cell? ⟨w.heap.size,i,none⟩=some u->yG u=true->jO W' (W'.setCell ⟨w.heap.size,i,none⟩ v):=fun W' i v u hu hn p x hp=>(World.cell?_setCell_other _ _ _ _ (fun e=>by rw [<-e] at hp;rw [hu] at hp;cases hp;cases hn)).trans hp
  have hk3:jO W (((W.setCell ⟨w.heap.size,0,none⟩ (.bool (decide ((qV qs n).num<0)))).setCell ⟨w.heap.size,1,none⟩ (.slice A3 n3 c3)).setCell ⟨w.heap.size,2,none⟩ (.slice A4 n4 c4)):=((hrow _ _ _ _ q0 rfl).trans (hrow _ _ _ _ ((h3.set 0 _).cell 1) rfl)).trans (hrow _ _ _ _ (((h3.set 0 _).set 1 _).cell 2) rfl)
  have hq3:=hq.keepU hk3
  have hb3:Below w.heap.size w (((W.setCell ⟨w.heap.size,0,none⟩ (.bool (decide ((qV qs n).num<0)))).setCell ⟨w.heap.size,1,none⟩ (.slice A3 n3 c3)).setCell ⟨w.heap.size,2,none⟩ (.slice A4 n4 c4)):=((h4.setCell lr _).setCell lr _).setCell lr _
  generalize ((W.setCell ⟨w.heap.size,0,none⟩ (.bool (decide ((qV qs n).num<0)))).setCell ⟨w.heap.size,1,none⟩ (.slice A3 n3 c3)).setCell ⟨w.heap.size,2,none⟩ (.slice A4 n4 c4)=W9 at*
  refine y7 _ (v:= .agg #[.bool (decide ((qV qs n).num<0)), .slice A3 n3 c3, .slice A4 n4 c4]) (fun w' ho'=> ?_) [D] _ _ hM2 (Oth.refl _ _) ?_
  ·have h7:=hb5.oth ho'
   have:=zEi (P:=Tryz.prog) (w:=w') (t:=28) (k:=3) kH (vs:= [.bool (decide ((qV qs n).num<0)), .slice A3 n3 c3, .slice A4 n4 c4]) rfl h7
   simp [results,Tryz.results142,asAddr,this]
  ·intro w' ho
   exact ⟨_,rfl,hq3.keepU (fun p x hp=>(ho.cell p).trans hp),jZ hb3 ho lr⟩
def fQS (m:Nat) (qs:List Rat):SF:=⟨fun v W=> ∃A c,v= .slice A qs.length c/\qs.length<=c/\c<=9223372036854775807/\QRd m W A qs.length qs,fun _ _ _ ⟨A,c,h1,h2,h3,h4⟩ hb=>⟨A,c,h1,h2,h3,h4.below hb⟩⟩
theorem zOR (s s':Bool) (A A' D D':Option Addr) (n n' c c' i i' j j':Nat):yK Tryz.prog 110 2 [(0, .agg #[.bool s, .slice A n c, .slice D i j]),(1, .agg #[.bool s', .slice A' n' c', .slice D' i' j'])]=some (28,#[.bool s, .slice A n c, .slice D i j, .bool s', .slice A' n' c', .slice D' i' j']):=by kernel_rfl
theorem zHN {u v:Value} {W:World} {m:Nat} {p q:Rat} (hu:RVp m p u W) (hv:RVp m q v W): ∃e cs,yK Tryz.prog 110 2 [(0,u),(1,v)]=some (e,cs)/\(fQS m [p,q]).p (.slice (some ⟨W.heap.size,0,none⟩) 2 2) (W.alloc (.cells cs e)):=by
 obtain ⟨k,d,h1,h2⟩:=id hu
 obtain ⟨k',d',h1',h2'⟩:=id hv
 obtain ⟨s,A,n,c,D,i,j,rfl⟩:=zDI h1
 obtain ⟨s',A',n',c',D',i',j',rfl⟩:=zDI h1'
 refine ⟨_,_,zOR s s' A A' D D' n n' c c' i i' j j',some ⟨W.heap.size,0,none⟩,2,rfl,Nat.le_refl _,by decide,rfl,fun x hx=> ?_⟩
 have hb:=zC1 W (.cells #[.bool s, .slice A n c, .slice D i j, .bool s', .slice A' n' c', .slice D' i' j'] 28)
 rcases (by simp at hx;omega:x=0∨x=1) with rfl|rfl
 ·exact ⟨_,0,_,_,_,p,rfl,zBB W _ _ 0 _ rfl,zBB W _ _ 1 _ rfl,zBB W _ _ 2 _ rfl,rfl,hu.below hb⟩
 ·exact ⟨_,0,_,_,_,q,rfl,zBB W _ _ 3 _ rfl,zBB W _ _ 4 _ rfl,zBB W _ _ 5 _ rfl,rfl,hv.below hb⟩
theorem zRI {W:World} {m:Nat} {v:Value} {qs:List Rat} (M:Nat) (h:(fQS m qs).p v W) (hm0:0<m) (hM:M+m+1<=2000) (hp: ∀k,k<=qs.length->QB (zC2 qs k) M) (hT:Tab W):Calls Tryz.prog 119 #[v] W (Ret W (fQN (zC2 qs qs.length)).toSF):=by
 obtain ⟨A,c,rfl,h1,h2,h3⟩:=h
 exact zNx m M A qs.length c qs W h3 h1 h2 oO hm0 hM hp hT
theorem zP9 {W:World} {m:Nat} {v:Value} {qs:List Rat} (M:Nat) (h:(fQS m qs).p v W) (hm0:0<m) (hM:M+m+1<=2000) (hp: ∀k,k<=qs.length->QB (qV qs k) M) (hT:Tab W):Calls Tryz.prog 142 #[v] W (Ret W (fQN (qV qs qs.length)).toSF):=by
 obtain ⟨A,c,rfl,h1,h2,h3⟩:=h
 exact zNw m M A qs.length c qs W h3 h1 h2 oO hm0 hM hp hT
theorem QB.zero {m:Nat} (hm:0<m):QB 0 m:=⟨Nat.pow_pos yY,zDf hm⟩
theorem QB.one {m:Nat} (hm:0<m):QB 1 m:=⟨zDf hm,zDf hm⟩
theorem zQv (p q:Rat):zC2 [p,q] 2=p+q:=by
 show (0+p)+q=_
 rw [Rat.zero_add]
theorem zLl (p q:Rat):qV [p,q] 2=p*q:=by
 show (1*p)*q=_
 rw [Rat.one_mul]
theorem zQd {W:World} {m:Nat} {v:Value} {p q:Rat} (h:(fQS m [p,q]).p v W) (hp:QB p m) (hq:QB q m) (hm:3*m+2<=2000) (hT:Tab W):Calls Tryz.prog 119 #[v] W (Ret W (fQN (p+q)).toSF):=by
 have:=zRI (m+m+1) h hp.pos oO (fun k hk=>by
  rcases (by simp at hk;omega:k=0∨k=1∨k=2) with rfl|rfl|rfl
  ·exact QB.zero oO
  ·show QB (0+p) _
   rw [Rat.zero_add]
   exact hp.mono oO
  ·rw [zQv]
   exact hp.add hq) hT
 rw [show ([p,q]:List Rat).length=2 from rfl,zQv] at this
 exact this
theorem zKY {W:World} {m:Nat} {v:Value} {p q:Rat} (h:(fQS m [p,q]).p v W) (hp:QB p m) (hq:QB q m) (hm:3*m+2<=2000) (hT:Tab W):Calls Tryz.prog 142 #[v] W (Ret W (fQN (p*q)).toSF):=by
 have:=zP9 (m+m) h hp.pos oO (fun k hk=>by
  have:=hp.pos
  rcases (by simp at hk;omega:k=0∨k=1∨k=2) with rfl|rfl|rfl
  ·exact QB.one oO
  ·show QB (1*p) _
   rw [Rat.one_mul]
   exact hp.mono oO
  ·rw [zLl]
   exact hp.mul hq) hT
 rw [show ([p,q]:List Rat).length=2 from rfl,zLl] at this
 exact this
end Go.Proofs.Wd

namespace Go.Proofs.Wd
set_option maxRecDepth 100000
open Go.RowKit Lb
theorem zQb (p q:Rat):mkRat ((p).num*(if decide ((q).num<0) then -(((q).den:Nat):Int) else (((q).den:Nat):Int))) ((p).den*(q).num.natAbs)=p / q:=by
 have hp:p=(p.num:Rat) / (p.den:Rat):=by
  have:=Rat.mkRat_self p
  rw [Rat.mkRat_eq_div] at this
  exact this.symm
 have hq:q⁻¹=mkRat (if decide (q.num<0) then -(q.den:Int) else (q.den:Int)) q.num.natAbs:=by
  rw [Rat.inv_def]
  by_cases h:q.num<0
  ·rw [decide_eq_true h,if_pos rfl, <-Rat.divInt_ofNat, <-Rat.divInt_neg']
   congr 1
   omega
  ·rw [decide_eq_false h,if_neg dA, <-Rat.divInt_ofNat]
   congr 1
   omega
 rw [Rat.div_def,hq]
 conv=>rhs;rw [<-Rat.mkRat_self p]
 rw [Rat.mkRat_mul_mkRat]
theorem zOU {W:World} {m:Nat} {v v':Value} {q q':Rat} (h:RVp m q v W) (h':RVp m q' v' W) (hm:m<=650) (hm0:0<m) (hT:Tab W):Calls Tryz.prog 138 #[v,v'] W (Ret W (fQN (q - q')).toSF):=by
 have hq:QB q m:=h.qb hm0
 have hq':QB q' m:=h'.qb hm0
 refine yD [(fRV m q).toSF,(fRV m q').toSF] Tryz.func138 rfl kH ⟨h,h',trivial⟩ fun a s=> ?_
 refine wpIn_seq ?_
 refine zB 0 [] hmix s kH
  zE fun a w1 s=> ?_
 refine yJ (CU.agg (fRV m q)) rfl s kH (fun v W h=>jX h) fun b2 a w s=> ?_
 refine yJ (CU.agg (fRV m q')) rfl s kH (fun v W h=>jX h) fun b3 a w s=> ?_
 refine zZ (CU.len 3) (cs:=zR3) kH rfl s kH (fun W=>rfl) rfl fun b4 a w s=> ?_
 refine zA rfl ?_
 refine wpIn_seq ?_
 refine yN [] 5 ((5, .s ((fRV m q).toSF))::(6, .s ((fRV m q').toSF))::(7, .s ((fQN (-q')).toSF))::(8, .s (fQS m [q,(-q')]))::(9, .u (fQN (q+ -q'))):: []) hmix s kH
  (oc (zJ (f:=fRV m q) 3 kH (hz:=qD _ _))<|oc (zJ (f:=fRV m q') 3 kH (hz:=qD _ _))<|oc (zI zD zSJ (fun u0 W hb (h0:RVp m q' u0 W)=>zRJ h0 oO hm0 (hT.below (s.up hb))))<|oc (yI (fun u v W (hu:RVp m q u W) (hv:QNp (-q') v W)=>zHN hu (QNp.rv hv hq'.neg)))<|oc (zI zD zSZ (fun u0 W hb (h0:(fQS m [q,(-q')]).p u0 W)=>zQd h0 hq hq'.neg oO (hT.below (s.up hb))))<|zE) fun Q' hQ a w2 s=> ?_
 refine zV (CU.agg (fQN (q+ -q'))) ((fQN (q+ -q')).toSF) rfl s kH rfl rfl rfl iiz iiz yL fun a w s=> ?_
 refine zA rfl (hQ _ _ ?_)
 refine wpIn_ret ?_
 exact StS.resC s (CU.agg (fQN (q+ -q'))) rfl kH rfl rfl (qY _) (fun cs W h=>by rw [Rat.sub_eq_add_neg];exact h)
def UVx (n:Nat) (k:Int) (v:Value) (w:World):Prop:= ∃s A c l,v= .agg #[.bool s, .slice A n c]/\Rd w A n c l/\Lt l/\iv s l=k
def LVx (n x:Nat) (v:Value) (w:World):Prop:= ∃A c l,v= .slice A n c/\Rd w A n c l/\Lt l/\val l=x
def QXp (n n':Nat) (k:Int) (d:Nat) (v:Value) (w:World):Prop:= ∃b s t,v= .agg #[b,s,t]/\UVx n k (.agg #[b,s]) w/\LVx n' d t w
def fQX (n n':Nat) (k:Int) (d:Nat):UF:= .mk' (QXp n n' k d) fun _ _ _ ⟨b,s,t,e,⟨sg,A,c,l,e1,h1,h2⟩,A',c',l',e2,h1',h2'⟩ u=>⟨b,s,t,e,⟨sg,A,c,l,e1,h1.keepU u,h2⟩,A',c',l',e2,h1'.keepU u,h2'⟩
theorem zTJ {n n' m:Nat} {k:Int} {d:Nat} {v:Value} {W:World} (h:QXp n n' k d v W) (h1:n<=m) (h2:n'<=m):QVp m k d v W:=by
 obtain ⟨b,s,t,e,⟨sg,A,c,l,e1,g1,g2,g3⟩,A',c',l',e2,g1',g2',g3'⟩:=h
 exact ⟨b,s,t,e,⟨sg,A,n,c,l,e1,g1,g2,h1,g3⟩,A',n',c',l',e2,g1',g2',h2,g3'⟩
theorem zOX {n n':Nat} {k:Int} {d:Nat} (cs:List Value) (W:World) (h:(CU.agg (fQX n n' k d)).p cs W): ∃u,cs[1]?=some u/\ ∃A c,u= .slice A n c:=by
 obtain ⟨b,s,t,e,⟨sg,A,c,l,e1,_⟩,_⟩:=h
 rw [zAG e]
 have:=congrArg Array.toList (jM e1)
 simp at this
 exact ⟨s,rfl,A,c,this.2⟩
theorem zOW {n n':Nat} {k:Int} {d:Nat} (cs:List Value) (W:World) (h:(CU.agg (fQX n n' k d)).p cs W): ∃u,cs[2]?=some u/\ ∃A c,u= .slice A n' c:=by
 obtain ⟨b,s,t,e,_,A,c,l,e1,_⟩:=h
 rw [zAG e]
 exact ⟨t,rfl,A,c,e1⟩
def fSl (n:Nat):UF:= .mk' (fun v _=> ∃A c,v= .slice A n c) fun _ _ _ h _=>h
structure QX where
 n:Nat
 n':Nat
 k:Int
 d:Nat
abbrev QX.cu (x:QX):CU:=CU.agg (fQX x.n x.n' x.k x.d)
def zTK (L:List QX) (k:Nat):Nat:=((L.take k).map fun x=>min (x.n+x.n') 1000).sum
def gq (L:List QX):Bool:=decide ((((L.map QX.cu).length:Nat):Int)>60)||decide (((zTK L (min (L.map QX.cu).length 61):Nat):Int)>40)
theorem wrap64 (u:Int) (r:Nat) (h:u=r) (hr:r<9223372036854775808):IntKind.i64.wrap u=r:=by
 subst h
 rw [IntKind.wrap_i64]
 omega
end Go.Proofs.Wd

namespace Go.Proofs.Wd
set_option maxRecDepth 100000
set_option maxHeartbeats 1000000
open Go.RowKit Lb
def T2 (m:Nat) (op:Rat->Rat->Rat) (xs:Array Value) (W:World) (R:SF):Prop:= ∃u v p q,xs=#[u,v]/\RVp m p u W/\RVp m q v W/\Tab W/\R=(fQN (op p q)).toSF
def T3 (m:Nat) (op:Rat->Rat->Rat) (xs:Array Value) (W:World) (R:SF):Prop:= ∃u v, ∃p q:V2,xs=#[u,v]/\(fPV m p).p u W/\(fPV m q).p v W/\Tab W/\R=(fPN (op p.1 q.1,op p.2 q.2)).toSF
def G1 (g:FuncId) (m:Nat) (op:Rat->Rat->Rat):Prop:= ∀(W:World) (s:Value) (p q:Rat),(fQS m [p,q]).p s W->QB p m->QB q m->Tab W->Calls Tryz.prog g #[s] W (Ret W (fQN (op p q)).toSF)
theorem zEa {u:Value}: ∀cs W,(CU.is [u]).p cs W-> ∃x,cs[0]?=some x/\(UF.eq u).p x W:=fun cs W h=>by
 obtain rfl:cs= [u]:=h
 exact ⟨u,rfl,rfl⟩
theorem zJg {u v:Value} {W:World} (h:v=u) (hu:u.cells=#[u]) (hn:yG u=true:=by rfl):(CU.is [u]).p v.cells.toList W/\v.cells.toList.all yG=true:=by
 subst h
 rw [hu]
 exact ⟨rfl,by simp [hn]⟩
section
variable {F:Fence} {m:Nat} {P:Program} {w0:World} {ops:Array Oper} {G:Nat->SF} {d:Tmp} {ty:TypeId} {pos:String} {aft:Array Edge}
end
theorem zSn {m:Nat} (hm:m<=650) (hm0:0<m) (W:World):(SF.fn Tryz.prog (T2 m (· - ·))).p (.func (.func 138) #[] #[]) W:=
 zJo (enters_of Tryz.func138 kH rfl) fun W' _ args R ⟨u,v,p,q,e,h1,h2,hT,hR⟩=>by
  subst e hR
  simpa using zOU h1 h2 hm hm0 hT
theorem zO4 {F:Fence} {m:Nat} {P:Program} {w0:World} {ops:Array Oper} {G:Nat->SF} {d:Tmp} {ty:TypeId} {pos:String} {aft:Array Edge} {y x x':Operand} {ats:Array TypeId} (T:Array Value->World->SF->Prop) (hF:zIk F m P) (hy: ∀v W,Below w0.heap.size w0 W->(fct G y).p v W->(SF.fn P T).p v W) (h: ∀u v W,Below w0.heap.size w0 W->(fct G x).p u W->(fct G x').p v W->T #[u,v] W (G d)):qK F m P w0 ops G ⟨some d, .call ⟨.value y,#[x,x'],ats⟩,ty,pos,aft,none⟩:=
 zLD T hF hy fun b W hb hh=>by simpa using h _ _ W hb (hh x (by simp)) (hh x' (by simp))
theorem zNR {m:Nat} {op:Rat->Rat->Rat} {W:World} {u v b f:Value} {p q:V2} (h1:(fPV m p).p u W) (h2:(fPV m q).p v W) (hb:(SF.ptr (CU.is [f]).cf).p b W) (hf:(SF.fn Tryz.prog (T2 m op)).p f W) (hT:Tab W):Calls Tryz.prog 149 #[u,v,b] W (Ret W (fPN (op p.1 q.1,op p.2 q.2)).toSF):=by
 refine yD [(fPV m p).toSF,(fPV m q).toSF,SF.ptr (CU.is [f]).cf] Tryz.func149 rfl kH ⟨h1,h2,hb,trivial⟩ fun a s=> ?_
 refine wpIn_seq ?_
 refine zB 0 [] hmix s kH
  zE fun a w1 s=> ?_
 refine yJ (CU.agg (fPV m p)) rfl s kH (fun v W h=>yP h) fun b3 a w s=> ?_
 refine yJ (CU.agg (fPV m q)) rfl s kH (fun v W h=>yP h) fun b4 a w s=> ?_
 refine zZ (CU.len 6) (cs:=zP6) kH rfl s kH (fun W=>rfl) rfl fun b5 a w s=> ?_
 refine zA rfl ?_
 refine wpIn_seq ?_
 refine yN [] 13 ((6, .s ((UF.eq f).toSF))::(7, .s (SF.ptr ((CU.agg (fPV m p)).cf.at 0)))::(8, .s ((fRV m ((p).1)).toSF))::(9, .s (SF.ptr ((CU.agg (fPV m q)).cf.at 0)))::(10, .s ((fRV m ((q).1)).toSF))::(11, .s ((fQN (op (p).1 (q).1)).toSF))::(12, .s ((UF.eq f).toSF))::(13, .s (SF.ptr ((CU.agg (fPV m p)).cf.at 3)))::(14, .s ((fRV m ((p).2)).toSF))::(15, .s (SF.ptr ((CU.agg (fPV m q)).cf.at 3)))::(16, .s ((fRV m ((q).2)).toSF))::(17, .s ((fQN (op (p).2 (q).2)).toSF))::(18, .u (fPN (op p.1 q.1,op p.2 q.2))):: []) hmix s kH
  (oc (jE (C:=(CU.is [f]).cf) kH iiz zEa)<|oc (zN (C:=(CU.agg (fPV m p)).cf) 0 kH)<|oc (zX (C:=(CU.agg (fPV m p)).cf) (k:=0) 3 kH (h:=zFi))<|oc (zN (C:=(CU.agg (fPV m q)).cf) 0 kH)<|oc (zX (C:=(CU.agg (fPV m q)).cf) (k:=0) 3 kH (h:=zFi))<|oc (zO4 (T2 m op) zD (fun v W hb h=>by rw [show v=f from h];exact (SF.fn Tryz.prog (T2 m op)).st _ _ _ hf (s.up hb)) (fun u v W hb (h1:RVp m ((p).1) u W) (h2:RVp m ((q).1) v W)=>⟨u,v,_,_,rfl,h1,h2,hT.below (s.up hb),rfl⟩))<|oc (jE (C:=(CU.is [f]).cf) kH iiz zEa)<|oc (zN (C:=(CU.agg (fPV m p)).cf) 3 kH)<|oc (zX (C:=(CU.agg (fPV m p)).cf) (k:=3) 3 kH (h:=zDK))<|oc (zN (C:=(CU.agg (fPV m q)).cf) 3 kH)<|oc (zX (C:=(CU.agg (fPV m q)).cf) (k:=3) 3 kH (h:=zDK))<|oc (zO4 (T2 m op) zD (fun v W hb h=>by rw [show v=f from h];exact (SF.fn Tryz.prog (T2 m op)).st _ _ _ hf (s.up hb)) (fun u v W hb (h1:RVp m ((p).2) u W) (h2:RVp m ((q).2) v W)=>⟨u,v,_,_,rfl,h1,h2,hT.below (s.up hb),rfl⟩))<|oc (qO (fun u v W (hu:QNp (op (p).1 (q).1) u W) (hv:QNp (op (p).2 (q).2) v W)=>zRe (zAL _) (zAL _) hu hv))<|zE) fun Q' hQ a w2 s=> ?_
 refine zV (CU.agg (fPN (op p.1 q.1,op p.2 q.2))) ((fPN (op p.1 q.1,op p.2 q.2)).toSF) rfl s kH rfl rfl rfl iiz iiz yR fun a w s=> ?_
 refine zA rfl (hQ _ _ ?_)
 refine wpIn_ret ?_
 exact StS.resC s (CU.agg (fPN (op p.1 q.1,op p.2 q.2))) rfl kH rfl rfl (zP _ _) (fun cs W h=>h)
theorem zQD {m:Nat} {op:Rat->Rat->Rat} {W:World} {f:Value} (hf:(SF.fn Tryz.prog (T2 m op)).p f W):Calls Tryz.prog 117 #[f] W (Ret W (SF.fn Tryz.prog (T3 m op))):=by
 have hfc:f.cells=#[f]/\yG f=true:=by obtain ⟨g,caps,rfl,_⟩:=hf;exact ⟨rfl,rfl⟩
 refine yD [(UF.eq f).toSF] Tryz.func117 rfl kH ⟨rfl,trivial⟩ fun a s=> ?_
 refine wpIn_seq ?_
 refine zB 0 [] hmix s kH
  zE fun a w1 s=> ?_
 refine yJ (CU.is [f]) rfl s kH (fun v W h=>zJg h hfc.1 hfc.2) fun b1 a w s=> ?_
 refine yU (UF.eq (.nilFunc)) rfl s kH iiz fun a w s=> ?_
 refine zA rfl ?_
 refine wpIn_seq ?_
 replace s:=s.drop [2]
 refine jJ 2 ((3, .s (SF.fn Tryz.prog (T3 m op)))::(2, .s (SF.fn Tryz.prog (T3 m op))):: []) hmix s kH
  (oc (zEo (fun u W hb (h:(SF.pb b1 (CU.is [f]).cf).p u W)=>zJo (enters_of Tryz.func149 kH rfl) (fun W' hb' args R ⟨u1,v1,p,q,e,h1,h2,hT,hR⟩=>by subst e hR;simpa using zNR h1 h2 ((SF.ptr (CU.is [f]).cf).st _ _ _ h.2 hb') ((SF.fn Tryz.prog (T2 m op)).st _ _ _ ((SF.fn Tryz.prog (T2 m op)).st _ _ _ hf (s.up hb)) hb') hT)))<|oc zG<|zE) fun a w2 s hr=> ?_
 refine zA rfl ?_
 refine wpIn_ret ?_
 exact StS.resN s (Below.refl _ _) rfl (hr (_,_) mz1)
theorem zOF {m:Nat} {W:World} {u v:Value} {p q:V2} (h1:(fPV m p).p u W) (h2:(fPV m q).p v W) (hm:m<=650) (hm0:0<m) (hT:Tab W):Calls Tryz.prog 102 #[u,v] W (Ret W (fPN (p.1 - q.1,p.2 - q.2)).toSF):=by
 refine yD [(fPV m p).toSF,(fPV m q).toSF] Tryz.func102 rfl kH ⟨h1,h2,trivial⟩ fun a s=> ?_
 refine wpIn_seq ?_
 refine zB 0 [] hmix s kH
  zE fun a w1 s=> ?_
 refine yJ (CU.agg (fPV m p)) rfl s kH (fun v W h=>yP h) fun b2 a w s=> ?_
 refine yJ (CU.agg (fPV m q)) rfl s kH (fun v W h=>yP h) fun b3 a w s=> ?_
 refine zZ (CU.len 6) (cs:=zP6) kH rfl s kH (fun W=>rfl) rfl fun b4 a w s=> ?_
 refine zA rfl ?_
 refine wpIn_seq ?_
 refine yN [] 4 ((5, .s (SF.fn Tryz.prog (T3 m (· - ·))))::(6, .s ((fPV m p).toSF))::(7, .s ((fPV m q).toSF))::(8, .u (fPN (p.1 - q.1,p.2 - q.2))):: []) hmix s kH
  (oc (zI zD zS0 (fun u0 W hb h0=>by rw [show u0=_ from h0];exact zQD (zSn hm hm0 W)))<|oc (zJ (f:=fPV m p) 6 kH (hz:=zP _ _))<|oc (zJ (f:=fPV m q) 6 kH (hz:=zP _ _))<|oc (zR5 (T3 m (· - ·)) zD iiz (fun u v W hb (h1:(fPV m p).p u W) (h2:(fPV m q).p v W)=>⟨u,v,p,q,rfl,h1,h2,hT.below (s.up hb),rfl⟩))<|zE) fun Q' hQ a w2 s=> ?_
 refine zV (CU.agg (fPN (p.1 - q.1,p.2 - q.2))) ((fPN (p.1 - q.1,p.2 - q.2)).toSF) rfl s kH rfl rfl rfl iiz iiz yR fun a w s=> ?_
 refine zA rfl (hQ _ _ ?_)
 refine wpIn_ret ?_
 exact StS.resC s (CU.agg (fPN (p.1 - q.1,p.2 - q.2))) rfl kH rfl rfl (zP _ _) (fun cs W h=>h)
theorem zM4 {m:Nat} {W:World} {u v:Value} {p q:V2} (h1:(fPV m p).p u W) (h2:(fPV m q).p v W) (hp:QB p.1 m/\QB p.2 m) (hq:QB q.1 m/\QB q.2 m) (hm:m<=320) (hm0:0<m) (hT:Tab W):Calls Tryz.prog 108 #[u,v] W (Ret W (fQN (p.1*q.2 - p.2*q.1)).toSF):=by
 refine yD [(fPV m p).toSF,(fPV m q).toSF] Tryz.func108 rfl kH ⟨h1,h2,trivial⟩ fun a s=> ?_
 refine wpIn_seq ?_
 refine zB 0 [] hmix s kH
  zE fun a w1 s=> ?_
 refine yJ (CU.agg (fPV m p)) rfl s kH (fun v W h=>yP h) fun b2 a w s=> ?_
 refine yJ (CU.agg (fPV m q)) rfl s kH (fun v W h=>yP h) fun b3 a w s=> ?_
 refine zZ (CU.len 3) (cs:=zR3) kH rfl s kH (fun W=>rfl) rfl fun b4 a w s=> ?_
 refine zA rfl ?_
 refine wpIn_seq ?_
 refine yN [] 13 ((5, .s (SF.ptr ((CU.agg (fPV m p)).cf.at 0)))::(6, .s ((fRV m ((p).1)).toSF))::(7, .s (SF.ptr ((CU.agg (fPV m q)).cf.at 3)))::(8, .s ((fRV m ((q).2)).toSF))::(9, .s (fQS m [(p).1,(q).2]))::(10, .s ((fQN ((p).1*(q).2)).toSF))::(11, .s (SF.ptr ((CU.agg (fPV m p)).cf.at 3)))::(12, .s ((fRV m ((p).2)).toSF))::(13, .s (SF.ptr ((CU.agg (fPV m q)).cf.at 0)))::(14, .s ((fRV m ((q).1)).toSF))::(15, .s (fQS m [(p).2,(q).1]))::(16, .s ((fQN ((p).2*(q).1)).toSF))::(17, .u (fQN ((p).1*(q).2 - (p).2*(q).1))):: []) hmix s kH
  (oc (zN (C:=(CU.agg (fPV m p)).cf) 0 kH)<|oc (zX (C:=(CU.agg (fPV m p)).cf) (k:=0) 3 kH (h:=zFi))<|oc (zN (C:=(CU.agg (fPV m q)).cf) 3 kH)<|oc (zX (C:=(CU.agg (fPV m q)).cf) (k:=3) 3 kH (h:=zDK))<|oc (yI (fun u v W (hu:RVp m ((p).1) u W) (hv:RVp m ((q).2) v W)=>zHN hu hv))<|oc (zI zD zPn (fun u0 W hb (h0:(fQS m [(p).1,(q).2]).p u0 W)=>zKY h0 hp.1 hq.2 oO (hT.below (s.up hb))))<|oc (zN (C:=(CU.agg (fPV m p)).cf) 3 kH)<|oc (zX (C:=(CU.agg (fPV m p)).cf) (k:=3) 3 kH (h:=zDK))<|oc (zN (C:=(CU.agg (fPV m q)).cf) 0 kH)<|oc (zX (C:=(CU.agg (fPV m q)).cf) (k:=0) 3 kH (h:=zFi))<|oc (yI (fun u v W (hu:RVp m ((p).2) u W) (hv:RVp m ((q).1) v W)=>zHN hu hv))<|oc (zI zD zPn (fun u0 W hb (h0:(fQS m [(p).2,(q).1]).p u0 W)=>zKY h0 hp.2 hq.1 oO (hT.below (s.up hb))))<|oc (zH zD zSQ (fun u0 u1 W hb (h0:QNp ((p).1*(q).2) u0 W) (h1:QNp ((p).2*(q).1) u1 W)=>zOU (QNp.rv h0 (hp.1.mul hq.2)) (QNp.rv h1 (hp.2.mul hq.1)) oO oO (hT.below (s.up hb))))<|zE) fun Q' hQ a w2 s=> ?_
 refine zV (CU.agg (fQN ((p).1*(q).2 - (p).2*(q).1))) ((fQN ((p).1*(q).2 - (p).2*(q).1)).toSF) rfl s kH rfl rfl rfl iiz iiz yL fun a w s=> ?_
 refine zA rfl (hQ _ _ ?_)
 refine wpIn_ret ?_
 exact StS.resC s (CU.agg (fQN (p.1*q.2 - p.2*q.1))) rfl kH rfl rfl (qY _) (fun cs W h=>h)
end Go.Proofs.Wd

namespace Lb
set_option maxHeartbeats 1000000
theorem zRp {l:List Nat} (ht:Lt l) {j s x:Nat} (hj:j<l.length) (hz: ∀i,i<j->lm l i=0) (hx:lm l j=2^s*x) (ho:x % 2=1):TZ (val l) (32*j+s)/\s<32:=by
 have hb:=qG ht j
 have hs:s<32:=by
  have h1:2^s*1<=2^s*x:=Nat.mul_le_mul_left _ oO
  rw [Nat.mul_one, <-hx] at h1
  exact (Nat.pow_lt_pow_iff_right dA).1 (Nat.lt_of_le_of_lt h1 (by rw [zUs] at hb;simpa using hb))
 refine ⟨?_,hs⟩
 have e0:val (l.take j)=0:=by
  rw [zFF oO]
  have:sm (lm l) j=sm (lm l) 0:=zCO (Nat.zero_le _) fun i _ hi=>hz i hi
  rw [this];rfl
 have e1:=jQ l j oO
 rw [e0,Nat.zero_add,zA8 hj,hx,zFD] at e1
 obtain ⟨y,hy⟩: ∃y,val (l.drop (j+1))=y:=⟨_,rfl⟩
 rw [hy,show BB=2^s*(2*2^(31 - s)) from by rw [<-Nat.pow_succ', <-Nat.pow_add,show s+(31 - s+1)=32 from by omega];rfl,Nat.mul_assoc, <-Nat.mul_add, <-Nat.mul_assoc, <-Nat.pow_add] at e1
 refine ⟨x / 2+2^(31 - s)*y, ?_⟩
 rw [e1]
 congr 1
 rw [Nat.mul_add, <-Nat.mul_assoc]
 omega
end Lb
namespace Go.Proofs.Wd
open Go.RowKit Lb
theorem zM6 (A:Option Addr) (n c:Nat) (l:List Nat) (w:World) (h:Rd w A n c l) (ht:Lt l) (h0:0<val l) (hn:n<=2000):
  ∃q t:Nat,TZ (val l) (32*q+t)/\t<=31/\q<n/\Calls Tryz.prog 144 #[.slice A n c] w fun e w'=>e= .returned (.int .i64 ((32*q+t:Nat):Int))/\w'=w:=by
 obtain ⟨j,hjn,hjz,hj0⟩: ∃j,j<n/\(∀i,i<j->lm l i=0)/\lm l j≠0:=by
  have hex: ∃j,lm l j≠0:=by
   refine Classical.byContradiction fun hc=> ?_
   have hz: ∀i,lm l i=0:=fun i=>Classical.byContradiction fun e=>hc ⟨i,e⟩
   have:sm (lm l) l.length=sm (lm l) 0:=zCO (Nat.zero_le _) fun i _ _=>hz i
   have e:val l=sm (lm l) l.length:=rfl
   rw [e,this] at h0
   simp [sm] at h0
  have hmin: ∀k,(∃j,j<=k/\lm l j≠0)-> ∃j,(∀i,i<j->lm l i=0)/\lm l j≠0:=by
   intro k
   induction k with
   |zero=>rintro ⟨j,hj,e⟩;exact ⟨j,fun i hi=>by omega,e⟩
   |succ k ih=>
    rintro ⟨j,hj,e⟩
    by_cases hk: ∃j,j<=k/\lm l j≠0
    ·exact ih hk
    ·exact ⟨j,fun i hi=>Classical.byContradiction fun e'=>hk ⟨i,by omega,e'⟩,e⟩
  obtain ⟨j0,hj0⟩:=hex
  obtain ⟨j,h1,h2⟩:=hmin j0 ⟨j0,Nat.le_refl _,hj0⟩
  refine ⟨j, ?_,h1,h2⟩
  rw [<-h.len]
  exact Nat.lt_of_not_le fun e=>h2 (zDo e)
 obtain ⟨s,hs⟩:=TZ.exists (lm l j) oO
 obtain ⟨m,hm⟩:=hs
 obtain ⟨htz,hs32⟩:=zRp ht (s:=s) (x:=2*m+1) (by rw [h.len];exact hjn) hjz hm oO
 refine ⟨j,s,htz,by omega,hjn, ?_⟩
 have hb:=qG ht j
 have hle:=h.le;have hcap:=h.cap
 have HJZ:=hid hjz;have HM:=hid hm;have HB:=hid hb
 obtain ⟨d,hd⟩: ∃d:Nat->Nat,d=fun i=>2^(s - i)*(2*m+1):=⟨_,rfl⟩
 have hd0:d 0=lm l j:=by rw [hd,hm];rfl
 have hds:d s % 2=1:=by rw [hd];simp
 have hdi: ∀i,i<s->d i % 2=0/\d i / 2=d (i+1):=fun i hi=>by
  rw [hd]
  show 2^(s - i)*(2*m+1) % 2=0/\2^(s - i)*(2*m+1) / 2=2^(s - (i+1))*(2*m+1)
  rw [show s - i=(s - (i+1))+1 from by omega,Nat.pow_succ',Nat.mul_assoc]
  omega
 have hdl: ∀i,d i<=d 0:=fun i=>by
  rw [hd]
  exact Nat.mul_le_mul_right _ (Nat.pow_le_pow_right oO oO)
 have HD0:=hid hd0;have HDS:=hid hds;have HDI:=hid hdi;have HDL:=hid hdl
 clear hd hd0 hds hdi hdl
 have HL:Hid (∀i,lm l i<4294967296):=hid fun i=>qG ht i
 clear hjz hm htz hb h0
 go_enter Tryz.func144,Tryz.ntmps144
 go_wp2
 go_loopw [3,4] (fun t i wr=> ∃k:Nat,k<=j/\i= .int .i64 k/\t= .int .i64 ((32*k:Nat):Int)/\wr=w) (fun _ i _=>j - (intOf i).toNat)
 case atStart=>exact ⟨0,Nat.zero_le _,rfl,rfl,rfl⟩
 case round=>
  obtain ⟨k,hk,rfl,rfl,rfl⟩:=hrel
  obtain ⟨b,o,rfl,hc⟩:=h.cells k oO
  by_cases hkj:k<j
  ·have hz:=HJZ.out k hkj
   rw [hz] at hc
   clear hz
   go_wp2
   go_roundw
   case rel=>exact ⟨k+1,by omega,by go_num,by go_num,trivial⟩
   case measure=>simp [intOf];omega
  ·obtain rfl:k=j:=by omega
   have hlk:=HL.out k
   obtain ⟨x,hx⟩: ∃x,lm l k=x:=⟨_,rfl⟩
   rw [hx] at hc hj0 hlk
   have HX:=hid hx
   clear hx
   have e1:((32*k:Nat):Int).tdiv 32=(k:Int):=by rw [Int.tdiv_eq_ediv_of_nonneg oO];omega
   have e2:(((32*k:Nat):Int) / 32)=(k:Int):=by omega
   have hx2:((x:Int)==0)=false:=by simpa using hj0
   go_wp2
   go_loopw [3,5] (fun t y wr2=> ∃i:Nat,i<=s/\t= .int .i64 ((32*k+i:Nat):Int)/\y= .int .u32 (d i:Nat)/\wr2=wr) (fun t _ _=>32*k+s - (intOf t).toNat)
   case atStart=>exact ⟨0,Nat.zero_le _,rfl,by rw [HD0.out,HX.out],rfl⟩
   case round=>
    obtain ⟨i,hi,rfl,rfl,rfl⟩:=hrel
    have hdx:=HDL.out i
    rw [HD0.out,HX.out] at hdx
    by_cases his:i<s
    ·obtain ⟨q1,q2⟩:=HDI.out i his
     obtain ⟨y,hy⟩: ∃y,d i=y:=⟨_,rfl⟩
     rw [hy] at q1 q2 hdx ⊢
     have HY:=hid q2
     clear q2 hy
     go_wp2
     go_roundw
     case rel=>exact ⟨i+1,by omega,by go_num,by rw [<-HY.out];go_num,trivial⟩
     case measure=>simp [intOf];omega
    ·obtain rfl:i=s:=by omega
     have q1:=HDS.out
     obtain ⟨y,hy⟩: ∃y,d i=y:=⟨_,rfl⟩
     rw [hy] at q1 hdx ⊢
     clear hy
     go_wp2
     go_ret
     exact ⟨rfl,rfl⟩
theorem zKX {W:World} {m:Nat} {v v':Value} {a b:Nat} (h:LV W m v a) (h':LV W m v' b) (hm:m<=100000):Calls Tryz.prog 70 #[v,v'] W (zMS W (a*b)):=by
 obtain ⟨A,n,c,l,rfl,h1,h2,h3,rfl⟩:=h
 obtain ⟨A',n',c',l',rfl,h1',h2',h3',rfl⟩:=h'
 exact (zIK A n c l A' n' c' l' W h1 h1' h2 h2' oO oO).mono fun _ _=>q8.v
theorem zDG {W:World} {m:Nat} {v:Value} {a:Nat} (h:LV W m v a) (hm:m<=100000):Calls Tryz.prog 85 #[v] W (zMS W a):=by
 obtain ⟨A,n,c,l,rfl,h1,h2,h3,rfl⟩:=h
 exact (jD A n c l W h1 h2 oO).mono fun _ _=>q8.v
theorem qI.open {W:World} {v:Value} {x:Nat} (h:qI W v x): ∃A n c,v= .slice A n c/\(x=0->n=0)/\(0<x->0<n)/\n<=c/\c<=9223372036854775807/\qI W (.slice A n c) x:=by
 obtain ⟨A,n,c,l,rfl,h1,h2⟩:=h
 have h3:=h1.zero_iff;have h4:=h1.pos_iff
 rw [h2.len] at h3 h4
 exact ⟨A,n,c,rfl,h3.1,h4.1,h2.le,h2.cap,⟨A,n,c,l,rfl,h1,h2⟩⟩
end Go.Proofs.Wd

namespace Lb
set_option maxHeartbeats 2000000
theorem zO5 {x k:Nat} (h:TZ x k):x / 2^k % 2=1/\x / 2^k<=x/\0<x / 2^k:=by
 have:=h.part.2
 exact ⟨this,Nat.div_le_self _ _,Nat.pos_of_ne_zero fun e=>by rw [e] at this;simp at this⟩
def Bin (G x y:Nat):Prop:=0<y/\(x=0->y=G)/\ ∀i j,TZ x i->TZ y j->Nat.gcd (x / 2^i) (y / 2^j)=G
theorem Bin.start {a b i j:Nat} (hi:TZ a i) (hj:TZ b j):Bin (Nat.gcd (a / 2^i) (b / 2^j)) a b:=
 ⟨hj.pos,fun e=>by have:=hi.pos;omega,fun i' j' h1 h2=>by rw [h1.unique hi,h2.unique hj]⟩
theorem Bin.turn {G x y:Nat} (hx:x % 2=1) (hy:y % 2=1) (hg:Nat.gcd x y=G) (hle:y<=x):Bin G (x - y) y:=by
 refine ⟨by omega,fun e=> ?_,fun i j h1 h2=> ?_⟩
 ·have:x=y:=by omega
  rw [<-hg,this,Nat.gcd_self]
 ·have hj:j=0:=h2.unique (TZ.odd hy)
  rw [hj,Nat.pow_zero,Nat.div_one,Nat.gcd_comm,TZ.gcd_odd hy h1,Nat.gcd_comm,zGj hle,hg]
end Lb
namespace Go.Proofs.Wd
open Go.RowKit Lb
theorem zK2 {W:World} {m:Nat} {A:Option Addr} {n c:Nat} {x q t:Nat} (h:qI W (.slice A n c) x) (hx:x<BB^m) (hm:m<=2000) (htt:t<=31) (hq:q<n):Calls Tryz.prog 145 #[.slice A n c, .int .i64 ((32*q+t:Nat):Int)] W (zMS W (x / 2^(32*q+t))):=by
 obtain ⟨A1,n1,c1,l1,e1,h1,h2⟩:=h
 cases e1
 have hn:n<=m:=zHi h1 h2 hx
 have:=zK3 A n c l1 q t W h2 h1.lt htt oO oO oO
 rw [h1.val] at this
 exact this.mono fun _ _=>q8.v
theorem zTF {W:World} {m:Nat} {A:Option Addr} {n c:Nat} {x q t:Nat} (h:LV W m (.slice A n c) x) (hm:m<=2000) (htt:t<=31) (hq:q<=2000):Calls Tryz.prog 148 #[.slice A n c, .int .i64 ((32*q+t:Nat):Int)] W (zMS W (x*2^(32*q+t))):=by
 obtain ⟨A1,n1,c1,l1,e1,h1,h2,h3,rfl⟩:=h
 cases e1
 exact (zKM A n c l1 q t W h1 h2 htt oO oO).mono fun _ _=>q8.v
def zUl (w:World) (x:Nat):Ending->World->Prop:=fun e w'=> ∃v,e= .returned (.tuple #[v, .int .i64 0])/\qI w' v x/\Below w.heap.size w w'
theorem zOS {W:World} {m:Nat} {v v':Value} {a b:Nat} (h:LV W m v a) (h':LV W m v' b) (hm:m<=2000) (hab:b<=a):Calls Tryz.prog 147 #[v,v'] W (zUl W (a - b)):=by
 obtain ⟨A,n,c,l,rfl,h1,h2,h3,rfl⟩:=h
 obtain ⟨A',n',c',l',rfl,h1',h2',h3',rfl⟩:=h'
 refine (zFO A n c l A' n' c' l' W h1 h1' h2 h2' hab oO).mono ?_
 rintro e w' ⟨A1,n1,c1,l1,rfl,i1,r1,hb⟩
 exact ⟨_,rfl,⟨A1,n1,c1,l1,rfl,i1,r1⟩,hb⟩
theorem zIq {W:World} {m:Nat} {A:Option Addr} {n c:Nat} {x:Nat} (h:qI W (.slice A n c) x) (hx:x<BB^m) (hm:m<=2000) (h0:0<x):
  ∃q t:Nat,TZ x (32*q+t)/\t<=31/\q<n/\n<=m/\Calls Tryz.prog 144 #[.slice A n c] W fun e w'=>e= .returned (.int .i64 ((32*q+t:Nat):Int))/\w'=W:=by
 obtain ⟨A1,n1,c1,l1,e1,h1,h2⟩:=h
 cases e1
 have hn:n<=m:=zHi h1 h2 hx
 obtain ⟨q,t,k1,k2,k3,k4⟩:=zM6 A n c l1 W h2 h1.lt (by rw [h1.val];exact h0) oO
 rw [h1.val] at k1
 exact ⟨q,t,k1,k2,k3,hn,k4⟩
theorem qI.rdv {W:World} {v:Value} {x:Nat} (h:qI W v x):rdv W v=x:=by
 obtain ⟨A1,n1,c1,l1,rfl,h1,h2⟩:=h
 exact h2.rdv h1
def RgI (w:World) (m G:Nat) (u v:Value) (W:World):Prop:= ∃A n c A' n' c' x y,u= .slice A n c/\v= .slice A' n' c'/\qI W (.slice A n c) x/\qI W (.slice A' n' c') y/\x<BB^m/\y<BB^m/\Bin G x y/\Below w.heap.size w W
theorem zQt {W:World} {m:Nat} {v v':Value} {a b:Nat} (h:LV W m v a) (h':LV W m v' b) (hm:m<=2000):Calls Tryz.prog 114 #[v,v'] W (zMS W (Nat.gcd a b)):=by
 have hla:=h.bound;have hlb:=h'.bound
 obtain ⟨A0,n0,c0,rfl,-,k1,k2,h⟩:=h.open
 obtain ⟨B0,m0,d0,rfl,-,k3,k4,h'⟩:=h'.open
 go_enter Tryz.func114,Tryz.ntmps114
 go_wp2_with fail
 refine (zDG h oO).mono ?_
 rintro e w1 ⟨va,rfl,ha,b1⟩
 obtain ⟨A,n,c,rfl,za,pa,ia,ja,ha⟩:=ha.open
 go_wp2_with fail
 refine (zDG (h'.below b1) oO).mono ?_
 rintro e w2 ⟨vb,rfl,hb,b2⟩
 obtain ⟨A',n',c',rfl,zb,pb,ib,jb,hb⟩:=hb.open
 have b02:=b1.trans (b2.mono b1.size)
 have ha2:=ha.below b2
 clear h h' ha b1 b2 k1 k2 k3 k4
 by_cases h0:a=0∨b=0
 ·have hg:Nat.gcd a b=a+b:=by
   rcases h0 with e|e
   ·rw [e];simp
   ·rw [e];simp
  have h00:n=0∨(0<n/\n'=0):=by
   rcases Nat.eq_zero_or_pos n with e|e
   ·exact .inl e
   ·refine .inr ⟨e,zb (h0.resolve_left fun e'=> ?_)⟩
    have:=za e';omega
  have HG:=hid hg
  clear za pa zb pb h0 hg
  have ad:=zQe (ha2.lv hla) (hb.lv hlb) oO 24
  have bS:Below w2.heap.size w2 (w2.alloc (.cells #[.slice A n c, .slice A' n' c'] 24)):=(Below.refl _ w2).alloc (Nat.le_refl _) _
  have HLA:=hid hla;have HLB:=hid hlb
  clear hla hlb
  rcases h00 with rfl|⟨e1,rfl⟩
  all_goals
   go_wp2_with fail
   refine ad.mono ?_
   rintro e w4 ⟨vs,rfl,hs,b4⟩
   go_wp2_with fail
   go_ret
   exact ⟨vs,rfl,by rw [HG.out];exact hs,b02.trans ((bS.trans (b4.mono bS.size)).mono b02.size)⟩
 ·have hn0:0<n:=pa oO
  have hn0':0<n':=pb oO
  have hnb:((n:Int)==0)=false:=by simp;omega
  have hnb':((n':Int)==0)=false:=by simp;omega
  obtain ⟨q,t,hz,ht,hq,hnm,htw⟩:=zIq ha2 hla hm oO
  obtain ⟨q',t',hz',ht',hq',hnm',htw'⟩:=zIq hb hlb hm oO
  have hgcd:=hz.gcd hz'
  have hbin:=Bin.start hz hz'
  have hG0:Nat.gcd (a / 2^(32*q+t)) (b / 2^(32*q'+t'))<BB^m:=zPd (Nat.lt_of_le_of_lt (Nat.div_le_self _ _) hla) (Nat.lt_of_le_of_lt (Nat.div_le_self _ _) hlb)
  obtain ⟨G,hG⟩: ∃G,Nat.gcd (a / 2^(32*q+t)) (b / 2^(32*q'+t'))=G:=⟨_,rfl⟩
  rw [hG] at hgcd hbin hG0
  obtain ⟨p,s,hs,hps,hpq⟩: ∃p s:Nat,s<=31/\p<=2000/\min (32*q+t) (32*q'+t')=32*p+s:=by
   rcases Nat.le_total (32*q+t) (32*q'+t') with e|e
   ·exact ⟨q,t,ht,by omega,by omega⟩
   ·exact ⟨q',t',ht',by omega,by omega⟩
  rw [hpq] at hgcd
  have hmin:min ((32*q+t:Nat):Int) ((32*q'+t':Nat):Int)=((32*p+s:Nat):Int):=by omega
  have HGC:=hid hgcd;have HBI:=hid hbin;have HG0:=hid hG0
  obtain ⟨k,hk⟩: ∃k,32*q+t=k:=⟨_,rfl⟩
  obtain ⟨k',hk'⟩: ∃k,32*q'+t'=k:=⟨_,rfl⟩
  rw [hk] at htw hmin
  rw [hk'] at htw' hmin
  obtain ⟨K,hK⟩: ∃K,32*p+s=K:=⟨_,rfl⟩
  rw [hK] at hmin
  have HK:=hid hK
  have hK2:K<=64500:=by omega
  have hk2:k<=64500:=by omega
  have hk2':k'<=64500:=by omega
  have HLA:=hid hla;have HLB:=hid hlb
  clear hgcd hbin hG0 hz hz' hG hpq hk hk' hK za pa zb pb hq hq' ht ht' hnm hnm' h0 hla hlb
  go_wp2_with fail
  refine htw.mono ?_
  rintro e w3 ⟨rfl,rfl⟩
  go_wp2_with fail
  refine htw'.mono ?_
  rintro e w3 ⟨rfl,rfl⟩
  go_wp2
  go_loopw [0,1] (RgI W m G) (fun u v wr=>rdv wr u+rdv wr v)
  case atStart=>exact ⟨A,n,c,A',n',c',a,b,rfl,rfl,ha2,hb,HLA.out,HLB.out,HBI.out,b02⟩
  case round=>
   clear ha2 hb b02 hn0 hn0' hnb hnb' htw htw' ia ja ib jb hmin
   obtain ⟨A1,n1,c1,A2,n2,c2,x,y,rfl,rfl,hx,hy,hxl,hyl,hbn,hB⟩:=hrel
   obtain ⟨_,_,_,e1,zx,px,ix,jx,_⟩:=hx.open
   cases e1
   obtain ⟨_,_,_,e1,zy,py,iy,jy,_⟩:=hy.open
   cases e1
   have hy0:=hbn.1
   have HBN:=hid hbn
   have HXL:=hid hxl;have HYL:=hid hyl
   rcases Nat.eq_zero_or_pos n1 with h0|h0
   ·have hx0:x=0:=by
     rcases Nat.eq_zero_or_pos x with e|e
     ·exact e
     ·have:=px e;omega
    have hyG:=hbn.2.1 hx0
    have HYG:=hid hyG
    have hup:=zTF (q:=p) (t:=s) (hy.lv hyl) hm hs hps
    rw [HK.out] at hup
    subst h0
    clear hbn hxl hyl hx0 hyG zx px zy py
    go_wp2_with fail
    refine hup.mono ?_
    rintro e w5 ⟨v5,rfl,hv5,hb5⟩
    go_wp2_with fail
    go_ret
    exact ⟨v5,rfl,by rw [HGC.out,HK.out, <-HYG.out,Nat.mul_comm];exact hv5,hB.trans (hb5.mono hB.size)⟩
   ·have hx0:0<x:=Nat.pos_of_ne_zero fun e=>by have:=zx e;omega
    obtain ⟨q1,t1,z1,ht1,hq1,hnm1,htw1⟩:=zIq hx hxl hm hx0
    have hd1:=zK2 hx hxl hm ht1 hq1
    obtain ⟨o1,o2,o3⟩:=zO5 z1
    obtain ⟨k1,hk1⟩: ∃k,32*q1+t1=k:=⟨_,rfl⟩
    have hk1l:k1<=64500:=by omega
    rw [hk1] at htw1 hd1 z1 o1 o2 o3
    have Z1:=hid z1
    obtain ⟨X,hX⟩: ∃X,x / 2^k1=X:=⟨_,rfl⟩
    have HX:=hid hX
    rw [hX] at hd1 o1 o2 o3
    clear z1 hX hk1 ht1 hq1 hnm1 hbn zx px zy py
    have HO1:=hid o1
    have hrx:=hx.rdv;have hry:=hy.rdv
    have HRX:=hid hrx;have HRY:=hid hry
    clear hrx hry o1
    go_wp2_with fail
    refine htw1.mono ?_
    rintro e w5 ⟨rfl,rfl⟩
    go_wp2_with fail
    refine hd1.mono ?_
    rintro e w6 ⟨v6,rfl,h6,b6⟩
    obtain ⟨A6,n6,c6,rfl,z6,p6,i6,j6,h6⟩:=h6.open
    have hy6:=hy.below b6
    obtain ⟨q2,t2,z2,ht2,hq2,hnm2,htw2⟩:=zIq hy6 hyl hm hy0
    have hd2:=zK2 hy6 hyl hm ht2 hq2
    obtain ⟨o4,o5,o6⟩:=zO5 z2
    obtain ⟨k2,hk2⟩: ∃k,32*q2+t2=k:=⟨_,rfl⟩
    have hk2l:k2<=64500:=by omega
    rw [hk2] at htw2 hd2 z2 o4 o5 o6
    have Z2:=hid z2
    obtain ⟨Y,hY⟩: ∃Y,y / 2^k2=Y:=⟨_,rfl⟩
    have HY:=hid hY
    rw [hY] at hd2 o4 o5 o6
    clear z2 hY hk2 ht2 hq2 hnm2 htw1 hd1 z6 p6
    have HO4:=hid o4
    clear o4
    go_wp2_with fail
    refine htw2.mono ?_
    rintro e w7 ⟨rfl,rfl⟩
    go_wp2_with fail
    refine hd2.mono ?_
    rintro e w8 ⟨v8,rfl,h8,b8⟩
    obtain ⟨A8,n8,c8,rfl,z8,p8,i8,j8,h8⟩:=h8.open
    have h68:=h6.below b8
    have b68:=b6.trans (b8.mono b6.size)
    have hB8:=hB.trans (b68.mono hB.size)
    have hXl:X<BB^m:=Nat.lt_of_le_of_lt o2 HXL.out
    have hYl:Y<BB^m:=Nat.lt_of_le_of_lt o5 HYL.out
    have hXY:Nat.gcd X Y=G:=by rw [<-HX.out, <-HY.out];exact HBN.out.2.2 _ _ Z1.out Z2.out
    have HXY:=hid hXY
    obtain ⟨cz,hcz⟩: ∃cz,zAr X Y=cz:=⟨_,rfl⟩
    have hc1:=zRH (h68.lv hXl) (h8.lv hYl)
    have hcl:cz<0↔X<Y:=by
     rw [<-hcz]
     unfold zAr
     split
     ·exact ⟨fun _=>by assumption,fun _=>by omega⟩
     ·split
      ·exact ⟨fun h=>by omega,fun h=>by omega⟩
      ·exact ⟨fun h=>by omega,fun h=>by omega⟩
    rw [hcz] at hc1
    clear htw2 hd2 z8 p8 h6 hy6 hx hy hXY hcz hxl hyl
    have HXl:=hid hXl;have HYl:=hid hYl
    clear hXl hYl
    rcases Nat.lt_or_ge X Y with hlt|hge
    ·have hcz:cz<0:=hcl.2 hlt
     have hsb:=zOS (h8.lv HYl.out) (h68.lv HXl.out) hm (Nat.le_of_lt hlt)
     have hbt:=Bin.turn (G:=G) HO4.out HO1.out (by rw [Nat.gcd_comm];exact HXY.out) (Nat.le_of_lt hlt)
     have HBT:=hid hbt
     clear hbt hcl
     go_wp2_with fail
     refine hc1.mono ?_
     rintro e w9 ⟨rfl,rfl⟩
     go_wp2_with fail
     refine hsb.mono ?_
     rintro e w10 ⟨v10,rfl,h10,b10⟩
     obtain ⟨A10,n10,c10,rfl,z10,p10,i10,j10,h10⟩:=h10.open
     clear z10 p10
     go_wp2_with fail
     refine ⟨⟨A10,n10,c10,A6,n6,c6,Y - X,X,rfl,rfl,h10,h68.below b10,Nat.lt_of_le_of_lt (Nat.sub_le _ _) HYl.out,HXl.out,HBT.out,hB8.trans (b10.mono hB8.size)⟩, ?_⟩
     show rdv _ _+rdv _ _<rdv _ _+rdv _ _
     rw [h10.rdv,(h68.below b10).rdv,HRX.out,HRY.out]
     omega
    ·have hcz: ¬cz<0:=fun e=>by have:=hcl.1 e;omega
     have hsb:=zOS (h68.lv HXl.out) (h8.lv HYl.out) hm hge
     have hbt:=Bin.turn (G:=G) HO1.out HO4.out HXY.out hge
     have HBT:=hid hbt
     clear hbt hcl
     go_wp2_with fail
     refine hc1.mono ?_
     rintro e w9 ⟨rfl,rfl⟩
     go_wp2_with fail
     refine hsb.mono ?_
     rintro e w10 ⟨v10,rfl,h10,b10⟩
     obtain ⟨A10,n10,c10,rfl,z10,p10,i10,j10,h10⟩:=h10.open
     clear z10 p10
     go_wp2_with fail
     refine ⟨⟨A10,n10,c10,A8,n8,c8,X - Y,Y,rfl,rfl,h10,h8.below b10,Nat.lt_of_le_of_lt (Nat.sub_le _ _) HXl.out,HYl.out,HBT.out,hB8.trans (b10.mono hB8.size)⟩, ?_⟩
     show rdv _ _+rdv _ _<rdv _ _+rdv _ _
     rw [h10.rdv,(h8.below b10).rdv,HRX.out,HRY.out]
     omega
theorem zRL {W:World} {u:Value} (k:Int) (hu:u= .int .i64 k) (h: -9223372036854775808<=k/\k<=9223372036854775807):Calls Tryz.prog 71 #[u] W (zGu W k):=by
 subst hu
 exact zRM k h
end Go.Proofs.Wd

namespace Go.Proofs.Wd
set_option maxRecDepth 100000
open Go.RowKit Lb
def zMj:Nat:=10000
theorem zSe {x:Nat} (h:x<18446744073709551616) (m:Nat) (hm:2<=m):x<BB^m:=Nat.lt_of_lt_of_le h (Nat.le_trans (show 18446744073709551616<=BB^2 by decide) (Nat.pow_le_pow_right yY hm))
theorem zGS {W:World} {m:Nat} {v:Value} {x:Nat} (h:LV W m v x) (hm:m<=100000):Calls Tryz.prog 111 #[v] W (Ret W (zAR (UF.eq (.int .u64 ((zK x:Nat):Int))) (fB (yS x))).toSF):=by
 obtain ⟨A,n,c,l,rfl,h1,h2,h3,rfl⟩:=h
 refine (zJR A n c l W h1 h2 oO).mono ?_
 rintro e w' ⟨rfl,hb⟩
 exact ⟨_,rfl,⟨_,_,rfl,rfl,rfl⟩,hb⟩
theorem zOV {W:World} {v:Value} (x:Nat) (hx:x<18446744073709551616) (hv:v= .int .u64 (x:Int)):Calls Tryz.prog 113 #[v] W (Ret W (qU x).toSF):=by
 subst hv
 exact (zHO x hx W).mono fun _ _ h=>q8.v h
theorem zAC (x:Nat):zK x<18446744073709551616:=by unfold zK;split<;>omega
theorem zLA {F:Fence} {m:Nat} {P:Program} {w0:World} {ops:Array Oper} {G:Nat->SF} {d:Tmp} {ty:TypeId} {pos:String} {aft:Array Edge} {t:TypeId} {x y:Operand} {t':TypeId} (k:IntKind) (u v r:Int) (hx: ∀q W,(fct G x).p q W->q= .int k u) (hy: ∀q W,(fct G y).p q W->q= .int k v) (hv:v≠0) (hr:k.wrap (u.tdiv v)=r) (hd: ∀W,(G d).p (.int k r) W:=by exact fun _=>rfl):qK F m P w0 ops G ⟨some d, .binOp .quo t x y t',ty,pos,aft,none⟩:=
 zB6 (.int k u) (.int k v) (.int k r) hx hy (fun W=>by simp [eqGuard]) (fun W=>by simp [binOp,Op.intDiv,hv,hr]) hd
theorem zRo (u:Int) (r:Nat) (h:u=r) (hr:r<18446744073709551616):IntKind.u64.wrap u=r:=by
 subst h
 rw [IntKind.wrap_u64]
 omega
theorem zIZ {W:World} {v:Value} {x:Nat} (h:qI W v x):Calls Tryz.prog 88 #[v] W (Ret W (fNV (x:Int)).toSF):=by
 refine yD [(qU x).toSF] Tryz.func88 rfl kH ⟨h,trivial⟩ fun a s=> ?_
 refine wpIn_seq ?_
 refine zB 0 [] hmix s kH
  zE fun a w1 s=> ?_
 refine zZ (CU.len 2) (cs:= [.bool false, .slice none 0 0]) kH rfl s kH (fun W=>rfl) rfl fun b2 a w s=> ?_
 refine zA rfl ?_
 refine wpIn_seq ?_
 refine zB 2 ((3, .s ((qU x).toSF))::(4, .u (fNV (x:Int))):: []) hmix s kH
  (oc zC<|oc (zE0 (fun u W (hu:qI W u x)=>zMI hu))<|zE) fun a w2 s=> ?_
 refine zV (CU.agg (fNV (x:Int))) ((fNV (x:Int)).toSF) rfl s kH rfl rfl rfl iiz iiz zF5 fun a w s=> ?_
 refine zA rfl ?_
 refine wpIn_ret ?_
 exact StS.resC s (CU.agg (fNV (x:Int))) rfl kH rfl rfl (zO7 _) (fun cs W h=>h)
theorem zD5 {W:World} {v:Value} (z:Int) (hv:v= .int .i64 z) (hz: -9223372036854775808<=z/\z<=9223372036854775807):Calls Tryz.prog 21 #[v] W (Ret W (fQN (z:Rat)).toSF):=by
 refine yD [(fI z).toSF] Tryz.func21 rfl kH ⟨hv,trivial⟩ fun a s=> ?_
 refine wpIn_seq ?_
 refine zB 0 [] hmix s kH
  zE fun a w1 s=> ?_
 refine zZ (CU.len 3) (cs:=zR3) kH rfl s kH (fun W=>rfl) rfl fun b2 a w s=> ?_
 refine zA rfl ?_
 refine wpIn_seq ?_
 refine zB 4 ((3, .s ((uI z).toSF))::(4, .s ((fNV z).toSF))::(5, .s ((qU 1).toSF))::(6, .u (fQN (z:Rat))):: []) hmix s kH
  (oc zC<|oc (zI zD zT4 (fun u0 W hb (h0:u0= .int .i64 z)=>zRL z h0 hz))<|oc (zAd (fun u W (hu:u= .int .u32 1)=>zOQ hu))<|oc (qO (fun u v W (hu:NV W u z) (hv:qI W v 1)=>zHv (q:=(z:Rat)) hu hv))<|zE) fun a w2 s=> ?_
 refine zV (CU.agg (fQN (z:Rat))) ((fQN (z:Rat)).toSF) rfl s kH rfl rfl rfl iiz iiz yL fun a w s=> ?_
 refine zA rfl ?_
 refine wpIn_ret ?_
 exact StS.resC s (CU.agg (fQN (z:Rat))) rfl kH rfl rfl (qY _) (fun cs W h=>h)
theorem zD7 (k:Int) (d:Nat) (h:0<d):(if decide (k<0) then -((k.natAbs / Nat.gcd k.natAbs d:Nat):Int) else ((k.natAbs / Nat.gcd k.natAbs d:Nat):Int))=(mkRat k d).num:=by
 have h1:=zDm k d h
 have h2:=zB1 k d h
 rw [<-h1, <-h2]
 by_cases hs:(mkRat k d).num<0
 ·rw [decide_eq_true hs,if_pos rfl]
  omega
 ·rw [decide_eq_false hs,if_neg dA]
  omega
theorem zQj {W:World} {m:Nat} {v v':Value} {k:Int} {d:Nat} (h:UV W m v k) (h':LV W m v' d) (hm:m<=2000) (hd:d=0):Calls Tryz.prog 68 #[v,v'] W (Ret W (zAR (fQN (mkRat k d)) (fI 30)).toSF):=by
 have bk:k.natAbs<BB^m:=h.bound
 have hz:true=decide (d=0):=(decide_eq_true hd).symm
 have hq0:mkRat k d=((0:Int):Rat):=by rw [hd,Rat.mkRat_zero];rfl
 refine yD [(fUV m k).toSF,(fLV m d).toSF] Tryz.func68 rfl kH ⟨h,h',trivial⟩ fun a s=> ?_
 refine wpIn_seq ?_
 refine zB 0 [] hmix s kH
  zE fun a w1 s=> ?_
 refine yJ (CU.agg (fUV m k)) rfl s kH (fun v W h=>zOH h) fun b2 a w s=> ?_
 refine zZ (CU.len 3) (cs:=zR3) kH rfl s kH (fun W=>rfl) rfl fun b4 a w s=> ?_
 refine yU (uI 0) rfl s kH iiz fun a w s=> ?_
 refine zA rfl ?_
 refine wpIn_seq ?_
 refine wpIn_seq ?_
 refine zB 4 ((18, .s ((fLV m d).toSF))::(19, .s ((qU d).toSF))::(20, .s (zPg d))::(21, .u (uB true)):: []) hmix s kH
  (oc zC<|oc (zI zD zOn (fun u0 W hb (h0:LV W m u0 d)=>(zDG h0 oO)))<|oc (zDQ kH iiz)<|oc (zDR hz)<|zE) fun a w2 s=> ?_
 refine zA rfl ?_
 refine StS.cond s true iiz (fun e=> ?_) (fun e=>by cases e)
 refine wpIn_seq ?_
 replace s:=s.drop [5]
 refine zB 1 ((22, .u (fQN ((0:Int):Rat))):: []) hmix s kH
  (oc (zI zD zHo (fun u0 W hb (h0:u0= .int .i64 0)=>zD5 0 h0 dA))<|zE) fun a w3 s=> ?_
 refine zV (CU.agg (fQN ((0:Int):Rat))) ((fQN ((0:Int):Rat)).toSF) rfl s kH rfl rfl rfl iiz iiz yL fun a w s=> ?_
 refine yU (uI 30) rfl s kH iiz fun a w s=> ?_
 refine zA rfl ?_
 refine wpIn_ret ?_
 exact StS.resCT s (CU.agg (fQN ((0:Int):Rat))) rfl kH rfl rfl (qY _) (fun cs v W h1 h2=>⟨_,_,rfl,by rw [hq0];exact h1,h2⟩)
theorem zLc {W:World} {m:Nat} {v v':Value} {k:Int} {d:Nat} (h:UV W m v k) (h':LV W m v' d) (hm:m<=2000) (hd0:0<d):Calls Tryz.prog 68 #[v,v'] W (Ret W (zAR (fQN (mkRat k d)) (fI 0)).toSF):=by
 have bk:k.natAbs<BB^m:=h.bound
 have hz:false=decide (d=0):=(decide_eq_false oO).symm
 have hdiv: ∀W u0 u1 x,LV W m u0 x->qI W u1 (Nat.gcd k.natAbs d)->Calls Tryz.prog 115 #[u0,u1] W (Ret W (zB8 (qU (x / (Nat.gcd k.natAbs d))) (qU (x % (Nat.gcd k.natAbs d))) (fI 0)).toSF):=fun W u0 u1 x h1 h2=>by
  refine (zRG h1 (qI.lv (m:=m) h2 (Nat.lt_of_le_of_lt (Nat.gcd_le_right _ hd0) h'.bound)) oO (Nat.gcd_pos_of_pos_right _ hd0)).mono ?_
  rintro e w' ⟨v1,v2,rfl,h3,h4,hb⟩
  exact ⟨_,rfl,⟨v1,v2,_,rfl,h3,h4,rfl⟩,hb⟩
 refine yD [(fUV m k).toSF,(fLV m d).toSF] Tryz.func68 rfl kH ⟨h,h',trivial⟩ fun a s=> ?_
 refine wpIn_seq ?_
 refine zB 0 [] hmix s kH
  zE fun a w1 s=> ?_
 refine yJ (CU.agg (fUV m k)) rfl s kH (fun v W h=>zOH h) fun b2 a w s=> ?_
 refine zZ (CU.len 3) (cs:=zR3) kH rfl s kH (fun W=>rfl) rfl fun b4 a w s=> ?_
 refine yU (uI 0) rfl s kH iiz fun a w s=> ?_
 refine zA rfl ?_
 refine wpIn_seq ?_
 refine wpIn_seq ?_
 refine zB 4 ((18, .s ((fLV m d).toSF))::(19, .s ((qU d).toSF))::(20, .s (zPg d))::(21, .u (uB false)):: []) hmix s kH
  (oc zC<|oc (zI zD zOn (fun u0 W hb (h0:LV W m u0 d)=>(zDG h0 oO)))<|oc (zDQ kH iiz)<|oc (zDR hz)<|zE) fun a w2 s=> ?_
 refine zA rfl ?_
 refine StS.cond s false iiz (fun e=>by cases e) (fun e=> ?_)
 refine wpIn_skip ?_
 refine wpIn_seq ?_
 refine zB 2 ((23, .s ((fUV m k).toSF))::(24, .u (fNV k)):: []) hmix s kH
  (oc (zJ (f:=fUV m k) 2 kH (hz:=zOG _ _))<|oc (zI zD zMt (fun u0 W hb (h0:UV W m u0 k)=>zFT h0 oO))<|zE) fun a w3 s=> ?_
 refine zV (CU.agg (fNV k)) ((fNV k).toSF) rfl s kH rfl rfl rfl (zOG _ _) iiz zF5 fun a w s=> ?_
 refine zA rfl ?_
 refine wpIn_seq ?_
 refine zB 8 ((26, .s (SF.ptr ((CU.agg (fNV k)).cf.at 1)))::(27, .s ((qU ((k).natAbs)).toSF))::(28, .s ((zAR (UF.eq (.int .u64 ((zK ((k).natAbs):Nat):Int))) (uB (yS ((k).natAbs)))).toSF))::(25, .s ((zAR (UF.eq (.int .u64 ((zK ((k).natAbs):Nat):Int))) (uB (yS ((k).natAbs)))).toSF))::(29, .s ((UF.eq (.int .u64 ((zK ((k).natAbs):Nat):Int))).toSF))::(30, .s ((uB (yS ((k).natAbs))).toSF))::(6, .u (UF.eq (.int .u64 ((zK ((k).natAbs):Nat):Int))))::(7, .u (uB (yS ((k).natAbs)))):: []) hmix s kH
  (oc (zN (C:=(CU.agg (fNV k)).cf) 1 kH)<|oc (jK (C:=(CU.agg (fNV k)).cf) (k:=1) kH (h:=zG6))<|oc (zI zD zPs (fun u0 W hb (h0:qI W u0 ((k).natAbs))=>zGS (qI.lv (m:=m) h0 bk) oO))<|oc zC<|oc (zA0 (A:=(UF.eq (.int .u64 ((zK ((k).natAbs):Nat):Int))).toSF) (B:=(uB (yS ((k).natAbs))).toSF) iiz)<|oc (zAZ (A:=(UF.eq (.int .u64 ((zK ((k).natAbs):Nat):Int))).toSF) (B:=(uB (yS ((k).natAbs))).toSF) iiz)<|oc zG<|oc zG<|zE) fun a w4 s=> ?_
 refine zA rfl ?_
 refine wpIn_seq ?_
 refine zB 7 ((32, .s ((fLV m d).toSF))::(33, .s ((zAR (UF.eq (.int .u64 ((zK d:Nat):Int))) (uB (yS d))).toSF))::(31, .s ((zAR (UF.eq (.int .u64 ((zK d:Nat):Int))) (uB (yS d))).toSF))::(34, .s ((UF.eq (.int .u64 ((zK d:Nat):Int))).toSF))::(35, .s ((uB (yS d)).toSF))::(8, .u (UF.eq (.int .u64 ((zK d:Nat):Int))))::(9, .u (uB (yS d))):: []) hmix s kH
  (oc zC<|oc (zI zD zPs (fun u0 W hb (h0:LV W m u0 d)=>zGS h0 oO))<|oc zC<|oc (zA0 (A:=(UF.eq (.int .u64 ((zK d:Nat):Int))).toSF) (B:=(uB (yS d)).toSF) iiz)<|oc (zAZ (A:=(UF.eq (.int .u64 ((zK d:Nat):Int))).toSF) (B:=(uB (yS d)).toSF) iiz)<|oc zG<|oc zG<|zE) fun a w5 s=> ?_
 refine zA rfl ?_
 refine wpIn_seq ?_
 refine wpIn_seq ?_
 refine zB 4 ((36, .s ((uB (yS ((k).natAbs))).toSF))::(37, .s ((uB (yS ((k).natAbs))).toSF))::(38, .s (SF.imp ((yS ((k).natAbs))=true) ((uB (yS d)).toSF)))::(39, .u (uB ((yS ((k).natAbs))&&(yS d)))):: []) hmix s kH
  (oc zC<|oc zC<|oc (zF 37 (yS ((k).natAbs)) kH iiz (fun e=>zU [] ((uB (yS d)).toSF) fnz (fun _ _ h _=>h) kH zC) (fun e W h=>absurd h e))<|oc (yC (yS ((k).natAbs)) iiz (fun e v W h=>jT (zL e h) e) (fun e v W h=>qZ h e))<|zE) fun a w6 s=> ?_
 refine zA rfl ?_
 refine StS.cond s ((yS ((k).natAbs))&&(yS d)) iiz (fun e=> ?_) (fun e=> ?_)
 ·rw [Bool.and_eq_true] at e
  have hs1:zK k.natAbs=k.natAbs:=by have:=e.1;unfold yS at this;unfold zK;rw [if_pos (of_decide_eq_true this)]
  have hs2:zK d=d:=by have:=e.2;unfold yS at this;unfold zK;rw [if_pos (of_decide_eq_true this)]
  have hg0:((Nat.gcd (zK k.natAbs) (zK d):Nat):Int)≠0:=by rw [hs1,hs2];have:=Nat.gcd_pos_of_pos_right k.natAbs hd0;omega
  have hden:(mkRat k d).den=zK d / (Nat.gcd (zK k.natAbs) (zK d)):=by rw [hs1,hs2];exact zCm k d hd0
  have hlt: ∀x,x<18446744073709551616->x<BB^zMj:=fun x hx=>zSe hx _ dA
  have hnum: ∀W u,UV W zMj u (if decide (k<0) then -(((zK k.natAbs / (Nat.gcd (zK k.natAbs) (zK d))):Nat):Int) else (((zK k.natAbs / (Nat.gcd (zK k.natAbs) (zK d))):Nat):Int))->Calls Tryz.prog 110 #[u] W (zGu W (mkRat k d).num):=fun W u hu=>by
   have:=zFT hu dA
   rw [hs1,hs2,zD7 k d hd0] at this
   exact this
  refine wpIn_seq ?_
  refine zB 4 ((40, .s ((UF.eq (.int .u64 ((zK ((k).natAbs):Nat):Int))).toSF))::(41, .s ((UF.eq (.int .u64 ((zK d:Nat):Int))).toSF))::(42, .s ((UF.eq (.int .u64 ((Nat.gcd (zK k.natAbs) (zK d):Nat):Int))).toSF))::(10, .u (UF.eq (.int .u64 ((Nat.gcd (zK k.natAbs) (zK d):Nat):Int)))):: []) hmix s kH
   (oc zC<|oc zC<|oc (zH zD zS2 (fun u0 u1 W hb (h0:u0= .int .u64 ((zK ((k).natAbs):Nat):Int)) (h1:u1= .int .u64 ((zK d:Nat):Int))=>zLb _ _ h0 h1 (zAC _) (zAC _)))<|oc zG<|zE) fun a w7 s=> ?_
  refine zA rfl ?_
  refine wpIn_seq ?_
  replace s:=s.drop [5]
  refine yN [2,3,8,9] 13 ((43, .s (SF.ptr ((CU.agg (fNV k)).cf.at 0)))::(44, .s ((uB (decide (k<0))).toSF))::(45, .s ((UF.eq (.int .u64 ((zK ((k).natAbs):Nat):Int))).toSF))::(46, .s ((UF.eq (.int .u64 ((Nat.gcd (zK k.natAbs) (zK d):Nat):Int))).toSF))::(47, .s ((UF.eq (.int .u64 ((zK k.natAbs / (Nat.gcd (zK k.natAbs) (zK d)):Nat):Int))).toSF))::(48, .s ((qU (zK k.natAbs / (Nat.gcd (zK k.natAbs) (zK d)))).toSF))::(49, .s ((fUV zMj (if decide (k<0) then -((zK k.natAbs / (Nat.gcd (zK k.natAbs) (zK d)):Nat):Int) else ((zK k.natAbs / (Nat.gcd (zK k.natAbs) (zK d)):Nat):Int))).toSF))::(50, .s ((fNV ((mkRat k d).num)).toSF))::(51, .s ((UF.eq (.int .u64 ((zK d:Nat):Int))).toSF))::(52, .s ((UF.eq (.int .u64 ((Nat.gcd (zK k.natAbs) (zK d):Nat):Int))).toSF))::(53, .s ((UF.eq (.int .u64 ((zK d / (Nat.gcd (zK k.natAbs) (zK d)):Nat):Int))).toSF))::(54, .s ((qU (zK d / (Nat.gcd (zK k.natAbs) (zK d)))).toSF))::(55, .u (fQN (mkRat k d))):: []) hmix s kH
   (oc (zN (C:=(CU.agg (fNV k)).cf) 0 kH)<|oc (jK (C:=(CU.agg (fNV k)).cf) (k:=0) kH (h:=zLG))<|oc zC<|oc zC<|oc (zLA .u64 ((zK ((k).natAbs):Nat):Int) ((Nat.gcd (zK k.natAbs) (zK d):Nat):Int) ((zK k.natAbs / (Nat.gcd (zK k.natAbs) (zK d)):Nat):Int) iiz iiz hg0 (zRo _ _ (by rw [Int.tdiv_eq_ediv_of_nonneg oO,Int.natCast_ediv]) (Nat.lt_of_le_of_lt (Nat.div_le_self _ _) (zAC _))))<|oc (zI zD zPr (fun u0 W hb (h0:u0= .int .u64 ((zK k.natAbs / (Nat.gcd (zK k.natAbs) (zK d)):Nat):Int))=>zOV _ (Nat.lt_of_le_of_lt (Nat.div_le_self _ _) (zAC _)) h0))<|oc (qO (fun u v W (hu:u= .bool (decide (k<0))) (hv:qI W v (zK k.natAbs / (Nat.gcd (zK k.natAbs) (zK d))))=>zRg hu hv (hlt _ (by first|exact Nat.lt_of_le_of_lt (Nat.div_le_self _ _) (zAC _)|exact hk64|exact Nat.lt_of_le_of_lt (Nat.div_le_self _ _) (Nat.lt_of_lt_of_le bk (Nat.pow_le_pow_right yY (Nat.le_trans hm dA)))))))<|oc (zI zD zMt (fun u0 W hb (h0:UV W zMj u0 (if decide (k<0) then -((zK k.natAbs / (Nat.gcd (zK k.natAbs) (zK d)):Nat):Int) else ((zK k.natAbs / (Nat.gcd (zK k.natAbs) (zK d)):Nat):Int)))=>hnum W u0 (h0:UV W zMj u0 _)))<|oc zC<|oc zC<|oc (zLA .u64 ((zK d:Nat):Int) ((Nat.gcd (zK k.natAbs) (zK d):Nat):Int) ((zK d / (Nat.gcd (zK k.natAbs) (zK d)):Nat):Int) iiz iiz hg0 (zRo _ _ (by rw [Int.tdiv_eq_ediv_of_nonneg oO,Int.natCast_ediv]) (Nat.lt_of_le_of_lt (Nat.div_le_self _ _) (zAC _))))<|oc (zI zD zPr (fun u0 W hb (h0:u0= .int .u64 ((zK d / (Nat.gcd (zK k.natAbs) (zK d)):Nat):Int))=>zOV _ (Nat.lt_of_le_of_lt (Nat.div_le_self _ _) (zAC _)) h0))<|oc (qO (fun u v W (hu:NV W u ((mkRat k d).num)) (hv:qI W v (zK d / (Nat.gcd (zK k.natAbs) (zK d))))=>zHv (q:=mkRat k d) hu (by first|exact hv|(rw [hden];exact hv))))<|zE) fun Q' hQ a w8 s=> ?_
  refine zV (CU.agg (fQN (mkRat k d))) ((fQN (mkRat k d)).toSF) rfl s kH rfl rfl rfl iiz iiz yL fun a w s=> ?_
  refine yU (uI 0) rfl s kH iiz fun a w s=> ?_
  refine zA rfl (hQ _ _ ?_)
  refine wpIn_ret ?_
  exact StS.resCT s (CU.agg (fQN (mkRat k d))) rfl kH rfl rfl (qY _) (fun cs v W h1 h2=>⟨_,_,rfl,h1,h2⟩)
 ·have hlt: ∀x,x<BB^zMj->x<BB^zMj:=fun x hx=>hx
  have hden:(mkRat k d).den=d / (Nat.gcd k.natAbs d):=zCm k d hd0
  have hnum: ∀W u,UV W zMj u (if decide (k<0) then -((((k).natAbs / (Nat.gcd k.natAbs d)):Nat):Int) else ((((k).natAbs / (Nat.gcd k.natAbs d)):Nat):Int))->Calls Tryz.prog 110 #[u] W (zGu W (mkRat k d).num):=fun W u hu=>by
   have:=zFT hu dA
   rw [zD7 k d hd0] at this
   exact this
  refine wpIn_skip ?_
  refine wpIn_seq ?_
  refine zB 5 ((56, .s (SF.ptr ((CU.agg (fNV k)).cf.at 1)))::(57, .s ((qU ((k).natAbs)).toSF))::(58, .s ((fLV m d).toSF))::(59, .s ((qU (Nat.gcd k.natAbs d)).toSF))::(11, .u (qU (Nat.gcd k.natAbs d))):: []) hmix s kH
   (oc (zN (C:=(CU.agg (fNV k)).cf) 1 kH)<|oc (jK (C:=(CU.agg (fNV k)).cf) (k:=1) kH (h:=zG6))<|oc zC<|oc (zH zD zS1 (fun u0 u1 W hb (h0:qI W u0 ((k).natAbs)) (h1:LV W m u1 d)=>zQt (qI.lv (m:=m) h0 bk) h1 oO))<|oc zG<|zE) fun a w9 s=> ?_
  refine zA rfl ?_
  refine wpIn_seq ?_
  refine zB 11 ((61, .s (SF.ptr ((CU.agg (fNV k)).cf.at 1)))::(62, .s ((qU ((k).natAbs)).toSF))::(63, .s ((qU (Nat.gcd k.natAbs d)).toSF))::(64, .s ((zB8 (qU (((k).natAbs) / (Nat.gcd k.natAbs d))) (qU (((k).natAbs) % (Nat.gcd k.natAbs d))) (uI 0)).toSF))::(60, .s ((zB8 (qU (((k).natAbs) / (Nat.gcd k.natAbs d))) (qU (((k).natAbs) % (Nat.gcd k.natAbs d))) (uI 0)).toSF))::(65, .s ((qU (((k).natAbs) / (Nat.gcd k.natAbs d))).toSF))::(66, .s ((qU (((k).natAbs) % (Nat.gcd k.natAbs d))).toSF))::(67, .s ((uI 0).toSF))::(12, .u (qU (((k).natAbs) / (Nat.gcd k.natAbs d))))::(13, .s ((qU (((k).natAbs) % (Nat.gcd k.natAbs d))).toSF))::(14, .s ((uI 0).toSF)):: []) hmix s kH
   (oc (zN (C:=(CU.agg (fNV k)).cf) 1 kH)<|oc (jK (C:=(CU.agg (fNV k)).cf) (k:=1) kH (h:=zG6))<|oc zC<|oc (zH zD zPq (fun u0 u1 W hb (h0:qI W u0 ((k).natAbs)) (h1:qI W u1 (Nat.gcd k.natAbs d))=>hdiv W u0 u1 _ (qI.lv (m:=m) h0 bk) h1))<|oc zC<|oc (zB0 (A:=(qU (((k).natAbs) / (Nat.gcd k.natAbs d))).toSF) (B:=(qU (((k).natAbs) % (Nat.gcd k.natAbs d))).toSF) (C:=(uI 0).toSF) iiz)<|oc (zBZ (A:=(qU (((k).natAbs) / (Nat.gcd k.natAbs d))).toSF) (B:=(qU (((k).natAbs) % (Nat.gcd k.natAbs d))).toSF) (C:=(uI 0).toSF) iiz)<|oc (zBY (A:=(qU (((k).natAbs) / (Nat.gcd k.natAbs d))).toSF) (B:=(qU (((k).natAbs) % (Nat.gcd k.natAbs d))).toSF) (C:=(uI 0).toSF) iiz)<|oc zG<|oc zG<|oc zG<|zE) fun a w10 s=> ?_
  refine zA rfl ?_
  refine wpIn_seq ?_
  refine zB 10 ((69, .s ((fLV m d).toSF))::(70, .s ((qU (Nat.gcd k.natAbs d)).toSF))::(71, .s ((zB8 (qU (d / (Nat.gcd k.natAbs d))) (qU (d % (Nat.gcd k.natAbs d))) (uI 0)).toSF))::(68, .s ((zB8 (qU (d / (Nat.gcd k.natAbs d))) (qU (d % (Nat.gcd k.natAbs d))) (uI 0)).toSF))::(72, .s ((qU (d / (Nat.gcd k.natAbs d))).toSF))::(73, .s ((qU (d % (Nat.gcd k.natAbs d))).toSF))::(74, .s ((uI 0).toSF))::(15, .u (qU (d / (Nat.gcd k.natAbs d))))::(16, .s ((qU (d % (Nat.gcd k.natAbs d))).toSF))::(17, .s ((uI 0).toSF)):: []) hmix s kH
   (oc zC<|oc zC<|oc (zH zD zPq (fun u0 u1 W hb (h0:LV W m u0 d) (h1:qI W u1 (Nat.gcd k.natAbs d))=>hdiv W u0 u1 _ h0 h1))<|oc zC<|oc (zB0 (A:=(qU (d / (Nat.gcd k.natAbs d))).toSF) (B:=(qU (d % (Nat.gcd k.natAbs d))).toSF) (C:=(uI 0).toSF) iiz)<|oc (zBZ (A:=(qU (d / (Nat.gcd k.natAbs d))).toSF) (B:=(qU (d % (Nat.gcd k.natAbs d))).toSF) (C:=(uI 0).toSF) iiz)<|oc (zBY (A:=(qU (d / (Nat.gcd k.natAbs d))).toSF) (B:=(qU (d % (Nat.gcd k.natAbs d))).toSF) (C:=(uI 0).toSF) iiz)<|oc zG<|oc zG<|oc zG<|zE) fun a w11 s=> ?_
  refine zA rfl ?_
  refine wpIn_seq ?_
  replace s:=s.drop [5]
  refine zB 7 ((75, .s (SF.ptr ((CU.agg (fNV k)).cf.at 0)))::(76, .s ((uB (decide (k<0))).toSF))::(77, .s ((qU (((k).natAbs) / (Nat.gcd k.natAbs d))).toSF))::(78, .s ((fUV zMj (if decide (k<0) then -((((k).natAbs) / (Nat.gcd k.natAbs d):Nat):Int) else ((((k).natAbs) / (Nat.gcd k.natAbs d):Nat):Int))).toSF))::(79, .s ((fNV ((mkRat k d).num)).toSF))::(80, .s ((qU (d / (Nat.gcd k.natAbs d))).toSF))::(81, .u (fQN (mkRat k d))):: []) hmix s kH
   (oc (zN (C:=(CU.agg (fNV k)).cf) 0 kH)<|oc (jK (C:=(CU.agg (fNV k)).cf) (k:=0) kH (h:=zLG))<|oc zC<|oc (qO (fun u v W (hu:u= .bool (decide (k<0))) (hv:qI W v (((k).natAbs) / (Nat.gcd k.natAbs d)))=>zRg hu hv (hlt _ (by first|exact Nat.lt_of_le_of_lt (Nat.div_le_self _ _) (zAC _)|exact hk64|exact Nat.lt_of_le_of_lt (Nat.div_le_self _ _) (Nat.lt_of_lt_of_le bk (Nat.pow_le_pow_right yY (Nat.le_trans hm dA)))))))<|oc (zI zD zMt (fun u0 W hb (h0:UV W zMj u0 (if decide (k<0) then -((((k).natAbs) / (Nat.gcd k.natAbs d):Nat):Int) else ((((k).natAbs) / (Nat.gcd k.natAbs d):Nat):Int)))=>hnum W u0 (h0:UV W zMj u0 _)))<|oc zC<|oc (qO (fun u v W (hu:NV W u ((mkRat k d).num)) (hv:qI W v (d / (Nat.gcd k.natAbs d)))=>zHv (q:=mkRat k d) hu (by first|exact hv|(rw [hden];exact hv))))<|zE) fun a w12 s=> ?_
  refine zV (CU.agg (fQN (mkRat k d))) ((fQN (mkRat k d)).toSF) rfl s kH rfl rfl rfl iiz iiz yL fun a w s=> ?_
  refine yU (uI 0) rfl s kH iiz fun a w s=> ?_
  refine zA rfl ?_
  refine wpIn_ret ?_
  exact StS.resCT s (CU.agg (fQN (mkRat k d))) rfl kH rfl rfl (qY _) (fun cs v W h1 h2=>⟨_,_,rfl,h1,h2⟩)
theorem zHR {W:World} {m:Nat} {v v':Value} {k:Int} {d:Nat} (h:UV W m v k) (h':LV W m v' d) (hm:m<=2000):Calls Tryz.prog 68 #[v,v'] W (Ret W (zAR (fQN (mkRat k d)) (fI (if d=0 then 30 else 0))).toSF):=by
 by_cases hd:d=0
 ·rw [if_pos hd]
  exact zQj h h' hm hd
 ·rw [if_neg hd]
  exact zLc h h' hm oO
end Go.Proofs.Wd

namespace Go.Proofs.Wd
set_option maxRecDepth 100000
open Go.RowKit Lb
theorem zNB {W:World} {m:Nat} {v:Value} {k:Int} {d:Nat} (h:QVp m k d v W) (hm:m<=2000):Calls Tryz.prog 67 #[v] W (Ret W (fQN (mkRat k d)).toSF):=by
 refine yD [(fQV m k d).toSF] Tryz.func67 rfl kH ⟨h,trivial⟩ fun a s=> ?_
 refine wpIn_seq ?_
 refine zB 0 [] hmix s kH
  zE fun a w1 s=> ?_
 refine yJ (CU.agg (fQV m k d)) rfl s kH (fun v W h=>zET h) fun b1 a w s=> ?_
 refine zZ (CU.len 3) (cs:=zR3) kH rfl s kH (fun W=>rfl) rfl fun b2 a w s=> ?_
 refine zA rfl ?_
 refine wpIn_seq ?_
 refine zB 8 ((6, .s (SF.ptr ((CU.agg (fQV m k d)).cf.at 0)))::(7, .s ((fUV m k).toSF))::(8, .s (SF.ptr ((CU.agg (fQV m k d)).cf.at 2)))::(9, .s ((fLV m d).toSF))::(10, .s ((zAR (fQN (mkRat k d)) (uI (if d=0 then 30 else 0))).toSF))::(5, .s ((zAR (fQN (mkRat k d)) (uI (if d=0 then 30 else 0))).toSF))::(11, .u (fQN (mkRat k d)))::(12, .u (uI (if d=0 then 30 else 0))):: []) hmix s kH
  (oc (zN (C:=(CU.agg (fQV m k d)).cf) 0 kH)<|oc (zX (C:=(CU.agg (fQV m k d)).cf) (k:=0) 2 kH (h:=zLk))<|oc (zN (C:=(CU.agg (fQV m k d)).cf) 2 kH)<|oc (jK (C:=(CU.agg (fQV m k d)).cf) (k:=2) kH (h:=zGT))<|oc (zH zD zOo (fun u0 u1 W hb (h0:UV W m u0 k) (h1:LV W m u1 d)=>zHR h0 h1 hm))<|oc zC<|oc (zA0 (A:=(fQN (mkRat k d)).toSF) (B:=(uI (if d=0 then 30 else 0)).toSF) iiz)<|oc (zAZ (A:=(fQN (mkRat k d)).toSF) (B:=(uI (if d=0 then 30 else 0)).toSF) iiz)<|zE) fun a w2 s=> ?_
 refine zZ (CU.len 3) (cs:=zR3) kH rfl s kH (fun W=>rfl) rfl fun b3 a w s=> ?_
 refine zV (CU.agg (fQN (mkRat k d))) ((fQN (mkRat k d)).toSF) rfl s kH rfl rfl rfl iiz iiz yL fun a w s=> ?_
 refine yU (uI (if d=0 then 30 else 0)) rfl s kH iiz fun a w s=> ?_
 refine zA rfl ?_
 refine wpIn_seq ?_
 refine zB 1 ((13, .u (fQN (mkRat k d))):: []) hmix s kH
  (oc (zJ (f:=fQN (mkRat k d)) 3 kH (hz:=qY _))<|zE) fun a w3 s=> ?_
 refine zV (CU.agg (fQN (mkRat k d))) ((fQN (mkRat k d)).toSF) rfl s kH rfl rfl rfl iiz iiz yL fun a w s=> ?_
 refine zA rfl ?_
 refine wpIn_ret ?_
 exact StS.resC s (CU.agg (fQN (mkRat k d))) rfl kH rfl rfl (qY _) (fun cs W h=>h)
theorem zA9 {W:World} {m:Nat} {v:Value} {q:Rat} (h:RVp m q v W) (hm:m<=2000):Calls Tryz.prog 67 #[v] W (Ret W (fQN q).toSF):=by
 obtain ⟨k,d,h1,rfl⟩:=h
 exact zNB h1 hm
theorem zK9 (n:Int) (d:Nat) (hd:0<d):(mkRat n d).num.sign=n.sign:=by
 have h1:=decide_eq_decide.1 (zB1 n d hd)
 have h2:(mkRat n d).num=0↔n=0:=by rw [Rat.num_eq_zero,Rat.mkRat_eq_zero oO]
 rcases Int.lt_trichotomy n 0 with h|h|h
 ·rw [Int.sign_eq_neg_one_of_neg h,Int.sign_eq_neg_one_of_neg (h1.2 h)]
 ·rw [h2.2 h,h]
 ·rw [Int.sign_eq_one_of_pos h,Int.sign_eq_one_of_pos (by have:=mt h1.1 oO;have:=mt h2.1 oO;omega)]
theorem zNz {W:World} {m:Nat} {v:Value} {k:Int} {d:Nat} (h:QVp m k d v W) (hm:m<=2000) (hd:d=0):Calls Tryz.prog 42 #[v] W (Ret W (fI 0).toSF):=by
 have hz:true=decide (d=0):=(decide_eq_true hd).symm
 refine yD [(fQV m k d).toSF] Tryz.func42 rfl kH ⟨h,trivial⟩ fun a s=> ?_
 refine wpIn_seq ?_
 refine zB 0 [] hmix s kH
  zE fun a w1 s=> ?_
 refine yJ (CU.agg (fQV m k d)) rfl s kH (fun v W h=>zET h) fun b1 a w s=> ?_
 refine yU (uI 0) rfl s kH iiz fun a w s=> ?_
 refine zA rfl ?_
 refine wpIn_seq ?_
 refine wpIn_seq ?_
 refine zB 5 ((3, .s (SF.ptr ((CU.agg (fQV m k d)).cf.at 2)))::(4, .s ((fLV m d).toSF))::(5, .s ((qU d).toSF))::(6, .s (zPg d))::(7, .u (uB true)):: []) hmix s kH
  (oc (zN (C:=(CU.agg (fQV m k d)).cf) 2 kH)<|oc (jK (C:=(CU.agg (fQV m k d)).cf) (k:=2) kH (h:=zGT))<|oc (zI zD zOn (fun u0 W hb (h0:LV W m u0 d)=>(zDG h0 oO)))<|oc (zDQ kH iiz)<|oc (zDR hz)<|zE) fun a w2 s=> ?_
 refine zA rfl ?_
 refine StS.cond s true iiz (fun e=> ?_) (fun e=>by cases e)
 refine wpIn_seq ?_
 replace s:=s.drop [2]
 refine zB 1 ((2, .u (uI 0)):: []) hmix s kH
  (oc zG<|zE) fun a w3 s=> ?_
 refine zA rfl ?_
 refine wpIn_ret ?_
 exact StS.res1 s (t:=2) rfl iiz
theorem zNA {W:World} {m:Nat} {v:Value} {k:Int} {d:Nat} (h:QVp m k d v W) (hm:m<=2000) (hd:0<d):Calls Tryz.prog 42 #[v] W (Ret W (fI k.sign).toSF):=by
 have hz:false=decide (d=0):=(decide_eq_false oO).symm
 refine yD [(fQV m k d).toSF] Tryz.func42 rfl kH ⟨h,trivial⟩ fun a s=> ?_
 refine wpIn_seq ?_
 refine zB 0 [] hmix s kH
  zE fun a w1 s=> ?_
 refine yJ (CU.agg (fQV m k d)) rfl s kH (fun v W h=>zET h) fun b1 a w s=> ?_
 refine yU (uI 0) rfl s kH iiz fun a w s=> ?_
 refine zA rfl ?_
 refine wpIn_seq ?_
 refine wpIn_seq ?_
 refine zB 5 ((3, .s (SF.ptr ((CU.agg (fQV m k d)).cf.at 2)))::(4, .s ((fLV m d).toSF))::(5, .s ((qU d).toSF))::(6, .s (zPg d))::(7, .u (uB false)):: []) hmix s kH
  (oc (zN (C:=(CU.agg (fQV m k d)).cf) 2 kH)<|oc (jK (C:=(CU.agg (fQV m k d)).cf) (k:=2) kH (h:=zGT))<|oc (zI zD zOn (fun u0 W hb (h0:LV W m u0 d)=>(zDG h0 oO)))<|oc (zDQ kH iiz)<|oc (zDR hz)<|zE) fun a w2 s=> ?_
 refine zA rfl ?_
 refine StS.cond s false iiz (fun e=>by cases e) (fun e=> ?_)
 refine wpIn_skip ?_
 refine wpIn_seq ?_
 replace s:=s.drop [2]
 refine zB 4 ((8, .s (SF.ptr ((CU.agg (fQV m k d)).cf.at 0)))::(9, .s ((fUV m k).toSF))::(10, .s ((uI (k.sign)).toSF))::(2, .u (uI (k.sign))):: []) hmix s kH
  (oc (zN (C:=(CU.agg (fQV m k d)).cf) 0 kH)<|oc (zX (C:=(CU.agg (fQV m k d)).cf) (k:=0) 2 kH (h:=zLk))<|oc (zI zD zSp (fun u0 W hb (h0:UV W m u0 k)=>zEw (zIO h0 oO)))<|oc zG<|zE) fun a w3 s=> ?_
 refine zA rfl ?_
 refine wpIn_ret ?_
 exact StS.res1 s (t:=2) rfl iiz
theorem zFS {W:World} {m:Nat} {v:Value} {q:Rat} (h:RVp m q v W) (hm:m<=2000):Calls Tryz.prog 42 #[v] W (Ret W (fI q.num.sign).toSF):=by
 obtain ⟨k,d,h1,rfl⟩:=h
 by_cases hd:d=0
 ·have:=zNz h1 hm hd
  rw [hd,Rat.mkRat_zero]
  exact this
 ·rw [zK9 k d oO]
  exact zNA h1 hm oO
theorem zQi {W:World} {m:Nat} {u v:Value} {p q:Rat} (h:QNp p u W) (h':QNp q v W) (hp:QB p m) (hq:QB q m) (hm:m<=990):Calls Tryz.prog 109 #[u,v] W (Ret W (fQN (p+q)).toSF):=by
 have hnew: ∀W u0 u1,NV W u0 (((p).num*(((q).den:Nat):Int))+((q).num*(((p).den:Nat):Int)))->qI W u1 ((p).den*(q).den)->Calls Tryz.prog 68 #[u0,u1] W (Ret W (zAR (fQN (p+q)) UF.any).toSF):=fun W u0 u1 h0 h1=>by
  have:=zHR (m:=m+m+1) (h0.uv' (hp.num_add hq)) (h1.lv (Nat.lt_of_lt_of_le (hp.den_mul hq) (Nat.pow_le_pow_right yY oO))) oO
  rw [<-Rat.add_def' p q] at this
  exact this.mono fun e w' ⟨v,e1,⟨x,y,e2,h2,_⟩,hb⟩=>⟨v,e1,⟨x,y,e2,h2,trivial⟩,hb⟩
 refine yD [(fQN p).toSF,(fQN q).toSF] Tryz.func109 rfl kH ⟨h,h',trivial⟩ fun a s=> ?_
 refine wpIn_seq ?_
 refine zB 0 [] hmix s kH
  zE fun a w1 s=> ?_
 refine yJ (CU.agg (fQN p)) rfl s kH (fun v W h=>zOZ h) fun b2 a w s=> ?_
 refine yJ (CU.agg (fQN q)) rfl s kH (fun v W h=>zOZ h) fun b3 a w s=> ?_
 refine zZ (CU.len 3) (cs:=zR3) kH rfl s kH (fun W=>rfl) rfl fun b4 a w s=> ?_
 refine zA rfl ?_
 refine wpIn_seq ?_
 have so:=s.old;have sg:=s.gr
 refine zBR (fun i=> [24].contains i) [⟨25,5,28, [.bool false, .slice none 0 0, .slice none 0 0],SF.newBox w 28 (CU.len 3)⟩] 26 ((8, .s (SF.ptr ((CU.agg (fQN p)).cf.at 0)))::(9, .s ((fNV ((p).num)).toSF))::(10, .s (SF.ptr ((CU.agg (fQN q)).cf.at 2)))::(11, .s ((qU ((q).den)).toSF))::(12, .s ((fNV (((q).den:Nat):Int)).toSF))::(13, .s (zKe (m+m) [(p).num,(((q).den:Nat):Int)]))::(14, .s ((fNV ((p).num*(((q).den:Nat):Int))).toSF))::(15, .s (SF.ptr ((CU.agg (fQN q)).cf.at 0)))::(16, .s ((fNV ((q).num)).toSF))::(17, .s (SF.ptr ((CU.agg (fQN p)).cf.at 2)))::(18, .s ((qU ((p).den)).toSF))::(19, .s ((fNV (((p).den:Nat):Int)).toSF))::(20, .s (zKe (m+m) [(q).num,(((p).den:Nat):Int)]))::(21, .s ((fNV ((q).num*(((p).den:Nat):Int))).toSF))::(22, .s (zKe (m+m) [((p).num*(((q).den:Nat):Int)),((q).num*(((p).den:Nat):Int))]))::(23, .s ((fNV (((p).num*(((q).den:Nat):Int))+((q).num*(((p).den:Nat):Int)))).toSF))::(24, .s (SF.ptr ((CU.agg (fQN p)).cf.at 2)))::(25, .s ((qU ((p).den)).toSF))::(26, .s (SF.ptr ((CU.agg (fQN q)).cf.at 2)))::(27, .s ((qU ((q).den)).toSF))::(28, .s ((qU ((p).den*(q).den)).toSF))::(29, .s ((zAR (fQN (p+q)) (UF.any)).toSF))::(7, .s ((zAR (fQN (p+q)) (UF.any)).toSF))::(30, .u (fQN (p+q)))::(5, .s (SF.newBox w 28 (CU.len 3))):: []) hmix s (fmz ⟨⟨by show 25<26;decide, .tail _ (.tail _ (.tail _ (.tail _ (.tail _ (.tail _ (.tail _ (.tail _ (.tail _ zSb)))))))),⟨_,_,_,rfl⟩,by kernel_rfl,zCk (fun _=>rfl) rfl⟩,fnz⟩) kH
  (oc (zN (C:=(CU.agg (fQN p)).cf) 0 kH)<|oc (zX (C:=(CU.agg (fQN p)).cf) (k:=0) 2 kH (h:=zA6))<|oc (zN (C:=(CU.agg (fQN q)).cf) 2 kH)<|oc (jK (C:=(CU.agg (fQN q)).cf) (k:=2) kH (h:=zAS))<|oc (zI zD zOm (fun u0 W hb (h0:qI W u0 ((q).den))=>zIZ h0))<|oc (yI (fun u v W (hu:NV W u ((p).num)) (hv:NV W v (((q).den:Nat):Int))=>zAW (NV.uv' hu (Bd.mono (hp).1 (m':=(m+m)) (by first|omega|decide))) (NV.uv' hv (Bd.mono (q6 hq.2) (m':=(m+m)) (by first|omega|decide)))))<|oc (zI zD zKf (fun u0 W hb (h0:ISV W (m+m) u0 [(p).num,(((q).den:Nat):Int)])=>zDH h0 (by show (m+m)*2+(m+m)+1<=40000;omega) (by simp) (by simp)))<|oc (zN (C:=(CU.agg (fQN q)).cf) 0 kH)<|oc (zX (C:=(CU.agg (fQN q)).cf) (k:=0) 2 kH (h:=zA6))<|oc (zN (C:=(CU.agg (fQN p)).cf) 2 kH)<|oc (jK (C:=(CU.agg (fQN p)).cf) (k:=2) kH (h:=zAS))<|oc (zI zD zOm (fun u0 W hb (h0:qI W u0 ((p).den))=>zIZ h0))<|oc (yI (fun u v W (hu:NV W u ((q).num)) (hv:NV W v (((p).den:Nat):Int))=>zAW (NV.uv' hu (Bd.mono (hq).1 (m':=(m+m)) (by first|omega|decide))) (NV.uv' hv (Bd.mono (q6 hp.2) (m':=(m+m)) (by first|omega|decide)))))<|oc (zI zD zKf (fun u0 W hb (h0:ISV W (m+m) u0 [(q).num,(((p).den:Nat):Int)])=>zDH h0 (by show (m+m)*2+(m+m)+1<=40000;omega) (by simp) (by simp)))<|oc (yI (fun u v W (hu:NV W u ((p).num*(((q).den:Nat):Int))) (hv:NV W v ((q).num*(((p).den:Nat):Int)))=>zAW (NV.uv' hu (Bd.mul (hp).1 (q6 hq.2))) (NV.uv' hv (Bd.mul (hq).1 (q6 hp.2)))))<|oc (zI zD zSU (fun u0 W hb (h0:ISV W (m+m) u0 [((p).num*(((q).den:Nat):Int)),((q).num*(((p).den:Nat):Int))])=>zQr h0 oO (by simp) (by simp)))<|oc (zN (C:=(CU.agg (fQN p)).cf) 2 kH)<|oc (jK (C:=(CU.agg (fQN p)).cf) (k:=2) kH (h:=zAS))<|oc (zN (C:=(CU.agg (fQN q)).cf) 2 kH)<|oc (jK (C:=(CU.agg (fQN q)).cf) (k:=2) kH (h:=zAS))<|oc (zH zD zQ4 (fun u0 u1 W hb (h0:qI W u0 ((p).den)) (h1:qI W u1 ((q).den))=>zKX (qI.lv (m:=m) h0 hp.2) (qI.lv (m:=m) h1 hq.2) oO))<|oc (zH zD zOo (fun u0 u1 W hb (h0:NV W u0 (((p).num*(((q).den:Nat):Int))+((q).num*(((p).den:Nat):Int)))) (h1:qI W u1 ((p).den*(q).den))=>hnew W u0 u1 h0 h1))<|oc zC<|oc (zA0 (A:=(fQN (p+q)).toSF) (B:=(UF.any).toSF) iiz)<|oc (zAZ (A:=(fQN (p+q)).toSF) (B:=(UF.any).toSF) iiz)<|oc (zDj (cs:=zR3) kH (zCk (fun _=>rfl) rfl))<|zE) fun Q' hQ a w2 s hr hd=> ?_
 obtain ⟨b5,_,e5,s⟩:=s.adoptA false 5 (hr (_,_) (.tail _ (.tail _ (.tail _ (.tail _ (.tail _ (.tail _ (.tail _ (.tail _ (.tail _ zSb)))))))))) sg (fun y hy=> .inl (so y hy))
 refine zV (CU.agg (fQN (p+q))) ((fQN (p+q)).toSF) rfl s kH rfl rfl rfl iiz iiz yL fun a w s=> ?_
 refine yU UF.any rfl s kH (fun _ _ _=>trivial) fun a w s=> ?_
 refine zA rfl (hQ _ _ ?_)
 refine wpIn_seq ?_
 refine zB 1 ((32, .u (fQN (p+q))):: []) hmix s kH
  (oc (zJ (f:=fQN (p+q)) 3 kH (hz:=qY _))<|zE) fun a w3 s=> ?_
 refine zV (CU.agg (fQN (p+q))) ((fQN (p+q)).toSF) rfl s kH rfl rfl rfl iiz iiz yL fun a w s=> ?_
 refine zA rfl ?_
 refine wpIn_ret ?_
 exact StS.resC s (CU.agg (fQN (p+q))) rfl kH rfl rfl (qY _) (fun cs W h=>h)
theorem zQk {W:World} {m:Nat} {v:Value} {q:Rat} (h:RVp m q v W) (hm:m<=990) (hm0:0<m):Calls Tryz.prog 139 #[v] W (Ret W (fQN (-q)).toSF):=by
 have hq:QB q m:=h.qb hm0
 refine yD [(fRV m q).toSF] Tryz.func139 rfl kH ⟨h,trivial⟩ fun a s=> ?_
 refine wpIn_seq ?_
 refine zB 0 [] hmix s kH
  zE fun a w1 s=> ?_
 refine yJ (CU.agg (fRV m q)) rfl s kH (fun v W h=>jX h) fun b1 a w s=> ?_
 refine zZ (CU.len 3) (cs:=zR3) kH rfl s kH (fun W=>rfl) rfl fun b2 a w s=> ?_
 refine zA rfl ?_
 refine wpIn_seq ?_
 refine zB 2 ((3, .s ((fRV m q).toSF))::(4, .u (fQN q)):: []) hmix s kH
  (oc (zJ (f:=fRV m q) 3 kH (hz:=qD _ _))<|oc (zI zD zGm (fun u0 W hb (h0:RVp m q u0 W)=>zA9 h0 oO))<|zE) fun a w2 s=> ?_
 refine zV (CU.agg (fQN q)) ((fQN q).toSF) rfl s kH rfl rfl rfl (qD _ _) iiz yL fun a w s=> ?_
 refine zA rfl ?_
 refine wpIn_seq ?_
 refine yN [] 6 ((5, .s (SF.ptr ((CU.agg (fQN q)).cf.at 0)))::(6, .s ((fNV ((q).num)).toSF))::(7, .s ((fNV (-(q).num)).toSF))::(8, .s (SF.ptr ((CU.agg (fQN q)).cf.at 2)))::(9, .s ((qU ((q).den)).toSF))::(10, .u (fQN (-q))):: []) hmix s kH
  (oc (zN (C:=(CU.agg (fQN q)).cf) 0 kH)<|oc (zX (C:=(CU.agg (fQN q)).cf) (k:=0) 2 kH (h:=zA6))<|oc (zI zD zST (fun u0 W hb (h0:NV W u0 ((q).num))=>zQp (NV.uv' h0 (hq).1) oO))<|oc (zN (C:=(CU.agg (fQN q)).cf) 2 kH)<|oc (jK (C:=(CU.agg (fQN q)).cf) (k:=2) kH (h:=zAS))<|oc (qO (fun u v W (hu:NV W u (-(q).num)) (hv:qI W v ((q).den))=>zHv (q:= -q) hu hv))<|zE) fun Q' hQ a w3 s=> ?_
 refine zV (CU.agg (fQN (-q))) ((fQN (-q)).toSF) rfl s kH rfl rfl rfl iiz iiz yL fun a w s=> ?_
 refine zA rfl (hQ _ _ ?_)
 refine wpIn_ret ?_
 exact StS.resC s (CU.agg (fQN (-q))) rfl kH rfl rfl (qY _) (fun cs W h=>h)
theorem zLd {W:World} {m:Nat} {u v:Value} {p q:Rat} (h:RVp m p u W) (h':RVp m q v W) (hm:m<=990) (hm0:0<m):Calls Tryz.prog 43 #[u,v] W (Ret W (fI (qsg p q)).toSF):=by
 have hp:QB p m:=h.qb hm0
 have hq:QB q m:=h'.qb hm0
 refine yD [(fRV m p).toSF,(fRV m q).toSF] Tryz.func43 rfl kH ⟨h,h',trivial⟩ fun a s=> ?_
 refine wpIn_seq ?_
 refine zB 0 [] hmix s kH
  zE fun a w1 s=> ?_
 refine yJ (CU.agg (fRV m p)) rfl s kH (fun v W h=>jX h) fun b2 a w s=> ?_
 refine yJ (CU.agg (fRV m q)) rfl s kH (fun v W h=>jX h) fun b3 a w s=> ?_
 refine yU (uI 0) rfl s kH iiz fun a w s=> ?_
 refine zA rfl ?_
 refine wpIn_seq ?_
 refine yN [] 4 ((5, .s ((fRV m p).toSF))::(6, .u (fQN p))::(7, .s ((fRV m q).toSF))::(8, .u (fQN q)):: []) hmix s kH
  (oc (zJ (f:=fRV m p) 3 kH (hz:=qD _ _))<|oc (zI zD zGm (fun u0 W hb (h0:RVp m p u0 W)=>zA9 h0 oO))<|oc (zJ (f:=fRV m q) 3 kH (hz:=qD _ _))<|oc (zI zD zGm (fun u0 W hb (h0:RVp m q u0 W)=>zA9 h0 oO))<|zE) fun Q' hQ a w2 s=> ?_
 refine zV (CU.agg (fQN p)) ((fQN p).toSF) rfl s kH rfl rfl rfl (qD _ _) iiz yL fun a w s=> ?_
 refine zV (CU.agg (fQN q)) ((fQN q).toSF) rfl s kH rfl rfl rfl (qD _ _) iiz yL fun a w s=> ?_
 refine zA rfl (hQ _ _ ?_)
 refine wpIn_seq ?_
 replace s:=s.drop [4]
 refine zB 17 ((9, .s (SF.ptr ((CU.agg (fQN p)).cf.at 0)))::(10, .s ((fNV ((p).num)).toSF))::(11, .s (SF.ptr ((CU.agg (fQN q)).cf.at 2)))::(12, .s ((qU ((q).den)).toSF))::(13, .s ((fNV (((q).den:Nat):Int)).toSF))::(14, .s (zKe (m+m) [(p).num,(((q).den:Nat):Int)]))::(15, .s ((fNV ((p).num*(((q).den:Nat):Int))).toSF))::(16, .s (SF.ptr ((CU.agg (fQN q)).cf.at 0)))::(17, .s ((fNV ((q).num)).toSF))::(18, .s (SF.ptr ((CU.agg (fQN p)).cf.at 2)))::(19, .s ((qU ((p).den)).toSF))::(20, .s ((fNV (((p).den:Nat):Int)).toSF))::(21, .s (zKe (m+m) [(q).num,(((p).den:Nat):Int)]))::(22, .s ((fNV ((q).num*(((p).den:Nat):Int))).toSF))::(23, .s ((fNV (((p).num*(((q).den:Nat):Int)) - ((q).num*(((p).den:Nat):Int)))).toSF))::(24, .s ((uI (qsg p q)).toSF))::(4, .u (uI (qsg p q))):: []) hmix s kH
  (oc (zN (C:=(CU.agg (fQN p)).cf) 0 kH)<|oc (zX (C:=(CU.agg (fQN p)).cf) (k:=0) 2 kH (h:=zA6))<|oc (zN (C:=(CU.agg (fQN q)).cf) 2 kH)<|oc (jK (C:=(CU.agg (fQN q)).cf) (k:=2) kH (h:=zAS))<|oc (zI zD zOm (fun u0 W hb (h0:qI W u0 ((q).den))=>zIZ h0))<|oc (yI (fun u v W (hu:NV W u ((p).num)) (hv:NV W v (((q).den:Nat):Int))=>zAW (NV.uv' hu (Bd.mono (hp).1 (m':=(m+m)) (by first|omega|decide))) (NV.uv' hv (Bd.mono (q6 hq.2) (m':=(m+m)) (by first|omega|decide)))))<|oc (zI zD zKf (fun u0 W hb (h0:ISV W (m+m) u0 [(p).num,(((q).den:Nat):Int)])=>zDH h0 (by show (m+m)*2+(m+m)+1<=40000;omega) (by simp) (by simp)))<|oc (zN (C:=(CU.agg (fQN q)).cf) 0 kH)<|oc (zX (C:=(CU.agg (fQN q)).cf) (k:=0) 2 kH (h:=zA6))<|oc (zN (C:=(CU.agg (fQN p)).cf) 2 kH)<|oc (jK (C:=(CU.agg (fQN p)).cf) (k:=2) kH (h:=zAS))<|oc (zI zD zOm (fun u0 W hb (h0:qI W u0 ((p).den))=>zIZ h0))<|oc (yI (fun u v W (hu:NV W u ((q).num)) (hv:NV W v (((p).den:Nat):Int))=>zAW (NV.uv' hu (Bd.mono (hq).1 (m':=(m+m)) (by first|omega|decide))) (NV.uv' hv (Bd.mono (q6 hp.2) (m':=(m+m)) (by first|omega|decide)))))<|oc (zI zD zKf (fun u0 W hb (h0:ISV W (m+m) u0 [(q).num,(((p).den:Nat):Int)])=>zDH h0 (by show (m+m)*2+(m+m)+1<=40000;omega) (by simp) (by simp)))<|oc (zH zD zT0 (fun u0 u1 W hb (h0:NV W u0 ((p).num*(((q).den:Nat):Int))) (h1:NV W u1 ((q).num*(((p).den:Nat):Int)))=>zQo (NV.uv' h0 (Bd.mul (hp).1 (q6 hq.2))) (NV.uv' h1 (Bd.mul (hq).1 (q6 hp.2))) oO))<|oc (zI zD zSp (fun u0 W hb (h0:NV W u0 (((p).num*(((q).den:Nat):Int)) - ((q).num*(((p).den:Nat):Int))))=>zEw (zIO (NV.uv' h0 (Bd.sub (Bd.mul (hp).1 (q6 hq.2)) (Bd.mul (hq).1 (q6 hp.2)))) oO)))<|oc zG<|zE) fun a w3 s=> ?_
 refine zA rfl ?_
 refine wpIn_ret ?_
 exact StS.res1 s (t:=4) rfl iiz
theorem zLa {W:World} {m:Nat} {u v:Value} {p q:Rat} (h:RVp m p u W) (h':RVp m q v W) (hm:m<=990) (hm0:0<m):Calls Tryz.prog 20 #[u,v] W (Ret W (zAR (fQN (p / q)) (fI (if q=0 then 30 else 0))).toSF):=by
 have hp:QB p m:=h.qb hm0
 have hq:QB q m:=h'.qb hm0
 have bk2:Bd (if decide ((q).num<0) then -(((q).den:Nat):Int) else (((q).den:Nat):Int)) m:=by split;exact (q6 hq.2).neg;exact q6 hq.2
 have hval:mkRat ((p).num*(if decide ((q).num<0) then -(((q).den:Nat):Int) else (((q).den:Nat):Int))) ((p).den*(q).num.natAbs)=p / q:=zQb p q
 have herr:((p).den*(q).num.natAbs=0)=(q=0):=by rw [Nat.mul_eq_zero,Int.natAbs_eq_zero,Rat.num_eq_zero];have:=p.den_pos;simp;omega
 have hnew: ∀W u0 u1,NV W u0 ((p).num*(if decide ((q).num<0) then -(((q).den:Nat):Int) else (((q).den:Nat):Int)))->qI W u1 ((p).den*(q).num.natAbs)->Calls Tryz.prog 68 #[u0,u1] W (Ret W (zAR (fQN (p / q)) (fI (if q=0 then 30 else 0))).toSF):=fun W u0 u1 h0 h1=>by
  have:=zHR (m:=m+m) (h0.uv' (Bd.mul hp.1 bk2)) (h1.lv (zDM hp.2 hq.1)) oO
  simp only [hval,herr] at this
  exact this
 refine yD [(fRV m p).toSF,(fRV m q).toSF] Tryz.func20 rfl kH ⟨h,h',trivial⟩ fun a s=> ?_
 refine wpIn_seq ?_
 refine zB 0 [] hmix s kH
  zE fun a w1 s=> ?_
 refine yJ (CU.agg (fRV m p)) rfl s kH (fun v W h=>jX h) fun b2 a w s=> ?_
 refine yJ (CU.agg (fRV m q)) rfl s kH (fun v W h=>jX h) fun b3 a w s=> ?_
 refine zZ (CU.len 3) (cs:=zR3) kH rfl s kH (fun W=>rfl) rfl fun b4 a w s=> ?_
 refine yU (uI 0) rfl s kH iiz fun a w s=> ?_
 refine zA rfl ?_
 refine wpIn_seq ?_
 refine yN [] 4 ((6, .s ((fRV m p).toSF))::(7, .u (fQN p))::(8, .s ((fRV m q).toSF))::(9, .u (fQN q)):: []) hmix s kH
  (oc (zJ (f:=fRV m p) 3 kH (hz:=qD _ _))<|oc (zI zD zGm (fun u0 W hb (h0:RVp m p u0 W)=>zA9 h0 oO))<|oc (zJ (f:=fRV m q) 3 kH (hz:=qD _ _))<|oc (zI zD zGm (fun u0 W hb (h0:RVp m q u0 W)=>zA9 h0 oO))<|zE) fun Q' hQ a w2 s=> ?_
 refine zV (CU.agg (fQN p)) ((fQN p).toSF) rfl s kH rfl rfl rfl (qD _ _) iiz yL fun a w s=> ?_
 refine zV (CU.agg (fQN q)) ((fQN q).toSF) rfl s kH rfl rfl rfl (qD _ _) iiz yL fun a w s=> ?_
 refine zA rfl (hQ _ _ ?_)
 refine wpIn_seq ?_
 replace s:=s.drop [5]
 refine yN [] 19 ((10, .s (SF.ptr ((CU.agg (fQN p)).cf.at 0)))::(11, .s ((fNV ((p).num)).toSF))::(12, .s (SF.ptr ((CU.agg (fQN q)).cf.at 0)))::(13, .s (SF.ptr ((CU.agg (fQN q)).cf.at 0)))::(14, .s ((uB (decide ((q).num<0))).toSF))::(15, .s (SF.ptr ((CU.agg (fQN q)).cf.at 2)))::(16, .s ((qU ((q).den)).toSF))::(17, .s ((fUV m (if decide ((q).num<0) then -(((q).den:Nat):Int) else (((q).den:Nat):Int))).toSF))::(18, .s (zKe (m+m) [(p).num,(if decide ((q).num<0) then -(((q).den:Nat):Int) else (((q).den:Nat):Int))]))::(19, .s ((fNV ((p).num*(if decide ((q).num<0) then -(((q).den:Nat):Int) else (((q).den:Nat):Int)))).toSF))::(20, .s (SF.ptr ((CU.agg (fQN p)).cf.at 2)))::(21, .s ((qU ((p).den)).toSF))::(22, .s (SF.ptr ((CU.agg (fQN q)).cf.at 0)))::(23, .s (SF.ptr ((CU.agg (fQN q)).cf.at 1)))::(24, .s ((qU ((q).num.natAbs)).toSF))::(25, .s ((qU ((p).den*(q).num.natAbs)).toSF))::(26, .s ((zAR (fQN (p / q)) (uI (if q=0 then 30 else 0))).toSF))::(27, .u (fQN (p / q)))::(28, .u (uI (if q=0 then 30 else 0))):: []) hmix s kH
  (oc (zN (C:=(CU.agg (fQN p)).cf) 0 kH)<|oc (zX (C:=(CU.agg (fQN p)).cf) (k:=0) 2 kH (h:=zA6))<|oc (zN (C:=(CU.agg (fQN q)).cf) 0 kH)<|oc (yT (C:=(CU.agg (fQN q)).cf) 0 0 kH)<|oc (jK (C:=(CU.agg (fQN q)).cf) (k:=0) kH (h:=zRO))<|oc (zN (C:=(CU.agg (fQN q)).cf) 2 kH)<|oc (jK (C:=(CU.agg (fQN q)).cf) (k:=2) kH (h:=zAS))<|oc (qO (fun u v W (hu:u= .bool (decide ((q).num<0))) (hv:qI W v ((q).den))=>zRg hu hv hq.2))<|oc (yI (fun u v W (hu:NV W u ((p).num)) (hv:UV W m v (if decide ((q).num<0) then -(((q).den:Nat):Int) else (((q).den:Nat):Int)))=>zAW (NV.uv' hu (Bd.mono (hp).1 (m':=(m+m)) (by first|omega|decide))) (UV.mono hv (m':=(m+m)) (by first|omega|decide))))<|oc (zI zD zKf (fun u0 W hb (h0:ISV W (m+m) u0 [(p).num,(if decide ((q).num<0) then -(((q).den:Nat):Int) else (((q).den:Nat):Int))])=>zDH h0 (by show (m+m)*2+(m+m)+1<=40000;omega) (by simp) (by simp)))<|oc (zN (C:=(CU.agg (fQN p)).cf) 2 kH)<|oc (jK (C:=(CU.agg (fQN p)).cf) (k:=2) kH (h:=zAS))<|oc (zN (C:=(CU.agg (fQN q)).cf) 0 kH)<|oc (yT (C:=(CU.agg (fQN q)).cf) 0 1 kH)<|oc (jK (C:=(CU.agg (fQN q)).cf) (k:=1) kH (h:=zRP))<|oc (zH zD zQ4 (fun u0 u1 W hb (h0:qI W u0 ((p).den)) (h1:qI W u1 ((q).num.natAbs))=>zKX (qI.lv (m:=m) h0 hp.2) (qI.lv (m:=m) h1 hq.1) oO))<|oc (zH zD zOo (fun u0 u1 W hb (h0:NV W u0 ((p).num*(if decide ((q).num<0) then -(((q).den:Nat):Int) else (((q).den:Nat):Int)))) (h1:qI W u1 ((p).den*(q).num.natAbs))=>hnew W u0 u1 h0 h1))<|oc (zA0 (A:=(fQN (p / q)).toSF) (B:=(uI (if q=0 then 30 else 0)).toSF) iiz)<|oc (zAZ (A:=(fQN (p / q)).toSF) (B:=(uI (if q=0 then 30 else 0)).toSF) iiz)<|zE) fun Q' hQ a w3 s=> ?_
 refine zV (CU.agg (fQN (p / q))) ((fQN (p / q)).toSF) rfl s kH rfl rfl rfl iiz iiz yL fun a w s=> ?_
 refine yU (uI (if q=0 then 30 else 0)) rfl s kH iiz fun a w s=> ?_
 refine zA rfl (hQ _ _ ?_)
 refine wpIn_ret ?_
 exact StS.resCT s (CU.agg (fQN (p / q))) rfl kH rfl rfl (qY _) (fun cs v W h1 h2=>⟨_,_,rfl,h1,h2⟩)
end Go.Proofs.Wd

namespace Go.Proofs.Wd
set_option maxRecDepth 100000
open Go.RowKit Lb
theorem zLN {W:World} {b o:Nat} {cs ds:List Value} (k:Nat) (h:Mem W b o cs) (hd: ∀j u,ds[j]?=some u->cs[k+j]?=some u):Mem W b (o+k) ds:=fun j u hj=>by
 have:=h (k+j) u (hd j u hj)
 rwa [<-Nat.add_assoc] at this
abbrev rvs (m:Nat) (qs:List Rat):List CU:=qs.map fun q=>CU.agg (fRV m q)
theorem zKK {m:Nat} {qs:List Rat} {k:Nat} (h:k<qs.length):(rvs m qs)[k]?=some (CU.agg (fRV m (qAt qs k))):=by
 rw [List.getElem?_map,List.getElem?_eq_getElem h]
 simp [qAt,h]
theorem zLn {qs:List Rat} {k:Nat} (h:k<qs.length):qAt qs k∈qs:=by
 simp [qAt,h]
theorem zIG {m:Nat} {q:Rat} {v:Value} {W:World} (h:RVp m q v W): ∃s A n c D i j,v= .agg #[.bool s, .slice A n c, .slice D i j]:=by
 obtain ⟨k,d,h1,_⟩:=h
 exact zDI h1
theorem zBG {u v:Value} {W:World} {m:Nat} {p q:Rat} (hu:RVp m p u W) (hv:RVp m q v W): ∃e cs,yK Tryz.prog 110 2 [(0,u),(1,v)]=some (e,cs)/\(SF.row 3 (rvs m [p,q])).p (.slice (some ⟨W.heap.size,0,none⟩) 2 2) (W.alloc (.cells cs e)):=by
 obtain ⟨s,A,n,c,D,i,j,rfl⟩:=zIG hu
 obtain ⟨s',A',n',c',D',i',j',rfl⟩:=zIG hv
 refine ⟨_,_,zOR s s' A A' D D' n n' c c' i i' j j',some ⟨W.heap.size,0,none⟩,2,rfl,Nat.le_refl _,by decide,fun e=>(by cases e),fun x C hx=> ?_⟩
 have hb:=zC1 W (.cells #[.bool s, .slice A n c, .slice D i j, .bool s', .slice A' n' c', .slice D' i' j'] 28)
 have hm:=zBB W #[.bool s, .slice A n c, .slice D i j, .bool s', .slice A' n' c', .slice D' i' j'] 28
 rcases (by have:=(List.getElem?_eq_some_iff.1 hx).1;simp at this;omega:x=0∨x=1) with rfl|rfl
 ·obtain rfl:CU.agg (fRV m p)=C:=by simpa using hx
  exact ⟨W.heap.size,0, [.bool s, .slice A n c, .slice D i j],rfl,zLN 0 hm (fun j u hj=>by match j with|0=>exact hj|1=>exact hj|2=>exact hj|j+3=>simp at hj),(fRV m p).toSF.st _ _ _ hu hb⟩
 ·obtain rfl:CU.agg (fRV m q)=C:=by simpa using hx
  exact ⟨W.heap.size,0, [.bool s', .slice A' n' c', .slice D' i' j'],rfl,zLN 3 hm (fun j u hj=>by match j with|0=>exact hj|1=>exact hj|2=>exact hj|j+3=>simp at hj),(fRV m q).toSF.st _ _ _ hv hb⟩
theorem zQn {W:World} {m:Nat} {v:Value} {qs:List Rat} (M:Nat) (h:(SF.row 3 (rvs m qs)).p v W) (_hm0:0<m) (hmM:m<=M) (hM:M<=990) (hl:qs.length<=1000000) (hq: ∀q,q∈qs->QB q m) (hp: ∀k,k<qs.length->QB (zC2 qs k) M):Calls Tryz.prog 66 #[v] W (Ret W (fQN (zC2 qs qs.length)).toSF):=by
 refine yD [SF.row 3 (rvs m qs)] Tryz.func66 rfl kH ⟨h,trivial⟩ fun a s=> ?_
 refine wpIn_seq ?_
 refine zB 0 [] hmix s kH
  zE fun a w1 s=> ?_
 refine zZ (CU.len 3) (cs:=zR3) kH rfl s kH (fun W=>rfl) rfl fun b2 a w s=> ?_
 refine zA rfl ?_
 refine wpIn_seq ?_
 refine zB 1 ((5, .u (fQN ((0:Int):Rat))):: []) hmix s kH
  (oc (zI zD zHo (fun u0 W hb (h0:u0= .int .i64 0)=>zD5 0 h0 dA))<|zE) fun a w2 s=> ?_
 refine zZ (CU.len 3) (cs:=zR3) kH rfl s kH (fun W=>rfl) rfl fun b3 a w s=> ?_
 refine zV (CU.agg (fQN ((0:Int):Rat))) ((fQN ((0:Int):Rat)).toSF) rfl s kH rfl rfl rfl iiz iiz yL fun a w s=> ?_
 refine zA rfl ?_
 refine wpIn_seq ?_
 refine wpIn_seq ?_
 refine zB 1 ((4, .u (uI 0)):: []) hmix s kH
  (oc zG<|zE) fun a w3 s=> ?_
 refine zA rfl ?_
 refine wpIn_block ?_
 refine zGC 3 (fun p=>CU.agg (fQN (zC2 qs p))) (fun p=>p<=qs.length) (fun p=> [(0, .o (SF.row 3 (rvs m qs))),(4, .u (fI (p:Int)))]) (fun p=>qs.length - p) (0:Nat) (Nat.zero_le _) (s.keepK _ (fmz ⟨mz2,fmz ⟨.head _,fnz⟩⟩)) rfl fun p a w hx s=> ?_
 refine wpIn_seq ?_
 refine wpIn_seq ?_
 refine zB 4 ((6, .s ((fI (p:Int)).toSF))::(7, .s (SF.row 3 (rvs m qs)))::(8, .s ((uI (((rvs m qs).length:Nat):Int)).toSF))::(9, .u (uB (decide ((p:Int)<(((rvs m qs).length:Nat):Int))))):: []) hmix s kH
  (oc zC<|oc zC<|oc (zDP (z:=3) (Cs:=rvs m qs) kH iiz (fun _=>rfl))<|oc (zR .i64 (p:Int) (((rvs m qs).length:Nat):Int) (decide ((p:Int)<(((rvs m qs).length:Nat):Int))) iiz iiz rfl rfl)<|zE) fun a w4 s=> ?_
 refine zA rfl ?_
 refine StS.cond s (decide ((p:Int)<(((rvs m qs).length:Nat):Int))) iiz (fun e=> ?_) (fun e=> ?_)
 ·have hk1:p+1<=qs.length:=by have:=of_decide_eq_true e;rw [List.length_map] at this;omega
  have hx2:=zKK (m:=m) (k:=p) hk1
  have hqp:=hq _ (zLn (k:=p) hk1)
  refine wpIn_skip ?_
  refine wpIn_seq ?_
  refine wpIn_block ?_
  refine yN [1,2] 7 ((12, .s ((fQN (zC2 qs p)).toSF))::(13, .s (SF.row 3 (rvs m qs)))::(14, .s ((fI (p:Int)).toSF))::(15, .s (SF.ptr (CU.agg (fRV m (qAt qs p))).cf))::(16, .s ((fRV m (qAt qs p)).toSF))::(17, .s ((fQN (qAt qs p)).toSF))::(18, .u (fQN (zC2 qs p+qAt qs p))):: []) hmix s kH
   (oc (zJ (f:=fQN (zC2 qs p)) 3 kH (hz:=qY _))<|oc zC<|oc zC<|oc (zBb (z:=3) (Cs:=rvs m qs) (i:=p) (C:=CU.agg (fRV m (qAt qs p))) kH hx2 iiz iiz)<|oc (zJ (f:=fRV m (qAt qs p)) 3 kH (hz:=qD _ _))<|oc (zI zD zGm (fun u0 W hb (h0:RVp m (qAt qs p) u0 W)=>zA9 h0 oO))<|oc (zH zD zS3 (fun u0 u1 W hb (h0:QNp (zC2 qs p) u0 W) (h1:QNp (qAt qs p) u1 W)=>zQi h0 h1 (hp p hk1) (hqp.mono oO) oO))<|zE) fun Q' hQ a w5 s=> ?_
  refine zV (CU.agg (fQN (zC2 qs p+qAt qs p))) ((fQN (zC2 qs p+qAt qs p)).toSF) rfl s kH rfl rfl rfl (qY _) iiz yL fun a w s=> ?_
  refine zA rfl (hQ _ _ ?_)
  refine y6 2 ((10, .s ((fI (p:Int)).toSF))::(11, .u (fI ((p+1:Nat):Int))):: []) s kH
   (oc zC<|oc (qF .i64 (p:Int) 1 ((p+1:Nat):Int) iiz iiz (wrap64 _ _ oO oO))<|zE) fun a w6 s=> ?_
  replace s:=s.drop [4]
  refine yU (fI ((p+1:Nat):Int)) rfl s kH iiz fun a w s=> ?_
  refine zA rfl ?_
  exact ⟨p+1,hk1,(by show qs.length - (p+1)<qs.length - p;omega),s.keepK _ (fmz ⟨mz4,fmz ⟨.head _,fnz⟩⟩)⟩
 ·have hk1:p=qs.length:=by have:=of_decide_eq_false e;rw [List.length_map] at this;omega
  refine wpIn_exit ?_
  refine wpIn_seq ?_
  refine zB 1 ((19, .u (fQN (zC2 qs p))):: []) hmix s kH
   (oc (zJ (f:=fQN (zC2 qs p)) 3 kH (hz:=qY _))<|zE) fun a w7 s=> ?_
  refine zV (CU.agg (fQN (zC2 qs p))) ((fQN (zC2 qs p)).toSF) rfl s kH rfl rfl rfl iiz iiz yL fun a w s=> ?_
  refine zA rfl ?_
  refine wpIn_ret ?_
  exact StS.resC s (CU.agg (fQN (zC2 qs p))) rfl kH rfl rfl (qY _) (fun cs W h=>by rw [hk1] at h;exact h)
theorem zQl {W:World} {m:Nat} {v:Value} {qs:List Rat} (M:Nat) (h:(SF.row 3 (rvs m qs)).p v W) (_hm0:0<m) (hmM:m<=M) (hM:M<=990) (hl:qs.length<=1000000) (hq: ∀q,q∈qs->QB q m) (hp: ∀k,k<qs.length->QB (qV qs k) M):Calls Tryz.prog 72 #[v] W (Ret W (fQN (qV qs qs.length)).toSF):=by
 refine yD [SF.row 3 (rvs m qs)] Tryz.func72 rfl kH ⟨h,trivial⟩ fun a s=> ?_
 refine wpIn_seq ?_
 refine zB 0 [] hmix s kH
  zE fun a w1 s=> ?_
 refine zZ (CU.len 3) (cs:=zR3) kH rfl s kH (fun W=>rfl) rfl fun b2 a w s=> ?_
 refine zA rfl ?_
 refine wpIn_seq ?_
 refine zB 1 ((6, .u (fQN ((1:Int):Rat))):: []) hmix s kH
  (oc (zI zD zHo (fun u0 W hb (h0:u0= .int .i64 1)=>zD5 1 h0 dA))<|zE) fun a w2 s=> ?_
 refine zZ (CU.len 3) (cs:=zR3) kH rfl s kH (fun W=>rfl) rfl fun b3 a w s=> ?_
 refine zV (CU.agg (fQN ((1:Int):Rat))) ((fQN ((1:Int):Rat)).toSF) rfl s kH rfl rfl rfl iiz iiz yL fun a w s=> ?_
 refine zA rfl ?_
 refine wpIn_seq ?_
 refine wpIn_seq ?_
 refine zB 1 ((4, .u (uI 0)):: []) hmix s kH
  (oc zG<|zE) fun a w3 s=> ?_
 refine zA rfl ?_
 refine wpIn_block ?_
 refine zGC 3 (fun p=>CU.agg (fQN (qV qs p))) (fun p=>p<=qs.length) (fun p=> [(0, .o (SF.row 3 (rvs m qs))),(4, .u (fI (p:Int)))]) (fun p=>qs.length - p) (0:Nat) (Nat.zero_le _) (s.keepK _ (fmz ⟨mz2,fmz ⟨.head _,fnz⟩⟩)) rfl fun p a w hx s=> ?_
 refine wpIn_seq ?_
 refine wpIn_seq ?_
 refine zB 4 ((7, .s ((fI (p:Int)).toSF))::(8, .s (SF.row 3 (rvs m qs)))::(9, .s ((uI (((rvs m qs).length:Nat):Int)).toSF))::(10, .u (uB (decide ((p:Int)<(((rvs m qs).length:Nat):Int))))):: []) hmix s kH
  (oc zC<|oc zC<|oc (zDP (z:=3) (Cs:=rvs m qs) kH iiz (fun _=>rfl))<|oc (zR .i64 (p:Int) (((rvs m qs).length:Nat):Int) (decide ((p:Int)<(((rvs m qs).length:Nat):Int))) iiz iiz rfl rfl)<|zE) fun a w4 s=> ?_
 refine zA rfl ?_
 refine StS.cond s (decide ((p:Int)<(((rvs m qs).length:Nat):Int))) iiz (fun e=> ?_) (fun e=> ?_)
 ·have hk1:p+1<=qs.length:=by have:=of_decide_eq_true e;rw [List.length_map] at this;omega
  have hx2:=zKK (m:=m) (k:=p) hk1
  have hqp:=hq _ (zLn (k:=p) hk1)
  have hnew: ∀W u0 u1,NV W u0 ((qV qs p).num*(qAt qs p).num)->qI W u1 ((qV qs p).den*(qAt qs p).den)->Calls Tryz.prog 68 #[u0,u1] W (Ret W (zAR (fQN (qV qs p*qAt qs p)) (fI 0)).toSF):=fun W u0 u1 h0 h1=>by
   have:=zLc (m:=M+m) (h0.uv' (Bd.mul (hp p hk1).1 hqp.1)) (h1.lv (zDM (hp p hk1).2 hqp.2)) oO (Nat.mul_pos (Rat.den_pos _) (Rat.den_pos _))
   rw [<-Rat.mul_def'] at this
   exact this
  refine wpIn_skip ?_
  refine wpIn_seq ?_
  refine wpIn_block ?_
  refine wpIn_seq ?_
  refine zB 5 ((13, .s (SF.row 3 (rvs m qs)))::(14, .s ((fI (p:Int)).toSF))::(15, .s (SF.ptr (CU.agg (fRV m (qAt qs p))).cf))::(16, .s ((fRV m (qAt qs p)).toSF))::(17, .u (fQN (qAt qs p))):: []) hmix s kH
   (oc zC<|oc zC<|oc (zBb (z:=3) (Cs:=rvs m qs) (i:=p) (C:=CU.agg (fRV m (qAt qs p))) kH hx2 iiz iiz)<|oc (zJ (f:=fRV m (qAt qs p)) 3 kH (hz:=qD _ _))<|oc (zI zD zGm (fun u0 W hb (h0:RVp m (qAt qs p) u0 W)=>zA9 h0 oO))<|zE) fun a w5 s=> ?_
  refine zZ (CU.len 3) (cs:=zR3) kH rfl s kH (fun W=>rfl) rfl fun b5 a w s=> ?_
  refine zV (CU.agg (fQN (qAt qs p))) ((fQN (qAt qs p)).toSF) rfl s kH rfl rfl rfl iiz iiz yL fun a w s=> ?_
  refine zA rfl ?_
  refine zBR (fun i=> [14].contains i) [] 15 ((19, .s (SF.ptr ((CU.agg (fQN (qV qs p))).cf.at 0)))::(20, .s ((fNV ((qV qs p).num)).toSF))::(21, .s (SF.ptr ((CU.agg (fQN (qAt qs p))).cf.at 0)))::(22, .s ((fNV ((qAt qs p).num)).toSF))::(23, .s (zKe (M+m) [(qV qs p).num,(qAt qs p).num]))::(24, .s ((fNV ((qV qs p).num*(qAt qs p).num)).toSF))::(25, .s (SF.ptr ((CU.agg (fQN (qV qs p))).cf.at 2)))::(26, .s ((qU ((qV qs p).den)).toSF))::(27, .s (SF.ptr ((CU.agg (fQN (qAt qs p))).cf.at 2)))::(28, .s ((qU ((qAt qs p).den)).toSF))::(29, .s ((qU ((qV qs p).den*(qAt qs p).den)).toSF))::(30, .s ((zAR (fQN (qV qs p*qAt qs p)) (uI 0)).toSF))::(18, .s ((zAR (fQN (qV qs p*qAt qs p)) (uI 0)).toSF))::(31, .u (fQN (qV qs p*qAt qs p)))::(32, .s ((uI 0).toSF)):: []) hmix s fnz kH
   (oc (zN (C:=(CU.agg (fQN (qV qs p))).cf) 0 kH)<|oc (zX (C:=(CU.agg (fQN (qV qs p))).cf) (k:=0) 2 kH (h:=zA6))<|oc (zN (C:=(CU.agg (fQN (qAt qs p))).cf) 0 kH)<|oc (zX (C:=(CU.agg (fQN (qAt qs p))).cf) (k:=0) 2 kH (h:=zA6))<|oc (yI (fun u v W (hu:NV W u ((qV qs p).num)) (hv:NV W v ((qAt qs p).num))=>zAW (NV.uv' hu (Bd.mono (hp p hk1).1 (m':=(M+m)) (by first|omega|decide))) (NV.uv' hv (Bd.mono (hqp).1 (m':=(M+m)) (by first|omega|decide)))))<|oc (zI zD zKf (fun u0 W hb (h0:ISV W (M+m) u0 [(qV qs p).num,(qAt qs p).num])=>zDH h0 (by show (M+m)*2+(M+m)+1<=40000;omega) (by simp) (by simp)))<|oc (zN (C:=(CU.agg (fQN (qV qs p))).cf) 2 kH)<|oc (jK (C:=(CU.agg (fQN (qV qs p))).cf) (k:=2) kH (h:=zAS))<|oc (zN (C:=(CU.agg (fQN (qAt qs p))).cf) 2 kH)<|oc (jK (C:=(CU.agg (fQN (qAt qs p))).cf) (k:=2) kH (h:=zAS))<|oc (zH zD zQ4 (fun u0 u1 W hb (h0:qI W u0 ((qV qs p).den)) (h1:qI W u1 ((qAt qs p).den))=>zKX (qI.lv (m:=M+m) h0 (Nat.lt_of_lt_of_le (hp p hk1).2 (Nat.pow_le_pow_right yY oO))) (qI.lv (m:=M+m) h1 (Nat.lt_of_lt_of_le hqp.2 (Nat.pow_le_pow_right yY oO))) oO))<|oc (zH zD zOo (fun u0 u1 W hb (h0:NV W u0 ((qV qs p).num*(qAt qs p).num)) (h1:qI W u1 ((qV qs p).den*(qAt qs p).den))=>hnew W u0 u1 h0 h1))<|oc zC<|oc (zA0 (A:=(fQN (qV qs p*qAt qs p)).toSF) (B:=(uI 0).toSF) iiz)<|oc (zAZ (A:=(fQN (qV qs p*qAt qs p)).toSF) (B:=(uI 0).toSF) iiz)<|zE) fun Q' hQ a w6 s hr hd=> ?_
  refine zV (CU.agg (fQN (qV qs p*qAt qs p))) ((fQN (qV qs p*qAt qs p)).toSF) rfl s kH rfl rfl rfl (qY _) iiz yL fun a w s=> ?_
  refine zA rfl (hQ _ _ ?_)
  refine y6 2 ((11, .s ((fI (p:Int)).toSF))::(12, .u (fI ((p+1:Nat):Int))):: []) s kH
   (oc zC<|oc (qF .i64 (p:Int) 1 ((p+1:Nat):Int) iiz iiz (wrap64 _ _ oO oO))<|zE) fun a w7 s=> ?_
  replace s:=s.drop [4]
  refine yU (fI ((p+1:Nat):Int)) rfl s kH iiz fun a w s=> ?_
  refine zA rfl ?_
  replace s:=s.popB
  exact ⟨p+1,hk1,(by show qs.length - (p+1)<qs.length - p;omega),s.keepK _ (fmz ⟨mz5,fmz ⟨.head _,fnz⟩⟩)⟩
 ·have hk1:p=qs.length:=by have:=of_decide_eq_false e;rw [List.length_map] at this;omega
  refine wpIn_exit ?_
  refine wpIn_seq ?_
  refine zB 1 ((33, .u (fQN (qV qs p))):: []) hmix s kH
   (oc (zJ (f:=fQN (qV qs p)) 3 kH (hz:=qY _))<|zE) fun a w8 s=> ?_
  refine zV (CU.agg (fQN (qV qs p))) ((fQN (qV qs p)).toSF) rfl s kH rfl rfl rfl iiz iiz yL fun a w s=> ?_
  refine zA rfl ?_
  refine wpIn_ret ?_
  exact StS.resC s (CU.agg (fQN (qV qs p))) rfl kH rfl rfl (qY _) (fun cs W h=>by rw [hk1] at h;exact h)
theorem zDc {W:World} {m:Nat} {v:Value} {p q:Rat} (h:(SF.row 3 (rvs m [p,q])).p v W) (hp:QB p m) (hq:QB q m) (hm:m<=990):Calls Tryz.prog 66 #[v] W (Ret W (fQN (p+q)).toSF):=by
 have:=zQn m h hp.pos lr hm (by simp) (fun x hx=>by simp at hx;rcases hx with rfl|rfl;exact hp;exact hq) (fun k hk=>by
  rcases (by simp at hk;omega:k=0∨k=1) with rfl|rfl
  ·exact QB.zero hp.pos
  ·show QB (0+p) _
   rw [Rat.zero_add]
   exact hp)
 rw [show ([p,q]:List Rat).length=2 from rfl,zQv] at this
 exact this
theorem zBt {W:World} {m:Nat} {v:Value} {p q:Rat} (h:(SF.row 3 (rvs m [p,q])).p v W) (hp:QB p m) (hq:QB q m) (hm:m<=990):Calls Tryz.prog 72 #[v] W (Ret W (fQN (p*q)).toSF):=by
 have hm0:=hp.pos
 have:=zQl m h hm0 lr hm (by simp) (fun x hx=>by simp at hx;rcases hx with rfl|rfl;exact hp;exact hq) (fun k hk=>by
  rcases (by simp at hk;omega:k=0∨k=1) with rfl|rfl
  ·exact QB.one hp.pos
  ·show QB (1*p) _
   rw [Rat.one_mul]
   exact hp)
 rw [show ([p,q]:List Rat).length=2 from rfl,zLl] at this
 exact this
theorem zEY {F:Fence} {m:Nat} {P:Program} {w0:World} {ops:Array Oper} {G:Nat->SF} {d:Tmp} {ty:TypeId} {pos:String} {aft:Array Edge} {t:TypeId} {x y:Operand} {t':TypeId} (k:IntKind) (u v r:Int) (hx: ∀q W,(fct G x).p q W->q= .int k u) (hy: ∀q W,(fct G y).p q W->q= .int k v) (hr:k.wrap (u - v)=r) (hd: ∀W,(G d).p (.int k r) W:=by exact fun _=>rfl):qK F m P w0 ops G ⟨some d, .binOp .sub t x y t',ty,pos,aft,none⟩:=
 zB6 (.int k u) (.int k v) (.int k r) hx hy (fun W=>by simp [eqGuard]) (fun W=>by simp [binOp,Op.intArith,hr]) hd
theorem zFR {W:World} {m:Nat} {u v:Value} {p q:Rat} (h:RVp m p u W) (h':RVp m q v W) (hm:m<=990) (hm0:0<m):Calls Tryz.prog 103 #[u,v] W (Ret W (fQN (p - q)).toSF):=by
 have hp:QB p m:=h.qb hm0
 have hq:QB q m:=h'.qb hm0
 refine yD [(fRV m p).toSF,(fRV m q).toSF] Tryz.func103 rfl kH ⟨h,h',trivial⟩ fun a s=> ?_
 refine wpIn_seq ?_
 refine zB 0 [] hmix s kH
  zE fun a w1 s=> ?_
 refine yJ (CU.agg (fRV m p)) rfl s kH (fun v W h=>jX h) fun b2 a w s=> ?_
 refine yJ (CU.agg (fRV m q)) rfl s kH (fun v W h=>jX h) fun b3 a w s=> ?_
 refine zZ (CU.len 3) (cs:=zR3) kH rfl s kH (fun W=>rfl) rfl fun b4 a w s=> ?_
 refine zA rfl ?_
 refine wpIn_seq ?_
 refine yN [] 5 ((5, .s ((fRV m p).toSF))::(6, .s ((fRV m q).toSF))::(7, .s ((fQN (-q)).toSF))::(8, .s (SF.row 3 (rvs m [p,(-q)])))::(9, .u (fQN (p+ -q))):: []) hmix s kH
  (oc (zJ (f:=fRV m p) 3 kH (hz:=qD _ _))<|oc (zJ (f:=fRV m q) 3 kH (hz:=qD _ _))<|oc (zI zD zSP (fun u0 W hb (h0:RVp m q u0 W)=>zQk h0 oO hm0))<|oc (yI (fun u v W (hu:RVp m p u W) (hv:QNp (-q) v W)=>zBG hu (QNp.rv hv hq.neg)))<|oc (zI zD zMq (fun u0 W hb (h0:(SF.row 3 (rvs m [p,(-q)])).p u0 W)=>zDc h0 hp hq.neg oO))<|zE) fun Q' hQ a w2 s=> ?_
 refine zV (CU.agg (fQN (p+ -q))) ((fQN (p+ -q)).toSF) rfl s kH rfl rfl rfl iiz iiz yL fun a w s=> ?_
 refine zA rfl (hQ _ _ ?_)
 refine wpIn_ret ?_
 exact StS.resC s (CU.agg (fQN (p+ -q))) rfl kH rfl rfl (qY _) (fun cs W h=>by rw [Rat.sub_eq_add_neg];exact h)
theorem zQm {W:World} {m:Nat} {u v:Value} {p q:Rat} (h:RVp m p u W) (h':RVp m q v W) (hm:m<=490) (hm0:0<m):Calls Tryz.prog 49 #[u,v] W (Ret W (fQN ((p+q) / 2)).toSF):=by
 have hp:QB p m:=h.qb hm0
 have hq:QB q m:=h'.qb hm0
 have hq2:QB ((2:Int):Rat) (m+m+1):=QB.mono (m:=1) ⟨by unfold Bd BB;decide+kernel,by unfold BB;decide+kernel⟩ oO
 refine yD [(fRV m p).toSF,(fRV m q).toSF] Tryz.func49 rfl kH ⟨h,h',trivial⟩ fun a s=> ?_
 refine wpIn_seq ?_
 refine zB 0 [] hmix s kH
  zE fun a w1 s=> ?_
 refine yJ (CU.agg (fRV m p)) rfl s kH (fun v W h=>jX h) fun b2 a w s=> ?_
 refine yJ (CU.agg (fRV m q)) rfl s kH (fun v W h=>jX h) fun b3 a w s=> ?_
 refine zZ (CU.len 3) (cs:=zR3) kH rfl s kH (fun W=>rfl) rfl fun b4 a w s=> ?_
 refine zA rfl ?_
 refine wpIn_seq ?_
 refine zB 9 ((8, .s ((fRV m p).toSF))::(9, .s ((fRV m q).toSF))::(10, .s (SF.row 3 (rvs m [p,q])))::(11, .s ((fQN (p+q)).toSF))::(12, .s ((fQN ((2:Int):Rat)).toSF))::(13, .s ((zAR (fQN ((p+q) / ((2:Int):Rat))) (UF.any)).toSF))::(7, .s ((zAR (fQN ((p+q) / ((2:Int):Rat))) (UF.any)).toSF))::(14, .u (fQN ((p+q) / ((2:Int):Rat)))):: []) hmix s kH
  (oc (zJ (f:=fRV m p) 3 kH (hz:=qD _ _))<|oc (zJ (f:=fRV m q) 3 kH (hz:=qD _ _))<|oc (yI (fun u v W (hu:RVp m p u W) (hv:RVp m q v W)=>zBG hu hv))<|oc (zI zD zMq (fun u0 W hb (h0:(SF.row 3 (rvs m [p,q])).p u0 W)=>zDc h0 hp hq oO))<|oc (zI zD zHo (fun u0 W hb (h0:u0= .int .i64 2)=>zD5 2 h0 dA))<|oc (zH zD zSy (fun u0 u1 W hb (h0:QNp (p+q) u0 W) (h1:QNp ((2:Int):Rat) u1 W)=>(zLa (QNp.rv h0 (hp.add hq)) (QNp.rv h1 hq2) oO oO).mono (fun e w' ⟨v,e1,⟨x,y,e2,h2,_⟩,hb⟩=>⟨v,e1,⟨x,y,e2,h2,trivial⟩,hb⟩)))<|oc zC<|oc (zA0 (A:=(fQN ((p+q) / ((2:Int):Rat))).toSF) (B:=(UF.any).toSF) iiz)<|oc (zAZ (A:=(fQN ((p+q) / ((2:Int):Rat))).toSF) (B:=(UF.any).toSF) iiz)<|zE) fun a w2 s=> ?_
 refine zZ (CU.len 3) (cs:=zR3) kH rfl s kH (fun W=>rfl) rfl fun b5 a w s=> ?_
 refine zV (CU.agg (fQN ((p+q) / ((2:Int):Rat)))) ((fQN ((p+q) / ((2:Int):Rat))).toSF) rfl s kH rfl rfl rfl iiz iiz yL fun a w s=> ?_
 refine yU UF.any rfl s kH (fun _ _ _=>trivial) fun a w s=> ?_
 refine zA rfl ?_
 refine wpIn_seq ?_
 refine zB 1 ((16, .u (fQN ((p+q) / ((2:Int):Rat)))):: []) hmix s kH
  (oc (zJ (f:=fQN ((p+q) / ((2:Int):Rat))) 3 kH (hz:=qY _))<|zE) fun a w3 s=> ?_
 refine zV (CU.agg (fQN ((p+q) / ((2:Int):Rat)))) ((fQN ((p+q) / ((2:Int):Rat))).toSF) rfl s kH rfl rfl rfl iiz iiz yL fun a w s=> ?_
 refine zA rfl ?_
 refine wpIn_ret ?_
 exact StS.resC s (CU.agg (fQN ((p+q) / ((2:Int):Rat)))) rfl kH rfl rfl (qY _) (fun cs W h=>h)
abbrev QX.q (x:QX):Rat:=mkRat x.k x.d
theorem zTp {n n' m:Nat} {k:Int} {d:Nat} {v:Value} {W:World} (h:QXp n n' k d v W) (h1:n<=m) (h2:n'<=m):RVp m (mkRat k d) v W:=⟨k,d,zTJ h h1 h2,rfl⟩
end Go.Proofs.Wd

namespace Go.Proofs.Wd
set_option maxRecDepth 100000
set_option maxHeartbeats 1000000
open Go.RowKit Lb
theorem zDb {W:World} {u v:Value} {x y:Int} (hu:u= .int .i64 x) (hv:v= .int .i64 y) (hx: -9223372036854775808<=x/\x<=9223372036854775807) (hy: -9223372036854775808<=y/\y<=9223372036854775807):Calls Tryz.prog 18 #[u,v] W (Ret W (fPN (((x:Int):Rat),((y:Int):Rat))).toSF):=by
 refine yD [(uI x).toSF,(uI y).toSF] Tryz.func18 rfl kH ⟨hu,hv,trivial⟩ fun a s=> ?_
 refine wpIn_seq ?_
 refine zB 0 [] hmix s kH
  zE fun a w1 s=> ?_
 refine zZ (CU.len 6) (cs:=zP6) kH rfl s kH (fun W=>rfl) rfl fun b4 a w s=> ?_
 refine zA rfl ?_
 refine wpIn_seq ?_
 refine zB 5 ((5, .s ((uI x).toSF))::(6, .s ((fQN ((x:Int):Rat)).toSF))::(7, .s ((uI y).toSF))::(8, .s ((fQN ((y:Int):Rat)).toSF))::(9, .u (fPN (((x:Int):Rat),((y:Int):Rat)))):: []) hmix s kH
  (oc zC<|oc (zI zD zHo (fun u0 W hb (h0:u0= .int .i64 x)=>zD5 x h0 hx))<|oc zC<|oc (zI zD zHo (fun u0 W hb (h0:u0= .int .i64 y)=>zD5 y h0 hy))<|oc (qO (fun u v W (hu:QNp ((x:Int):Rat) u W) (hv:QNp ((y:Int):Rat) v W)=>zRe (zAL _) (zAL _) hu hv))<|zE) fun a w2 s=> ?_
 refine zV (CU.agg (fPN (((x:Int):Rat),((y:Int):Rat)))) ((fPN (((x:Int):Rat),((y:Int):Rat))).toSF) rfl s kH rfl rfl rfl iiz iiz yR fun a w s=> ?_
 refine zA rfl ?_
 refine wpIn_ret ?_
 exact StS.resC s (CU.agg (fPN (((x:Int):Rat),((y:Int):Rat)))) rfl kH rfl rfl (zP _ _) (fun cs W h=>h)
theorem zQh {m:Nat} {W:World} {u v:Value} {p q:V2} (h1:(fPV m p).p u W) (h2:(fPV m q).p v W) (hp:QB p.1 m/\QB p.2 m) (hq:QB q.1 m/\QB q.2 m) (hm:m<=990):Calls Tryz.prog 19 #[u,v] W (Ret W (fPN (p.1+q.1,p.2+q.2)).toSF):=by
 refine yD [(fPV m p).toSF,(fPV m q).toSF] Tryz.func19 rfl kH ⟨h1,h2,trivial⟩ fun a s=> ?_
 refine wpIn_seq ?_
 refine zB 0 [] hmix s kH
  zE fun a w1 s=> ?_
 refine yJ (CU.agg (fPV m p)) rfl s kH (fun v W h=>yP h) fun b2 a w s=> ?_
 refine yJ (CU.agg (fPV m q)) rfl s kH (fun v W h=>yP h) fun b3 a w s=> ?_
 refine zZ (CU.len 6) (cs:=zP6) kH rfl s kH (fun W=>rfl) rfl fun b4 a w s=> ?_
 refine zA rfl ?_
 refine wpIn_seq ?_
 refine yN [] 13 ((5, .s (SF.ptr ((CU.agg (fPV m p)).cf.at 0)))::(6, .s ((fRV m ((p).1)).toSF))::(7, .s (SF.ptr ((CU.agg (fPV m q)).cf.at 0)))::(8, .s ((fRV m ((q).1)).toSF))::(9, .s (SF.row 3 (rvs m [(p).1,(q).1])))::(10, .s ((fQN ((p).1+(q).1)).toSF))::(11, .s (SF.ptr ((CU.agg (fPV m p)).cf.at 3)))::(12, .s ((fRV m ((p).2)).toSF))::(13, .s (SF.ptr ((CU.agg (fPV m q)).cf.at 3)))::(14, .s ((fRV m ((q).2)).toSF))::(15, .s (SF.row 3 (rvs m [(p).2,(q).2])))::(16, .s ((fQN ((p).2+(q).2)).toSF))::(17, .u (fPN (p.1+q.1,p.2+q.2))):: []) hmix s kH
  (oc (zN (C:=(CU.agg (fPV m p)).cf) 0 kH)<|oc (zX (C:=(CU.agg (fPV m p)).cf) (k:=0) 3 kH (h:=zFi))<|oc (zN (C:=(CU.agg (fPV m q)).cf) 0 kH)<|oc (zX (C:=(CU.agg (fPV m q)).cf) (k:=0) 3 kH (h:=zFi))<|oc (yI (fun u v W (hu:RVp m ((p).1) u W) (hv:RVp m ((q).1) v W)=>zBG hu hv))<|oc (zI zD zMq (fun u0 W hb (h0:(SF.row 3 (rvs m [(p).1,(q).1])).p u0 W)=>zDc h0 hp.1 hq.1 hm))<|oc (zN (C:=(CU.agg (fPV m p)).cf) 3 kH)<|oc (zX (C:=(CU.agg (fPV m p)).cf) (k:=3) 3 kH (h:=zDK))<|oc (zN (C:=(CU.agg (fPV m q)).cf) 3 kH)<|oc (zX (C:=(CU.agg (fPV m q)).cf) (k:=3) 3 kH (h:=zDK))<|oc (yI (fun u v W (hu:RVp m ((p).2) u W) (hv:RVp m ((q).2) v W)=>zBG hu hv))<|oc (zI zD zMq (fun u0 W hb (h0:(SF.row 3 (rvs m [(p).2,(q).2])).p u0 W)=>zDc h0 hp.2 hq.2 hm))<|oc (qO (fun u v W (hu:QNp ((p).1+(q).1) u W) (hv:QNp ((p).2+(q).2) v W)=>zRe (zAL _) (zAL _) hu hv))<|zE) fun Q' hQ a w2 s=> ?_
 refine zV (CU.agg (fPN (p.1+q.1,p.2+q.2))) ((fPN (p.1+q.1,p.2+q.2)).toSF) rfl s kH rfl rfl rfl iiz iiz yR fun a w s=> ?_
 refine zA rfl (hQ _ _ ?_)
 refine wpIn_ret ?_
 exact StS.resC s (CU.agg (fPN (p.1+q.1,p.2+q.2))) rfl kH rfl rfl (zP _ _) (fun cs W h=>h)
theorem zBy {m:Nat} {W:World} {u v:Value} {p q:V2} (h1:(fPV m p).p u W) (h2:(fPV m q).p v W) (hm:m<=990) (hm0:0<m):Calls Tryz.prog 58 #[u,v] W (Ret W (fPN (p.1 - q.1,p.2 - q.2)).toSF):=by
 refine yD [(fPV m p).toSF,(fPV m q).toSF] Tryz.func58 rfl kH ⟨h1,h2,trivial⟩ fun a s=> ?_
 refine wpIn_seq ?_
 refine zB 0 [] hmix s kH
  zE fun a w1 s=> ?_
 refine yJ (CU.agg (fPV m p)) rfl s kH (fun v W h=>yP h) fun b2 a w s=> ?_
 refine yJ (CU.agg (fPV m q)) rfl s kH (fun v W h=>yP h) fun b3 a w s=> ?_
 refine zZ (CU.len 6) (cs:=zP6) kH rfl s kH (fun W=>rfl) rfl fun b4 a w s=> ?_
 refine zA rfl ?_
 refine wpIn_seq ?_
 refine yN [] 11 ((5, .s (SF.ptr ((CU.agg (fPV m p)).cf.at 0)))::(6, .s ((fRV m ((p).1)).toSF))::(7, .s (SF.ptr ((CU.agg (fPV m q)).cf.at 0)))::(8, .s ((fRV m ((q).1)).toSF))::(9, .s ((fQN ((p).1 - (q).1)).toSF))::(10, .s (SF.ptr ((CU.agg (fPV m p)).cf.at 3)))::(11, .s ((fRV m ((p).2)).toSF))::(12, .s (SF.ptr ((CU.agg (fPV m q)).cf.at 3)))::(13, .s ((fRV m ((q).2)).toSF))::(14, .s ((fQN ((p).2 - (q).2)).toSF))::(15, .u (fPN (p.1 - q.1,p.2 - q.2))):: []) hmix s kH
  (oc (zN (C:=(CU.agg (fPV m p)).cf) 0 kH)<|oc (zX (C:=(CU.agg (fPV m p)).cf) (k:=0) 3 kH (h:=zFi))<|oc (zN (C:=(CU.agg (fPV m q)).cf) 0 kH)<|oc (zX (C:=(CU.agg (fPV m q)).cf) (k:=0) 3 kH (h:=zFi))<|oc (zH zD zJw (fun u0 u1 W hb (h0:RVp m ((p).1) u0 W) (h1:RVp m ((q).1) u1 W)=>zFR h0 h1 hm hm0))<|oc (zN (C:=(CU.agg (fPV m p)).cf) 3 kH)<|oc (zX (C:=(CU.agg (fPV m p)).cf) (k:=3) 3 kH (h:=zDK))<|oc (zN (C:=(CU.agg (fPV m q)).cf) 3 kH)<|oc (zX (C:=(CU.agg (fPV m q)).cf) (k:=3) 3 kH (h:=zDK))<|oc (zH zD zJw (fun u0 u1 W hb (h0:RVp m ((p).2) u0 W) (h1:RVp m ((q).2) u1 W)=>zFR h0 h1 hm hm0))<|oc (qO (fun u v W (hu:QNp ((p).1 - (q).1) u W) (hv:QNp ((p).2 - (q).2) v W)=>zRe (zAL _) (zAL _) hu hv))<|zE) fun Q' hQ a w2 s=> ?_
 refine zV (CU.agg (fPN (p.1 - q.1,p.2 - q.2))) ((fPN (p.1 - q.1,p.2 - q.2)).toSF) rfl s kH rfl rfl rfl iiz iiz yR fun a w s=> ?_
 refine zA rfl (hQ _ _ ?_)
 refine wpIn_ret ?_
 exact StS.resC s (CU.agg (fPN (p.1 - q.1,p.2 - q.2))) rfl kH rfl rfl (zP _ _) (fun cs W h=>h)
theorem zK7 {m:Nat} {W:World} {u v:Value} {p:V2} {t:Rat} (h1:(fPV m p).p u W) (h2:RVp m t v W) (hp:QB p.1 m/\QB p.2 m) (ht:QB t m) (hm:m<=990):Calls Tryz.prog 22 #[u,v] W (Ret W (fPN (p.1*t,p.2*t)).toSF):=by
 refine yD [(fPV m p).toSF,(fRV m t).toSF] Tryz.func22 rfl kH ⟨h1,h2,trivial⟩ fun a s=> ?_
 refine wpIn_seq ?_
 refine zB 0 [] hmix s kH
  zE fun a w1 s=> ?_
 refine yJ (CU.agg (fPV m p)) rfl s kH (fun v W h=>yP h) fun b2 a w s=> ?_
 refine yJ (CU.agg (fRV m t)) rfl s kH (fun v W h=>jX h) fun b3 a w s=> ?_
 refine zZ (CU.len 6) (cs:=zP6) kH rfl s kH (fun W=>rfl) rfl fun b4 a w s=> ?_
 refine zA rfl ?_
 refine wpIn_seq ?_
 refine yN [] 11 ((5, .s (SF.ptr ((CU.agg (fPV m p)).cf.at 0)))::(6, .s ((fRV m ((p).1)).toSF))::(7, .s ((fRV m t).toSF))::(8, .s (SF.row 3 (rvs m [(p).1,t])))::(9, .s ((fQN ((p).1*t)).toSF))::(10, .s (SF.ptr ((CU.agg (fPV m p)).cf.at 3)))::(11, .s ((fRV m ((p).2)).toSF))::(12, .s ((fRV m t).toSF))::(13, .s (SF.row 3 (rvs m [(p).2,t])))::(14, .s ((fQN ((p).2*t)).toSF))::(15, .u (fPN (p.1*t,p.2*t))):: []) hmix s kH
  (oc (zN (C:=(CU.agg (fPV m p)).cf) 0 kH)<|oc (zX (C:=(CU.agg (fPV m p)).cf) (k:=0) 3 kH (h:=zFi))<|oc (zJ (f:=fRV m t) 3 kH (hz:=qD _ _))<|oc (yI (fun u v W (hu:RVp m ((p).1) u W) (hv:RVp m t v W)=>zBG hu hv))<|oc (zI zD zHn (fun u0 W hb (h0:(SF.row 3 (rvs m [(p).1,t])).p u0 W)=>zBt h0 hp.1 ht oO))<|oc (zN (C:=(CU.agg (fPV m p)).cf) 3 kH)<|oc (zX (C:=(CU.agg (fPV m p)).cf) (k:=3) 3 kH (h:=zDK))<|oc (zJ (f:=fRV m t) 3 kH (hz:=qD _ _))<|oc (yI (fun u v W (hu:RVp m ((p).2) u W) (hv:RVp m t v W)=>zBG hu hv))<|oc (zI zD zHn (fun u0 W hb (h0:(SF.row 3 (rvs m [(p).2,t])).p u0 W)=>zBt h0 hp.2 ht oO))<|oc (qO (fun u v W (hu:QNp ((p).1*t) u W) (hv:QNp ((p).2*t) v W)=>zRe (zAL _) (zAL _) hu hv))<|zE) fun Q' hQ a w2 s=> ?_
 refine zV (CU.agg (fPN (p.1*t,p.2*t))) ((fPN (p.1*t,p.2*t)).toSF) rfl s kH rfl rfl rfl iiz iiz yR fun a w s=> ?_
 refine zA rfl (hQ _ _ ?_)
 refine wpIn_ret ?_
 exact StS.resC s (CU.agg (fPN (p.1*t,p.2*t))) rfl kH rfl rfl (zP _ _) (fun cs W h=>h)
theorem zER {m:Nat} {W:World} {u v:Value} {p q:V2} (h1:(fPV m p).p u W) (h2:(fPV m q).p v W) (hp:QB p.1 m/\QB p.2 m) (hq:QB q.1 m/\QB q.2 m) (hm:m<=495) (hm0:0<m):Calls Tryz.prog 60 #[u,v] W (Ret W (fQN (p.1*q.2 - p.2*q.1)).toSF):=by
 refine yD [(fPV m p).toSF,(fPV m q).toSF] Tryz.func60 rfl kH ⟨h1,h2,trivial⟩ fun a s=> ?_
 refine wpIn_seq ?_
 refine zB 0 [] hmix s kH
  zE fun a w1 s=> ?_
 refine yJ (CU.agg (fPV m p)) rfl s kH (fun v W h=>yP h) fun b2 a w s=> ?_
 refine yJ (CU.agg (fPV m q)) rfl s kH (fun v W h=>yP h) fun b3 a w s=> ?_
 refine zZ (CU.len 3) (cs:=zR3) kH rfl s kH (fun W=>rfl) rfl fun b4 a w s=> ?_
 refine zA rfl ?_
 refine wpIn_seq ?_
 refine yN [] 13 ((5, .s (SF.ptr ((CU.agg (fPV m p)).cf.at 0)))::(6, .s ((fRV m ((p).1)).toSF))::(7, .s (SF.ptr ((CU.agg (fPV m q)).cf.at 3)))::(8, .s ((fRV m ((q).2)).toSF))::(9, .s (SF.row 3 (rvs m [(p).1,(q).2])))::(10, .s ((fQN ((p).1*(q).2)).toSF))::(11, .s (SF.ptr ((CU.agg (fPV m p)).cf.at 3)))::(12, .s ((fRV m ((p).2)).toSF))::(13, .s (SF.ptr ((CU.agg (fPV m q)).cf.at 0)))::(14, .s ((fRV m ((q).1)).toSF))::(15, .s (SF.row 3 (rvs m [(p).2,(q).1])))::(16, .s ((fQN ((p).2*(q).1)).toSF))::(17, .u (fQN (((p).1*(q).2) - ((p).2*(q).1)))):: []) hmix s kH
  (oc (zN (C:=(CU.agg (fPV m p)).cf) 0 kH)<|oc (zX (C:=(CU.agg (fPV m p)).cf) (k:=0) 3 kH (h:=zFi))<|oc (zN (C:=(CU.agg (fPV m q)).cf) 3 kH)<|oc (zX (C:=(CU.agg (fPV m q)).cf) (k:=3) 3 kH (h:=zDK))<|oc (yI (fun u v W (hu:RVp m ((p).1) u W) (hv:RVp m ((q).2) v W)=>zBG hu hv))<|oc (zI zD zHn (fun u0 W hb (h0:(SF.row 3 (rvs m [(p).1,(q).2])).p u0 W)=>zBt h0 hp.1 hq.2 oO))<|oc (zN (C:=(CU.agg (fPV m p)).cf) 3 kH)<|oc (zX (C:=(CU.agg (fPV m p)).cf) (k:=3) 3 kH (h:=zDK))<|oc (zN (C:=(CU.agg (fPV m q)).cf) 0 kH)<|oc (zX (C:=(CU.agg (fPV m q)).cf) (k:=0) 3 kH (h:=zFi))<|oc (yI (fun u v W (hu:RVp m ((p).2) u W) (hv:RVp m ((q).1) v W)=>zBG hu hv))<|oc (zI zD zHn (fun u0 W hb (h0:(SF.row 3 (rvs m [(p).2,(q).1])).p u0 W)=>zBt h0 hp.2 hq.1 oO))<|oc (zH zD zJw (fun u0 u1 W hb (h0:QNp ((p).1*(q).2) u0 W) (h1:QNp ((p).2*(q).1) u1 W)=>zFR (QNp.rv h0 (hp.1.mul hq.2)) (QNp.rv h1 (hp.2.mul hq.1)) oO oO))<|zE) fun Q' hQ a w2 s=> ?_
 refine zV (CU.agg (fQN (((p).1*(q).2) - ((p).2*(q).1)))) ((fQN (((p).1*(q).2) - ((p).2*(q).1))).toSF) rfl s kH rfl rfl rfl iiz iiz yL fun a w s=> ?_
 refine zA rfl (hQ _ _ ?_)
 refine wpIn_ret ?_
 exact StS.resC s (CU.agg (fQN (p.1*q.2 - p.2*q.1))) rfl kH rfl rfl (qY _) (fun cs W h=>h)
theorem zRK {m k:Nat} (M:Nat) {W:World} {u v x:Value} {p q:V2} {t:Rat} (h1:(fPV m p).p u W) (h2:(fPV m q).p v W) (h3:RVp k t x W) (hp:QB p.1 m/\QB p.2 m) (hq:QB q.1 m/\QB q.2 m) (ht:QB t k) (hm0:0<m) (hM:m+m+1+k<=M) (hM2:M<=990):Calls Tryz.prog 44 #[u,v,x] W (Ret W (fPN (seg p q t)).toSF):=by
 refine yD [(fPV m p).toSF,(fPV m q).toSF,(fRV k t).toSF] Tryz.func44 rfl kH ⟨h1,h2,h3,trivial⟩ fun a s=> ?_
 refine wpIn_seq ?_
 refine zB 0 [] hmix s kH
  zE fun a w1 s=> ?_
 refine yJ (CU.agg (fPV m p)) rfl s kH (fun v W h=>yP h) fun b3 a w s=> ?_
 refine yJ (CU.agg (fPV m q)) rfl s kH (fun v W h=>yP h) fun b4 a w s=> ?_
 refine yJ (CU.agg (fRV k t)) rfl s kH (fun v W h=>jX h) fun b5 a w s=> ?_
 refine zZ (CU.len 6) (cs:=zP6) kH rfl s kH (fun W=>rfl) rfl fun b6 a w s=> ?_
 refine zA rfl ?_
 refine wpIn_seq ?_
 refine yN [] 7 ((7, .s ((fPV m p).toSF))::(8, .s ((fPV m q).toSF))::(9, .s ((fPV m p).toSF))::(10, .s ((fPN ((q).1 - (p).1,(q).2 - (p).2)).toSF))::(11, .s ((fRV k t).toSF))::(12, .s ((fPN (((q).1 - (p).1)*t,((q).2 - (p).2)*t)).toSF))::(13, .u (fPN (seg p q t))):: []) hmix s kH
  (oc (zJ (f:=fPV m p) 6 kH (hz:=zP _ _))<|oc (zJ (f:=fPV m q) 6 kH (hz:=zP _ _))<|oc (zJ (f:=fPV m p) 6 kH (hz:=zP _ _))<|oc (zH zD zFm (fun u0 u1 W hb (h0:(fPV m q).p u0 W) (h1:(fPV m p).p u1 W)=>zBy (p:=q) (q:=p) h0 h1 oO hm0))<|oc (zJ (f:=fRV k t) 3 kH (hz:=qD _ _))<|oc (zH zD zUa (fun u0 u1 W hb (h0:(fPN ((q).1 - (p).1,(q).2 - (p).2)).p u0 W) (h1:RVp k t u1 W)=>zK7 (p:=((q).1 - (p).1,(q).2 - (p).2)) (zBa (p:=((q).1 - (p).1,(q).2 - (p).2)) (m:=M) ((show QB _ _/\QB _ _ from ⟨hq.1.sub hp.1,hq.2.sub hp.2⟩).1.mono (by first|omega|decide)) ((show QB _ _/\QB _ _ from ⟨hq.1.sub hp.1,hq.2.sub hp.2⟩).2.mono (by first|omega|decide)) h0) (RVp.mono h1 oO) ⟨(show QB _ _/\QB _ _ from ⟨hq.1.sub hp.1,hq.2.sub hp.2⟩).1.mono oO,(show QB _ _/\QB _ _ from ⟨hq.1.sub hp.1,hq.2.sub hp.2⟩).2.mono oO⟩ (ht.mono oO) oO))<|oc (zH zD zUb (fun u0 u1 W hb (h0:(fPV m p).p u0 W) (h1:(fPN (((q).1 - (p).1)*t,((q).2 - (p).2)*t)).p u1 W)=>zQh (p:=p) (q:=(((q).1 - (p).1)*t,((q).2 - (p).2)*t)) (zFV (m':=M) oO h0) (zBa (p:=(((q).1 - (p).1)*t,((q).2 - (p).2)*t)) (m:=M) ((show QB _ _/\QB _ _ from ⟨(hq.1.sub hp.1).mul ht,(hq.2.sub hp.2).mul ht⟩).1.mono (by first|omega|decide)) ((show QB _ _/\QB _ _ from ⟨(hq.1.sub hp.1).mul ht,(hq.2.sub hp.2).mul ht⟩).2.mono (by first|omega|decide)) h1) ⟨hp.1.mono oO,hp.2.mono oO⟩ ⟨(show QB _ _/\QB _ _ from ⟨(hq.1.sub hp.1).mul ht,(hq.2.sub hp.2).mul ht⟩).1.mono oO,(show QB _ _/\QB _ _ from ⟨(hq.1.sub hp.1).mul ht,(hq.2.sub hp.2).mul ht⟩).2.mono oO⟩ oO))<|zE) fun Q' hQ a w2 s=> ?_
 refine zV (CU.agg (fPN (seg p q t))) ((fPN (seg p q t)).toSF) rfl s kH rfl rfl rfl iiz iiz yR fun a w s=> ?_
 refine zA rfl (hQ _ _ ?_)
 refine wpIn_ret ?_
 exact StS.resC s (CU.agg (fPN (seg p q t))) rfl kH rfl rfl (zP _ _) (fun cs W h=>h)
end Go.Proofs.Wd

namespace Go.Proofs.Wd
set_option maxRecDepth 100000
set_option maxHeartbeats 1000000
open Go.RowKit Lb
theorem zUE (s:Bool) (A A':Option Addr) (n n' c c':Nat) (s2:Bool) (B B':Option Addr) (k k' d d':Nat):yK Tryz.prog 22 1 [(0, .agg #[.bool s, .slice A n c, .slice A' n' c', .bool s2, .slice B k d, .slice B' k' d'])]=some (30,#[.bool s, .slice A n c, .slice A' n' c', .bool s2, .slice B k d, .slice B' k' d']):=by kernel_rfl
theorem zD2 {f g:UF} {u:Value} {W:World} (h:(fPT f g).p u W): ∃e cs,yK Tryz.prog 22 1 [(0,u)]=some (e,cs)/\(SF.row 6 [CU.agg (fPT f g)]).p (.slice (some ⟨W.heap.size,0,none⟩) 1 1) (W.alloc (.cells cs e)):=by
 obtain ⟨s,A,n,c,A',n',c',s2,B,k,d,B',k',d',rfl,h1,h2⟩:=h
 refine ⟨_,_,zUE s A A' n n' c c' s2 B B' k k' d d',some ⟨W.heap.size,0,none⟩,1,rfl,Nat.le_refl _,by decide,fun e=>(by cases e),fun i C hi=> ?_⟩
 have hb:=zC1 W (.cells #[.bool s, .slice A n c, .slice A' n' c', .bool s2, .slice B k d, .slice B' k' d'] 30)
 have hm:=zBB W #[.bool s, .slice A n c, .slice A' n' c', .bool s2, .slice B k d, .slice B' k' d'] 30
 obtain rfl:i=0:=by have:=(List.getElem?_eq_some_iff.1 hi).1;simp at this;omega
 obtain rfl:CU.agg (fPT f g)=C:=by simpa using hi
 refine ⟨W.heap.size,0, [.bool s, .slice A n c, .slice A' n' c', .bool s2, .slice B k d, .slice B' k' d'],rfl, ?_,(CU.agg (fPT f g)).us _ _ _ ⟨s,A,n,c,A',n',c',s2,B,k,d,B',k',d',rfl,h1,h2⟩ (zT hb)⟩
 rw [show 0+0*6=0 from rfl]
 exact hm
theorem zO2 (f g:UF): ∀C,C∈ [CU.agg (fPT f g)]->CU.ok 6 C:=fun C hC=>by
 obtain rfl:C=CU.agg (fPT f g):=by simpa using hC
 exact zDL f g
theorem zNP {ps:List V2} {k:Nat} (h:k<ps.length):pns (ps.take (k+1))=pns (ps.take k)++ [CU.agg (fPN (at_ ps k))]:=by
 unfold pns at_
 rw [List.take_add_one,List.map_append,List.getD_eq_getElem?_getD,List.getElem?_eq_getElem h]
 rfl
theorem zNy {m:Nat} {W:World} {l:Value} {ps:List V2} (hl:(SF.row 6 (pvs m ps)).p l W) (hm:m<=2000) (hps:ps.length<=1000000):Calls Tryz.prog 196 #[l] W (Ret W (SF.newRow W 30 6 (pns ps))):=by
 refine yD [(UF.eq l).toSF] Tryz.func196 rfl kH ⟨rfl,trivial⟩ fun a s=> ?_
 replace s:=s.renew [(0, .u (UF.eq l))] (fmz ⟨.inr ⟨_,rfl, .head _⟩,fnz⟩)
 refine wpIn_seq ?_
 refine zB 1 ((2, .u (UF.eq (.slice none 0 0))):: []) hmix s kH
  (oc zG<|zE) fun a w1 s=> ?_
 refine zA rfl ?_
 refine wpIn_seq ?_
 refine zB 1 ((3, .u (UF.eq (.slice none 0 0))):: []) hmix s kH
  (oc zG<|zE) fun a w2 s=> ?_
 refine zA rfl ?_
 refine wpIn_seq ?_
 refine wpIn_seq ?_
 refine zB 1 ((4, .u (uI 0)):: []) hmix s kH
  (oc zG<|zE) fun a w3 s=> ?_
 refine zA rfl ?_
 refine wpIn_block ?_
 refine zHI (fun (p:Nat×Value) w=>p.1<=ps.length/\W.heap.size<=w.heap.size/\zCb w W.heap.size 30 6 p.2 (pns (ps.take p.1))) (fun p=> [(0, .u (UF.eq l)),(3, .u (UF.eq (p.2))),(4, .u (uI (p.1:Int)))]) (fun p=>ps.length - p.1) (0, .slice none 0 0) (⟨Nat.zero_le _,s.gr.size,zCb.nil _ _ _ _⟩) (s.keepK _ (fmz ⟨mz3,fmz ⟨mz1,fmz ⟨.head _,fnz⟩⟩⟩)) fun p a w hI s=> ?_
 have s0:=s
 replace s:=s.reb rfl [(0, .o (SF.row 6 (pvs m ps))),(0, .u (UF.eq l)),(3, .u (UF.eq (p.2))),(4, .u (uI (p.1:Int)))] (fmz ⟨.inr ⟨_,rfl,(SF.row 6 (pvs m ps)).st _ _ _ (by rw [show a.tmps.getD (0,KF.o (SF.row 6 (pvs m ps))).1 undef=l from s.val (.head _)];exact hl) s.below⟩,fmz ⟨.inl (.head _),fmz ⟨.inl mz1,fmz ⟨.inl mz2,fnz⟩⟩⟩⟩)
 refine wpIn_seq ?_
 refine wpIn_seq ?_
 refine zB 4 ((5, .s ((uI (p.1:Int)).toSF))::(6, .s (SF.row 6 (pvs m ps)))::(7, .s ((uI (((pvs m ps).length:Nat):Int)).toSF))::(8, .u (uB (decide ((p.1:Int)<(((pvs m ps).length:Nat):Int))))):: []) hmix s kH
  (oc zC<|oc zC<|oc (zDP (z:=6) (Cs:=pvs m ps) kH iiz (fun _=>rfl))<|oc (zR .i64 (p.1:Int) (((pvs m ps).length:Nat):Int) (decide ((p.1:Int)<(((pvs m ps).length:Nat):Int))) iiz iiz rfl rfl)<|zE) fun a w4 s=> ?_
 refine zA rfl ?_
 refine StS.cond s (decide ((p.1:Int)<(((pvs m ps).length:Nat):Int))) iiz (fun e=> ?_) (fun e=> ?_)
 ·have hk:p.1<ps.length:=by have:=of_decide_eq_true e;simp at this;omega
  refine wpIn_skip ?_
  refine wpIn_seq ?_
  refine wpIn_block ?_
  refine zD3 (K:= [(8, .u (uB (decide ((p.1:Int)<(((pvs m ps).length:Nat):Int))))),(0, .o (SF.row 6 (pvs m ps))),(0, .u (UF.eq l)),(4, .u (uI (p.1:Int)))]) [(3, .u (UF.eq (p.2)))] [0,1,2,7,8] 15 ((11, .u (UF.eq (p.2)))::(12, .s (SF.row 6 (pvs m ps)))::(13, .s ((uI (p.1:Int)).toSF))::(14, .s (SF.ptr (CU.agg (fPV m (at_ ps p.1))).cf))::(15, .s (SF.ptr ((CU.agg (fPV m (at_ ps p.1))).cf.at 0)))::(16, .s ((fRV m ((at_ ps p.1).1)).toSF))::(17, .s ((fQN ((at_ ps p.1).1)).toSF))::(18, .s (SF.row 6 (pvs m ps)))::(19, .s ((uI (p.1:Int)).toSF))::(20, .s (SF.ptr (CU.agg (fPV m (at_ ps p.1))).cf))::(21, .s (SF.ptr ((CU.agg (fPV m (at_ ps p.1))).cf.at 3)))::(22, .s ((fRV m ((at_ ps p.1).2)).toSF))::(23, .s ((fQN ((at_ ps p.1).2)).toSF))::(24, .s ((fPN ((at_ ps p.1).1,(at_ ps p.1).2)).toSF))::(25, .s (SF.row 6 [CU.agg (fPN ((at_ ps p.1).1,(at_ ps p.1).2))])):: []) hmix (s.keepK _ (fmz ⟨mz3,fmz ⟨.head _,fmz ⟨mz1,fmz ⟨mz2,fmz ⟨mz4,fnz⟩⟩⟩⟩⟩)) kH
   (oc zC<|oc zC<|oc zC<|oc (zBb (z:=6) (Cs:=pvs m ps) (i:=p.1) (C:=CU.agg (fPV m (at_ ps p.1))) kH (jS hk) iiz iiz)<|oc (zN (C:=(CU.agg (fPV m (at_ ps p.1))).cf) 0 kH)<|oc (zX (C:=(CU.agg (fPV m (at_ ps p.1))).cf) (k:=0) 3 kH (h:=zFi))<|oc (zI zD zGm (fun u0 W hb (h0:RVp m ((at_ ps p.1).1) u0 W)=>zA9 h0 hm))<|oc zC<|oc zC<|oc (zBb (z:=6) (Cs:=pvs m ps) (i:=p.1) (C:=CU.agg (fPV m (at_ ps p.1))) kH (jS hk) iiz iiz)<|oc (zN (C:=(CU.agg (fPV m (at_ ps p.1))).cf) 3 kH)<|oc (zX (C:=(CU.agg (fPV m (at_ ps p.1))).cf) (k:=3) 3 kH (h:=zDK))<|oc (zI zD zGm (fun u0 W hb (h0:RVp m ((at_ ps p.1).2) u0 W)=>zA9 h0 hm))<|oc (qO (fun u v W (hu:QNp ((at_ ps p.1).1) u W) (hv:QNp ((at_ ps p.1).2) v W)=>zRe (zAL _) (zAL _) hu hv))<|oc (zAd (fun u W (hu:(fPN ((at_ ps p.1).1,(at_ ps p.1).2)).p u W)=>zD2 hu))<|zE) fun Q' hQ a w5 s hr=> ?_
  refine zRu ([CU.agg (fPN ((at_ ps p.1).1,(at_ ps p.1).2))]) s0 (s.keepK [(11, .u (UF.eq (p.2))),(8, .u (uB (decide ((p.1:Int)<(((pvs m ps).length:Nat):Int))))),(0, .u (UF.eq l)),(4, .u (uI (p.1:Int)))] (fmz ⟨.head _,fmz ⟨mz1,fmz ⟨mz3,fmz ⟨mz4,fnz⟩⟩⟩⟩)) lr hI.2 rfl kH kH kH (s.fct (.tmp 11)) (hr (_,_) zUM) (zO2 _ _) (by simp;omega) (fun q hq=>by cases hq) fun v' a w hI' s=> ?_
  have s1:=s
  replace s:=s.reb rfl [(26, .u (UF.eq v')),(11, .u (UF.eq (p.2))),(8, .u (uB (decide ((p.1:Int)<(((pvs m ps).length:Nat):Int))))),(0, .u (UF.eq l)),(4, .u (uI (p.1:Int)))] (fmz ⟨.inl (.head _),fmz ⟨.inl mz1,fmz ⟨.inl mz2,fmz ⟨.inl mz3,fmz ⟨.inl mz4,fnz⟩⟩⟩⟩⟩)
  refine yU (UF.eq v') rfl s kH iiz fun a w s=> ?_
  refine zA rfl (hQ _ _ ?_)
  refine y6 2 ((9, .s ((uI (p.1:Int)).toSF))::(10, .u (uI ((p.1+1:Nat):Int))):: []) s kH
   (oc zC<|oc (qF .i64 (p.1:Int) 1 ((p.1+1:Nat):Int) iiz iiz (wrap64 _ _ oO oO))<|zE) fun a w6 s=> ?_
  replace s:=s.drop [4]
  refine yU (uI ((p.1+1:Nat):Int)) rfl s kH iiz fun a w s=> ?_
  refine zA rfl ?_
  have hbw:=s.below
  replace s:=s1.back (s.keepK [(4, .u (uI ((p.1+1:Nat):Int))),(10, .u (uI ((p.1+1:Nat):Int))),(3, .u (UF.eq v')),(26, .u (UF.eq v')),(11, .u (UF.eq (p.2))),(8, .u (uB (decide ((p.1:Int)<(((pvs m ps).length:Nat):Int))))),(0, .u (UF.eq l))] (fmz ⟨.head _,fmz ⟨mz1,fmz ⟨mz2,fmz ⟨mz3,fmz ⟨mz4,fmz ⟨mz5,fmz ⟨mz6,fnz⟩⟩⟩⟩⟩⟩⟩)) rfl
  exact ⟨(p.1+1,v'),(by show ps.length - (p.1+1)<ps.length - p.1;omega),⟨hk,Nat.le_trans hI'.1 hbw.size,by rw [zNP hk];exact hI'.2.below hbw⟩,s.keepK _ (fmz ⟨mz6,fmz ⟨mz2,fmz ⟨.head _,fnz⟩⟩⟩)⟩
 ·have hk:p.1=ps.length:=by have:=of_decide_eq_false e;simp at this;omega
  refine wpIn_exit ?_
  refine wpIn_seq ?_
  refine zB 2 ((27, .s ((UF.eq (p.2)).toSF))::(2, .u (UF.eq (p.2))):: []) hmix s kH
   (oc zC<|oc zG<|zE) fun a w7 s=> ?_
  refine zA rfl ?_
  refine wpIn_ret ?_
  exact StS.resN s s0.below rfl (by rw [s.val (.head _)];have:=hI.2.2.below s.below;rw [hk,List.take_length] at this;exact this)
end Go.Proofs.Wd

namespace Go.Proofs.Wd
set_option maxRecDepth 100000
set_option maxHeartbeats 1000000
open Go.RowKit Lb
def TB (m:Nat) (g:V2->Bool) (xs:Array Value) (W:World) (R:SF):Prop:= ∃u p,xs=#[u]/\(fPV m p).p u W/\R=(fB (g p)).toSF
def zKm {α:Type} (g:α->Bool) (l:List α):Int:=if l.any g then ((l.findIdx g:Nat):Int) else -1
theorem zOh {α:Type} (g:α->Bool) (l:List α):decide (zKm g l≥0)=l.any g:=by
 unfold zKm
 cases h:l.any g with
 |true=>simp
 |false=>simp
theorem zQV {g:V2->Bool} {l:List V2} {k:Nat} (hk:k<l.length) (h0: ∀j,j<k->g (at_ l j)=false) (h1:g (at_ l k)=true):zKm g l=(k:Int):=by
 have ha:l.any g=true:=List.any_eq_true.2 ⟨_,zFc hk,h1⟩
 unfold zKm
 rw [if_pos ha]
 congr 1
 have ge: ∀j,at_ l j=l.getD j (0,0):=fun _=>rfl
 refine (List.findIdx_eq hk).2 ⟨by have:=h1;unfold at_ at this;rwa [List.getD_eq_getElem?_getD,List.getElem?_eq_getElem hk] at this,fun j hj=> ?_⟩
 have:=h0 j hj
 unfold at_ at this
 rwa [List.getD_eq_getElem?_getD,List.getElem?_eq_getElem (Nat.lt_trans hj hk)] at this
theorem zL9 {g:V2->Bool} {l:List V2} (h0: ∀j,j<l.length->g (at_ l j)=false):zKm g l= -1:=by
 unfold zKm
 rw [if_neg]
 intro ha
 obtain ⟨p,hp,e⟩:=List.any_eq_true.1 ha
 obtain ⟨j,hj,rfl⟩:=zSd hp
 rw [h0 j hj] at e
 cases e
theorem zTS {m:Nat} {g:V2->Bool} {W:World} {l f:Value} {ps:List V2} (hl:(SF.row 6 (pvs m ps)).p l W) (hf:(SF.fn Tryz.prog (TB m g)).p f W) (hn:ps.length<=1000000):Calls Tryz.prog 124 #[l,f] W (Ret W (fI (zKm g ps)).toSF):=by
 refine yD [SF.row 6 (pvs m ps),SF.fn Tryz.prog (TB m g)] Tryz.func124 rfl kH ⟨hl,hf,trivial⟩ fun a s=> ?_
 refine wpIn_seq ?_
 refine zB 1 ((4, .u (uI 0)):: []) hmix s kH
  (oc zG<|zE) fun a w1 s=> ?_
 refine zA rfl ?_
 refine wpIn_seq ?_
 refine wpIn_seq ?_
 refine zB 3 ((6, .s (SF.row 6 (pvs m ps)))::(7, .u (uI (((pvs m ps).length:Nat):Int)))::(8, .u (uI 0)):: []) hmix s kH
  (oc zC<|oc (zDP (z:=6) (Cs:=pvs m ps) kH iiz (fun _=>rfl))<|oc zC<|zE) fun a w2 s=> ?_
 refine zA rfl ?_
 refine wpIn_block ?_
 refine zBF (fun k=>k<=ps.length/\ ∀j,j<k->g (at_ ps j)=false) (fun k=> [(0, .o (SF.row 6 (pvs m ps))),(1, .o (SF.fn Tryz.prog (TB m g))),(7, .u (uI (((pvs m ps).length:Nat):Int))),(8, .u (uI (k:Int)))]) (fun k=>ps.length - k) (0:Nat) (⟨Nat.zero_le _,fun j hj=>absurd hj (Nat.not_lt_zero _)⟩) (s.keepK _ (fmz ⟨mz3,fmz ⟨mz4,fmz ⟨.head _,fmz ⟨mz1,fnz⟩⟩⟩⟩)) fun k a w hx s=> ?_
 refine wpIn_seq ?_
 refine zB 1 ((9, .u (uB (decide ((k:Int)<(((pvs m ps).length:Nat):Int))))):: []) hmix s kH
  (oc (zR .i64 (k:Int) (((pvs m ps).length:Nat):Int) (decide ((k:Int)<(((pvs m ps).length:Nat):Int))) iiz iiz rfl rfl)<|zE) fun a w3 s=> ?_
 refine zA rfl ?_
 refine wpIn_seq ?_
 refine StS.cond s (decide ((k:Int)<(((pvs m ps).length:Nat):Int))) iiz (fun e=> ?_) (fun e=> ?_)
 ·have hk:k<ps.length:=by have:=of_decide_eq_true e;simp at this;omega
  refine wpIn_skip ?_
  refine wpIn_seq ?_
  refine wpIn_block ?_
  refine wpIn_seq ?_
  refine zB 2 ((10, .s ((uI (k:Int)).toSF))::(5, .u (uI (k:Int))):: []) hmix s kH
   (oc zC<|oc zG<|zE) fun a w4 s=> ?_
  refine zA rfl ?_
  refine wpIn_seq ?_
  refine zB 6 ((11, .s (SF.fn Tryz.prog (TB m g)))::(12, .s (SF.row 6 (pvs m ps)))::(13, .s ((uI (k:Int)).toSF))::(14, .s (SF.ptr (CU.agg (fPV m (at_ ps k))).cf))::(15, .s ((fPV m (at_ ps k)).toSF))::(16, .u (uB (g (at_ ps k)))):: []) hmix s kH
   (oc zC<|oc zC<|oc zC<|oc (zBb (z:=6) (Cs:=pvs m ps) (i:=k) (C:=CU.agg (fPV m (at_ ps k))) kH (jS hk) iiz iiz)<|oc (zJ (f:=fPV m (at_ ps k)) 6 kH (hz:=zP _ _))<|oc (zR6 (TB m g) zD iiz (fun u W hb (h:(fPV m (at_ ps k)).p u W)=>⟨u,_,rfl,h,rfl⟩))<|zE) fun a w5 s=> ?_
  refine zA rfl ?_
  refine StS.cond s (g (at_ ps k)) iiz (fun e=> ?_) (fun e=> ?_)
  ·refine wpIn_seq ?_
   refine zB 2 ((17, .s ((uI (k:Int)).toSF))::(4, .u (uI (k:Int))):: []) hmix s kH
    (oc zC<|oc zG<|zE) fun a w6 s=> ?_
   refine zA rfl ?_
   refine wpIn_ret ?_
   exact StS.res1 s (t:=4) rfl (fun v W h=>by rw [zQV hk hx.2 e];exact h)
  ·refine wpIn_skip ?_
   refine y6 1 ((18, .u (uI ((k+1:Nat):Int))):: []) s kH
    (oc (qF .i64 (k:Int) 1 ((k+1:Nat):Int) iiz iiz (wrap64 _ _ oO oO))<|zE) fun a w7 s=> ?_
   replace s:=s.drop [8]
   refine zBE (uI ((k+1:Nat):Int)) rfl s kH zC kH fun a w s=> ?_
   refine zA rfl ?_
   exact ⟨k+1,⟨hk,fun j hj=>by rcases Nat.lt_or_eq_of_le (Nat.le_of_lt_succ hj) with h|h;exact hx.2 j h;rw [h];exact e⟩,(by show ps.length - (k+1)<ps.length - k;omega),s.keepK _ (fmz ⟨mz5,fmz ⟨mz6,fmz ⟨mz7,fmz ⟨.head _,fnz⟩⟩⟩⟩)⟩
 ·have hk:k=ps.length:=by have h7:=of_decide_eq_false e;have h8:=hx.1;simp at h7;omega
  refine wpIn_exit ?_
  refine wpIn_seq ?_
  refine zB 1 ((4, .u (uI (-1))):: []) hmix s kH
   (oc zG<|zE) fun a w8 s=> ?_
  refine zA rfl ?_
  refine wpIn_ret ?_
  exact StS.res1 s (t:=4) rfl (fun v W h=>by rw [zL9 (fun j hj=>hx.2 j oO)];exact h)
theorem zUx {m:Nat} {g:V2->Bool} {W:World} {l f:Value} {ps:List V2} (hl:(SF.row 6 (pvs m ps)).p l W) (hf:(SF.fn Tryz.prog (TB m g)).p f W) (hn:ps.length<=1000000):Calls Tryz.prog 81 #[l,f] W (Ret W (fB (ps.any g)).toSF):=by
 refine yD [SF.row 6 (pvs m ps),SF.fn Tryz.prog (TB m g)] Tryz.func81 rfl kH ⟨hl,hf,trivial⟩ fun a s=> ?_
 refine wpIn_seq ?_
 refine zB 1 ((4, .u (uB false)):: []) hmix s kH
  (oc zG<|zE) fun a w1 s=> ?_
 refine zA rfl ?_
 refine wpIn_seq ?_
 replace s:=s.drop [4]
 refine zB 5 ((5, .s (SF.row 6 (pvs m ps)))::(6, .s (SF.fn Tryz.prog (TB m g)))::(7, .s ((uI (zKm g ps)).toSF))::(8, .s ((uB (decide (zKm g ps≥0))).toSF))::(4, .u (uB (decide (zKm g ps≥0)))):: []) hmix s kH
  (oc zC<|oc zC<|oc (zH zD zSW (fun u0 u1 W hb (h0:(SF.row 6 (pvs m ps)).p u0 W) (h1:(SF.fn Tryz.prog (TB m g)).p u1 W)=>zTS h0 h1 hn))<|oc (zR .i64 (zKm g ps) 0 (decide (zKm g ps≥0)) iiz iiz rfl rfl)<|oc zG<|zE) fun a w2 s=> ?_
 refine zA rfl ?_
 refine wpIn_ret ?_
 exact StS.res1 s (t:=4) rfl (fun v W h=>by rw [<-zOh];exact h)
theorem zDd {m:Nat} (hm0:0<m) {p:V2} {v:Value} {W:World} (h:(fPV m p).p v W):QB p.1 m/\QB p.2 m:=by
 obtain ⟨_,_,_,_,_,_,_,_,_,_,_,_,_,_,_,h1,h2⟩:=h
 exact ⟨h1.qb hm0,h2.qb hm0⟩
theorem zBK {N:Nat} {w w1:World} (hb:Below w.heap.size w w1) (hN:N<=w.heap.size):Itr N w w1:=
 ⟨hb.os,hb.tape,hb.output,hb.size,fun k hk=>hb.block k (Nat.lt_of_lt_of_le hk hN),fun k o ho _=>(hb.block k (Array.getElem?_eq_some_iff.1 ho).1).trans ho,zT hb⟩
theorem zKW {N:Nat} {C:Nat->Prop} {w0 w w1:World} (hb:Below w0.heap.size w0 w) (hr:Rnd N C w w1) (hN:w0.heap.size<=N) (hC: ∀k,C k->w0.heap.size<=k):Below w0.heap.size w0 w1:=
 ⟨hr.os.trans hb.os,hr.tape.trans hb.tape,hr.output.trans hb.output,Nat.le_trans hb.size hr.size,fun k hk=>(hr.low k (Nat.lt_of_lt_of_le hk hN) (fun h=>by have:=hC k h;omega)).trans (hb.block k hk)⟩
theorem zBI {z:Nat} {Cs:List CU} {v:Value} {W:World} (h:(SF.row z Cs).p v W):v.cells=#[v]/\yG v=true:=by
 obtain ⟨A,c,rfl,_⟩:=h
 exact ⟨rfl,rfl⟩
theorem zHs {S:Nat->Prop} {w0 w w1:World} (hb:Below w0.heap.size w0 w) (hr:BlS S w w1) (hC: ∀k,S k->w0.heap.size<=k):Below w0.heap.size w0 w1:=
 ⟨hr.os.trans hb.os,hr.tape.trans hb.tape,hr.output.trans hb.output,Nat.le_trans hb.size hr.size,fun k hk=>(hr.block k (Nat.lt_of_lt_of_le hk hb.size) (fun h=>by have:=hC k h;omega)).trans (hb.block k hk)⟩
def CU.isP (v:Value) (P:Prop):CU:=⟨fun cs _=>cs= [v]/\P,fun _ _ _ h _=>h⟩
theorem zGd {u:Value} {P:Prop}: ∀cs W,(CU.isP u P).p cs W-> ∃x,cs[0]?=some x/\(UF.eq u).p x W:=fun cs W h=>by
 obtain ⟨rfl,_⟩:=h
 exact ⟨u,rfl,rfl⟩
section
variable {F:Fence} {m:Nat} {P:Program} {w0:World} {ops:Array Oper} {G:Nat->SF} {d:Tmp} {ty:TypeId} {pos:String} {aft:Array Edge}
end
def Lo (W W':World):Prop:= ∀p:Addr,p.block<W.heap.size->W'.cell? p=W.cell? p
theorem zJb {W w:World} (h:Below W.heap.size W w):Lo W w:=fun p hp=>h.cell hp
theorem Lo.trans {W w w':World} (h:Lo W w) (h': ∀p:Addr,p.block<W.heap.size->w'.cell? p=w.cell? p):Lo W w':=fun p hp=>(h' p hp).trans (h p hp)
theorem zJa {S:Nat->Prop} {W w w':World} (h:Lo W w) (hb:BlS S w w') (hW:W.heap.size<=w.heap.size) (hS: ∀k,S k->W.heap.size<=k):Lo W w':=
 h.trans fun p hp=>World.cell?_of_block (hb.block _ (Nat.lt_of_lt_of_le hp hW) fun h=>by have:=hS _ h;omega)
theorem zON {W W':World} (h:Tab W) (hl:Lo W W'):Tab W':=fun j hj=>(hl _ (World.block_lt_of_cell? W _ (h j hj))).trans (h j hj)
theorem StS.resMP {w0:World} {K:List (Nat×KF)} {B:List Bx} {n:Nat} {ds:List Deferred} {a:Act} {w:World} {P:Program} (h:St w0 K B n ds a w) {fn:Func} (v:Value) {t:Nat} {e:TypeId} {C:CU} (hr:fn.results=#[.cell t e]) (hsz:zDV P e=true) {y:Bx} (hB:zFg B t=some y) (hyC:y.c=C) (hyl: ∀cs W,C.p cs W->cs= [v]):bodyPostM Fence.wide 0 P fn (Ret w0 (UF.eq v).toSF) .ret a w:=by
 obtain ⟨hy,rfl⟩:=zAl hB
 subst hyC
 obtain ⟨cs,h1,h2,h3,h4,h5⟩:=h.bx.mem y hy
 have e1:=hyl cs w h4
 have h0:a.tmps[y.t]?.getD undef= .pointer (some ⟨y.b,0,none⟩):=by rw [<-Array.getD_eq_getD_getElem?];exact h1
 refine h.resM (v:=v) (fun w' ho=> ?_) fun w' ho=>rfl
 have hm:=zAM (zLx ho h3)
 have:=zBH hsz hm (u:=v) (by rw [e1];rfl)
 simp [results,hr,asAddr,h0,this]
abbrev V6:=V2×V2×V2
abbrev tl (t:V6):List V2:= [t.1,t.2.1,t.2.2]
section
variable {F:Fence} {m:Nat} {P:Program} {w0:World} {ops:Array Oper} {G:Nat->SF} {d:Tmp} {ty:TypeId} {pos:String} {aft:Array Edge}
end
theorem zR8 (z:Int): ∀C,C∈ [CU.is [.int .i64 z]]->CU.ok 1 C:=fun C hC cs W h=>by
 obtain rfl:C=_:=by simpa using hC
 obtain rfl:cs=_:=h
 exact ⟨rfl,rfl,fun u hu=>by obtain rfl:=List.mem_singleton.1 hu;rfl⟩
theorem zTE (z:Int):yK Tryz.prog 50 1 [(0, .int .i64 z)]=some (3,#[.int .i64 z]):=by kernel_rfl
theorem zPY {z:Int} {u:Value} {W:World} (h:u= .int .i64 z): ∃e cs,yK Tryz.prog 50 1 [(0,u)]=some (e,cs)/\(SF.row 1 [CU.is [.int .i64 z]]).p (.slice (some ⟨W.heap.size,0,none⟩) 1 1) (W.alloc (.cells cs e)):=by
 subst h
 refine ⟨_,_,zTE z,some ⟨W.heap.size,0,none⟩,1,rfl,Nat.le_refl _,by decide,fun e=>(by cases e),fun i C hi=> ?_⟩
 have hm:=zBB W #[.int .i64 z] 3
 obtain rfl:i=0:=by have:=(List.getElem?_eq_some_iff.1 hi).1;simp at this;omega
 obtain rfl:CU.is [.int .i64 z]=C:=by simpa using hi
 exact ⟨W.heap.size,0, [.int .i64 z],rfl,hm,rfl⟩
abbrev PX:=QX×QX
abbrev PX.p (x:PX):V2:=(x.1.q,x.2.q)
abbrev PX.u (x:PX):UF:=fPT (fQX x.1.n x.1.n' x.1.k x.1.d) (fQX x.2.n x.2.n' x.2.k x.2.d)
abbrev PX.cu (x:PX):CU:=CU.agg x.u
abbrev pxs (L:List PX):List CU:=L.map PX.cu
abbrev pps (L:List PX):List V2:=L.map PX.p
theorem zUJ {x:PX} (cs:List Value) (W:World) (h:(PX.cu x).p cs W): ∃u,cs[1]?=some u/\(fSl x.1.n).p u W:=by
 obtain ⟨s,A,n,c,A',n',c',s2,B,k,d,B',k',d',e,h1,h2⟩:=h
 rw [zDy e]
 have:=zOX _ W (show (QX.cu x.1).p [Value.bool s, .slice A n c, .slice A' n' c'] W from h1)
 exact this
theorem zUI {x:PX} (cs:List Value) (W:World) (h:(PX.cu x).p cs W): ∃u,cs[2]?=some u/\(fSl x.1.n').p u W:=by
 obtain ⟨s,A,n,c,A',n',c',s2,B,k,d,B',k',d',e,h1,h2⟩:=h
 rw [zDy e]
 have:=zOW _ W (show (QX.cu x.1).p [Value.bool s, .slice A n c, .slice A' n' c'] W from h1)
 exact this
theorem zUH {x:PX} (cs:List Value) (W:World) (h:(PX.cu x).p cs W): ∃u,cs[4]?=some u/\(fSl x.2.n).p u W:=by
 obtain ⟨s,A,n,c,A',n',c',s2,B,k,d,B',k',d',e,h1,h2⟩:=h
 rw [zDy e]
 have:=zOX _ W (show (QX.cu x.2).p [Value.bool s2, .slice B k d, .slice B' k' d'] W from h2)
 exact this
theorem zUG {x:PX} (cs:List Value) (W:World) (h:(PX.cu x).p cs W): ∃u,cs[5]?=some u/\(fSl x.2.n').p u W:=by
 obtain ⟨s,A,n,c,A',n',c',s2,B,k,d,B',k',d',e,h1,h2⟩:=h
 rw [zDy e]
 have:=zOW _ W (show (QX.cu x.2).p [Value.bool s2, .slice B k d, .slice B' k' d'] W from h2)
 exact this
section
variable {F:Fence} {m:Nat} {P:Program} {w0:World} {ops:Array Oper} {G:Nat->SF} {d:Tmp} {ty:TypeId} {pos:String} {aft:Array Edge}
end
end Go.Proofs.Wd

namespace Go.Proofs.Wd
set_option maxRecDepth 100000
set_option maxHeartbeats 1000000
open Go.RowKit Lb
def zAP (p q:V2):Int:=if qsg p.1 q.1=0 then qsg p.2 q.2 else qsg p.1 q.1
theorem zTc {p q:V2} (h:(qsg p.1 q.1 !=0)=true):zAP p q=qsg p.1 q.1:=by unfold zAP;rw [if_neg (by simpa using h)]
theorem zTb {p q:V2} (h:(qsg p.1 q.1 !=0)=false):zAP p q=qsg p.2 q.2:=by unfold zAP;rw [if_pos (by simpa using h)]
theorem zK0 (a n:Nat):(a:Int).tmod (n:Int)=((a % n:Nat):Int):=rfl
theorem zAU {m:Nat} {p q:V2} (hp:QB p.1 m/\QB p.2 m) (hq:QB q.1 m/\QB q.2 m):QB (p.1 - q.1) (2*m+1)/\QB (p.2 - q.2) (2*m+1):=⟨(hp.1.sub hq.1).mono oO,(hp.2.sub hq.2).mono oO⟩
theorem zK8 {m:Nat} {W:World} {u v:Value} {p q:V2} (h1:(fPV m p).p u W) (h2:(fPV m q).p v W) (hm:m<=990) (hm0:0<m):Calls Tryz.prog 52 #[u,v] W (Ret W (fI (zAP p q)).toSF):=by
 refine yD [(fPV m p).toSF,(fPV m q).toSF] Tryz.func52 rfl kH ⟨h1,h2,trivial⟩ fun a s=> ?_
 refine wpIn_seq ?_
 refine zB 0 [] hmix s kH
  zE fun a w1 s=> ?_
 refine yJ (CU.agg (fPV m p)) rfl s kH (fun v W h=>yP h) fun b2 a w s=> ?_
 refine yJ (CU.agg (fPV m q)) rfl s kH (fun v W h=>yP h) fun b3 a w s=> ?_
 refine yU (uI 0) rfl s kH iiz fun a w s=> ?_
 refine zA rfl ?_
 refine wpIn_seq ?_
 refine zB 6 ((6, .s (SF.ptr ((CU.agg (fPV m p)).cf.at 0)))::(7, .s ((fRV m ((p).1)).toSF))::(8, .s (SF.ptr ((CU.agg (fPV m q)).cf.at 0)))::(9, .s ((fRV m ((q).1)).toSF))::(10, .s ((uI (qsg (p).1 (q).1)).toSF))::(5, .u (uI (qsg (p).1 (q).1))):: []) hmix s kH
  (oc (zN (C:=(CU.agg (fPV m p)).cf) 0 kH)<|oc (zX (C:=(CU.agg (fPV m p)).cf) (k:=0) 3 kH (h:=zFi))<|oc (zN (C:=(CU.agg (fPV m q)).cf) 0 kH)<|oc (zX (C:=(CU.agg (fPV m q)).cf) (k:=0) 3 kH (h:=zFi))<|oc (zH zD zSw (fun u0 u1 W hb (h0:RVp m ((p).1) u0 W) (h1:RVp m ((q).1) u1 W)=>zLd h0 h1 hm hm0))<|oc zG<|zE) fun a w2 s=> ?_
 refine zA rfl ?_
 refine wpIn_seq ?_
 refine wpIn_seq ?_
 refine zB 2 ((11, .s ((uI (qsg (p).1 (q).1)).toSF))::(12, .u (uB (qsg (p).1 (q).1 !=0))):: []) hmix s kH
  (oc zC<|oc (zR .i64 (qsg (p).1 (q).1) 0 (qsg (p).1 (q).1 !=0) iiz iiz rfl rfl)<|zE) fun a w3 s=> ?_
 refine zA rfl ?_
 refine StS.cond s (qsg (p).1 (q).1 !=0) iiz (fun e=> ?_) (fun e=> ?_)
 ·refine wpIn_seq ?_
  replace s:=s.drop [4]
  refine zB 2 ((13, .s ((uI (qsg (p).1 (q).1)).toSF))::(4, .u (uI (qsg (p).1 (q).1))):: []) hmix s kH
   (oc zC<|oc zG<|zE) fun a w4 s=> ?_
  refine zA rfl ?_
  refine wpIn_ret ?_
  exact StS.res1 s (t:=4) rfl (fun v W h=>by rw [zTc e];exact h)
 ·refine wpIn_skip ?_
  refine wpIn_seq ?_
  replace s:=s.drop [4]
  refine zB 6 ((14, .s (SF.ptr ((CU.agg (fPV m p)).cf.at 3)))::(15, .s ((fRV m ((p).2)).toSF))::(16, .s (SF.ptr ((CU.agg (fPV m q)).cf.at 3)))::(17, .s ((fRV m ((q).2)).toSF))::(18, .s ((uI (qsg (p).2 (q).2)).toSF))::(4, .u (uI (qsg (p).2 (q).2))):: []) hmix s kH
   (oc (zN (C:=(CU.agg (fPV m p)).cf) 3 kH)<|oc (zX (C:=(CU.agg (fPV m p)).cf) (k:=3) 3 kH (h:=zDK))<|oc (zN (C:=(CU.agg (fPV m q)).cf) 3 kH)<|oc (zX (C:=(CU.agg (fPV m q)).cf) (k:=3) 3 kH (h:=zDK))<|oc (zH zD zSw (fun u0 u1 W hb (h0:RVp m ((p).2) u0 W) (h1:RVp m ((q).2) u1 W)=>zLd h0 h1 hm hm0))<|oc zG<|zE) fun a w5 s=> ?_
  refine zA rfl ?_
  refine wpIn_ret ?_
  exact StS.res1 s (t:=4) rfl (fun v W h=>by rw [zTb e];exact h)
section
variable {F:Fence} {m:Nat} {P:Program} {w0:World} {ops:Array Oper} {G:Nat->SF} {d:Tmp} {ty:TypeId} {pos:String} {aft:Array Edge}
theorem zDi {t:TypeId} {i j k:Nat} {x y z:Operand} (h: ∀u v q W,(fct G x).p u W->(fct G y).p v W->(fct G z).p q W-> ∃cells,P.built t [(i,u),(j,v),(k,q)]=some cells/\(G d).p (.agg cells) W):qK F m P w0 ops G ⟨some d, .build t #[(i,x),(j,y),(k,z)],ty,pos,aft,none⟩:=
 zF4 fun b W hb hh=>by
  obtain ⟨cells,h1,h2⟩:=h _ _ _ W (hh x (by simp)) (hh y (by simp)) (hh z (by simp))
  exact ⟨cells,by simpa using h1,h2⟩
end
theorem qbz {z:Int} (h:z.natAbs<100):QB ((z:Int):Rat) 1:=QB.int (Nat.lt_trans h dA) dA
def TGp (u v q:UF) (x:Value) (w:World):Prop:= ∃a b c:List Value,x= .agg (a++b++c).toArray/\(CU.agg u).p a w/\(CU.agg v).p b w/\(CU.agg q).p c w
def fTG (u v q:UF):UF:= .mk' (TGp u v q) fun _ _ _ ⟨a,b,c,e,h1,h2,h3⟩ k=>⟨a,b,c,e,(CU.agg u).us _ _ _ h1 k,(CU.agg v).us _ _ _ h2 k,(CU.agg q).us _ _ _ h3 k⟩
section
variable {f g f' g' f'' g'':UF}
theorem zEh {cs:List Value} {W:World} (h:(CU.agg (fTG (fPT f g) (fPT f' g') (fPT f'' g''))).p cs W): ∃a b c:List Value,cs=a++b++c/\a.length=6/\b.length=6/\c.length=6/\(CU.agg (fPT f g)).p a W/\(CU.agg (fPT f' g')).p b W/\(CU.agg (fPT f'' g'')).p c W:=by
 obtain ⟨a,b,c,e,h1,h2,h3⟩:=h
 have:=congrArg Array.toList (jM e)
 have this:cs=a++b++c:=this
 exact ⟨a,b,c,this,(zDL _ _ a W h1).1,(zDL _ _ b W h2).1,(zDL _ _ c W h3).1,h1,h2,h3⟩
theorem zTy:CU.ok 18 (CU.agg (fTG (fPT f g) (fPT f' g') (fPT f'' g''))):=fun cs W h=>by
 obtain ⟨a,b,c,rfl,l1,l2,l3,h1,h2,h3⟩:=zEh h
 have o1:=zDL _ _ a W h1;have o2:=zDL _ _ b W h2;have o3:=zDL _ _ c W h3
 refine ⟨by simp [l1,l2,l3],zIi o1.2.1 o2.2.1 o3.2.1,fun u hu=> ?_⟩
 rcases List.mem_append.1 hu with hu|hu
 ·rcases List.mem_append.1 hu with hu|hu
  ·exact o1.2.2 u hu
  ·exact o2.2.2 u hu
 ·exact o3.2.2 u hu
theorem zRs {v:Value} {W:World} (h:(fTG (fPT f g) (fPT f' g') (fPT f'' g'')).p v W):(CU.agg (fTG (fPT f g) (fPT f' g') (fPT f'' g''))).p v.cells.toList W/\v.cells.toList.all yG=true:=by
 obtain ⟨a,b,c,rfl,h1⟩:=id h
 exact ⟨h,(zTy _ W h).2.1⟩
theorem zOM (cs:List Value) (W:World) (h:(CU.agg (fTG (fPT f g) (fPT f' g') (fPT f'' g''))).p cs W):0+6<=cs.length/\(fPT f g).p (.agg ((cs.drop 0).take 6).toArray) W:=by
 obtain ⟨a,b,c,rfl,l1,l2,l3,h1,_⟩:=zEh h
 refine ⟨by simp [l1,l2,l3], ?_⟩
 rw [List.drop_zero,List.append_assoc,List.take_append_of_le_length oO,List.take_of_length_le oO]
 exact h1
theorem zRr (cs:List Value) (W:World) (h:(CU.agg (fTG (fPT f g) (fPT f' g') (fPT f'' g''))).p cs W):6+6<=cs.length/\(fPT f' g').p (.agg ((cs.drop 6).take 6).toArray) W:=by
 obtain ⟨a,b,c,rfl,l1,l2,l3,_,h2,_⟩:=zEh h
 refine ⟨by simp [l1,l2,l3], ?_⟩
 rw [List.append_assoc,List.drop_append_of_le_length oO,List.drop_of_length_le oO,List.nil_append,List.take_append_of_le_length oO,List.take_of_length_le oO]
 exact h2
theorem zPT (cs:List Value) (W:World) (h:(CU.agg (fTG (fPT f g) (fPT f' g') (fPT f'' g''))).p cs W):12+6<=cs.length/\(fPT f'' g'').p (.agg ((cs.drop 12).take 6).toArray) W:=by
 obtain ⟨a,b,c,rfl,l1,l2,l3,_,_,h3⟩:=zEh h
 refine ⟨by simp [l1,l2,l3], ?_⟩
 rw [List.drop_append_of_le_length (by simp;omega),List.drop_of_length_le (by simp;omega),List.nil_append,List.take_of_length_le oO]
 exact h3
theorem zKT {W:World} {e:TypeId} {z:Nat} {Cs:List CU} {cs:List Value} (hlen:Cs.length<=9223372036854775807) (h: ∀(i:Nat) (C:CU),Cs[i]?=some C-> ∃p:List Value,(∀j u,p[j]?=some u->cs[i*z+j]?=some u)/\C.p p W):(SF.row z Cs).p (.slice (some ⟨W.heap.size,0,none⟩) Cs.length Cs.length) (W.alloc (.cells cs.toArray e)):=by
 refine ⟨some ⟨W.heap.size,0,none⟩,Cs.length,rfl,Nat.le_refl _,hlen,fun e=>(by cases e),fun i C hi=> ?_⟩
 obtain ⟨p,h1,h2⟩:=h i C hi
 refine ⟨W.heap.size,0,p,rfl,fun j u hj=> ?_,C.us _ _ _ h2 (zT (zC1 W _))⟩
 have:=zBB W cs.toArray e (i*z+j) u (by simpa using h1 j u hj)
 rwa [<-Nat.add_assoc] at this
theorem zUD (s:Bool) (A A':Option Addr) (n n' c c':Nat) (s2:Bool) (B B':Option Addr) (k k' d d':Nat) (t:Bool) (C C':Option Addr) (i i' j j':Nat) (t2:Bool) (D D':Option Addr) (x x' y y':Nat) (r:Bool) (E E':Option Addr) (p p' q q':Nat) (r2:Bool) (F F':Option Addr) (g g' h h':Nat):yK Tryz.prog 22 3 [(0, .agg #[.bool s, .slice A n c, .slice A' n' c', .bool s2, .slice B k d, .slice B' k' d']),(1, .agg #[.bool t, .slice C i j, .slice C' i' j', .bool t2, .slice D x y, .slice D' x' y']),(2, .agg #[.bool r, .slice E p q, .slice E' p' q', .bool r2, .slice F g h, .slice F' g' h'])]=some (30,#[.bool s, .slice A n c, .slice A' n' c', .bool s2, .slice B k d, .slice B' k' d', .bool t, .slice C i j, .slice C' i' j', .bool t2, .slice D x y, .slice D' x' y', .bool r, .slice E p q, .slice E' p' q', .bool r2, .slice F g h, .slice F' g' h']):=by kernel_rfl
theorem zRA {u v q:Value} {W:World} (hu:(fPT f g).p u W) (hv:(fPT f' g').p v W) (hq:(fPT f'' g'').p q W): ∃e cs,yK Tryz.prog 22 3 [(0,u),(1,v),(2,q)]=some (e,cs)/\(SF.row 6 [CU.agg (fPT f g),CU.agg (fPT f' g'),CU.agg (fPT f'' g'')]).p (.slice (some ⟨W.heap.size,0,none⟩) 3 3) (W.alloc (.cells cs e)):=by
 obtain ⟨s,A,n,c,A',n',c',s2,B,k,d,B',k',d',rfl,h1,h2⟩:=hu
 obtain ⟨s3,A3,n3,c3,A4,n4,c4,s4,B3,k3,d3,B4,k4,d4,rfl,h3,h4⟩:=hv
 obtain ⟨s5,A5,n5,c5,A6,n6,c6,s6,B5,k5,d5,B6,k6,d6,rfl,h5,h6⟩:=hq
 refine ⟨_,_,zUD ..,zKT (Cs:= [CU.agg (fPT f g),CU.agg (fPT f' g'),CU.agg (fPT f'' g'')]) (cs:=_) (by simp) fun i C hi=> ?_⟩
 have hlt:=(List.getElem?_eq_some_iff.1 hi).1
 simp at hlt
 rcases (by omega:i=0∨i=1∨i=2) with rfl|rfl|rfl
 ·obtain rfl:CU.agg (fPT f g)=C:=by simpa using hi
  exact ⟨[.bool s, .slice A n c, .slice A' n' c', .bool s2, .slice B k d, .slice B' k' d'],fun j u hj=>by
   have h9:=(List.getElem?_eq_some_iff.1 hj).1
   simp at h9
   rcases (by omega:j=0∨j=1∨j=2∨j=3∨j=4∨j=5) with rfl|rfl|rfl|rfl|rfl|rfl<;>exact hj,s,A,n,c,A',n',c',s2,B,k,d,B',k',d',rfl,h1,h2⟩
 ·obtain rfl:CU.agg (fPT f' g')=C:=by simpa using hi
  exact ⟨[.bool s3, .slice A3 n3 c3, .slice A4 n4 c4, .bool s4, .slice B3 k3 d3, .slice B4 k4 d4],fun j u hj=>by
   have h9:=(List.getElem?_eq_some_iff.1 hj).1
   simp at h9
   rcases (by omega:j=0∨j=1∨j=2∨j=3∨j=4∨j=5) with rfl|rfl|rfl|rfl|rfl|rfl<;>exact hj,s3,A3,n3,c3,A4,n4,c4,s4,B3,k3,d3,B4,k4,d4,rfl,h3,h4⟩
 ·obtain rfl:CU.agg (fPT f'' g'')=C:=by simpa using hi
  exact ⟨[.bool s5, .slice A5 n5 c5, .slice A6 n6 c6, .bool s6, .slice B5 k5 d5, .slice B6 k6 d6],fun j u hj=>by
   have h9:=(List.getElem?_eq_some_iff.1 hj).1
   simp at h9
   rcases (by omega:j=0∨j=1∨j=2∨j=3∨j=4∨j=5) with rfl|rfl|rfl|rfl|rfl|rfl<;>exact hj,s5,A5,n5,c5,A6,n6,c6,s6,B5,k5,d5,B6,k6,d6,rfl,h5,h6⟩
end
def PX.b (x:PX):Nat:=x.1.n+x.1.n'+(x.2.n+x.2.n')
section
variable {F:Fence} {m:Nat} {P:Program} {w0:World} {ops:Array Oper} {G:Nat->SF} {d:Tmp} {ty:TypeId} {pos:String} {aft:Array Edge}
theorem zBz {op:BinOp} {t:TypeId} {x y:Operand} {t':TypeId} (u v r:Bool) (ht:P.underlying t=some .bool) (hx: ∀q W,(fct G x).p q W->q= .bool u) (hy: ∀q W,(fct G y).p q W->q= .bool v) (hr:(match op with| .eql=>u==v| .neq=>u !=v|_=>false)=r) (ho:(match op with| .eql| .neq=>true|_=>false)=true) (hd: ∀W,(G d).p (.bool r) W:=by exact fun _=>rfl):qK F m P w0 ops G ⟨some d, .binOp op t x y t',ty,pos,aft,none⟩:=
 zB6 (.bool u) (.bool v) (.bool r) hx hy (fun W=>by cases op<;>first|(cases ho;done)|simp [eqGuard]) (fun W=>by cases op<;>first|(cases ho;done)|(subst hr;cases u<;>cases v<;>simp [go_sem,ht])) hd
end
end Go.Proofs.Wd

namespace Go.Proofs.Wd
set_option maxRecDepth 100000
set_option maxHeartbeats 1000000
open Go.RowKit Lb
section
variable {F:Fence} {m:Nat} {P:Program} {w0:World} {ops:Array Oper} {G:Nat->SF} {d:Tmp} {ty:TypeId} {pos:String} {aft:Array Edge}
theorem zLC {t:TypeId} {x y:Operand} {t':TypeId} (k:IntKind) (u v r:Int) (hx: ∀q W,(fct G x).p q W->q= .int k u) (hy: ∀q W,(fct G y).p q W->q= .int k v) (hr:k.wrap (u*v)=r) (hd: ∀W,(G d).p (.int k r) W:=by exact fun _=>rfl):qK F m P w0 ops G ⟨some d, .binOp .mul t x y t',ty,pos,aft,none⟩:=
 zB6 (.int k u) (.int k v) (.int k r) hx hy (fun W=>by simp [eqGuard]) (fun W=>by subst hr;simp [binOp,Op.intArith]) hd
end
def z5 (a b p:V2):Int:=(crs a b p).num.sign
def zO1 (a b r:Rat):Bool:=(!(qsg a b==0))||(qsg a r==0)
def zB7 (a b r:Rat):Bool:=decide (qsg a r*qsg r b≥0)&&zO1 a b r
def onB (a b p:V2):Bool:=((z5 a b p==0)&&zB7 a.1 b.1 p.1)&&zB7 a.2 b.2 p.2
theorem zGV (a b:Rat):qsg a b= -1∨qsg a b=0∨qsg a b=1:=by
 unfold qsg
 generalize a.num*(b.den:Int) - b.num*(a.den:Int)=z
 rcases Int.lt_trichotomy z 0 with h|h|h
 ·left;exact Int.sign_eq_neg_one_of_neg h
 ·right;left;rw [h];rfl
 ·right;right;exact Int.sign_eq_one_of_pos h
abbrev QP (m:Nat) (p:V2):Prop:=QB p.1 m/\QB p.2 m
theorem QP.sub {m:Nat} {p q:V2} (hp:QP m p) (hq:QP m q):QP (2*m+1) (p.1 - q.1,p.2 - q.2):=⟨(hp.1.sub hq.1).mono oO,(hp.2.sub hq.2).mono oO⟩
theorem zTx {m:Nat} (hm0:0<m) {a b c:V2} {x:Value} {W:World} (h:(fTG (fPV m a) (fPV m b) (fPV m c)).p x W):QP m a/\QP m b/\QP m c:=by
 obtain ⟨u,v,q,_,h1,h2,h3⟩:=h
 exact ⟨zDd hm0 (v:= .agg u.toArray) h1,zDd hm0 (v:= .agg v.toArray) h2,zDd hm0 (v:= .agg q.toArray) h3⟩
theorem thB (s:Bool) (A A':Option Addr) (n n' c c':Nat) (s2:Bool) (B B':Option Addr) (k k' d d':Nat) (t:Bool) (C C':Option Addr) (i i' j j':Nat) (t2:Bool) (D D':Option Addr) (x x' y y':Nat) (r:Bool) (E E':Option Addr) (p p' q q':Nat) (r2:Bool) (F F':Option Addr) (g g' h h':Nat):Tryz.prog.built 151 [(0, .agg #[.bool s, .slice A n c, .slice A' n' c', .bool s2, .slice B k d, .slice B' k' d']),(1, .agg #[.bool t, .slice C i j, .slice C' i' j', .bool t2, .slice D x y, .slice D' x' y']),(2, .agg #[.bool r, .slice E p q, .slice E' p' q', .bool r2, .slice F g h, .slice F' g' h'])]=some #[.bool s, .slice A n c, .slice A' n' c', .bool s2, .slice B k d, .slice B' k' d', .bool t, .slice C i j, .slice C' i' j', .bool t2, .slice D x y, .slice D' x' y', .bool r, .slice E p q, .slice E' p' q', .bool r2, .slice F g h, .slice F' g' h']:=by kernel_rfl
theorem zUS {f g f' g' f'' g'':UF} {u v q:Value} {W:World} (hu:(fPT f g).p u W) (hv:(fPT f' g').p v W) (hq:(fPT f'' g'').p q W): ∃cells,Tryz.prog.built 151 [(0,u),(1,v),(2,q)]=some cells/\(fTG (fPT f g) (fPT f' g') (fPT f'' g'')).p (.agg cells) W:=by
 obtain ⟨s,A,n,c,A',n',c',s2,B,k,d,B',k',d',rfl,h1,h2⟩:=hu
 obtain ⟨s3,A3,n3,c3,A4,n4,c4,s4,B3,k3,d3,B4,k4,d4,rfl,h3,h4⟩:=hv
 obtain ⟨s5,A5,n5,c5,A6,n6,c6,s6,B5,k5,d5,B6,k6,d6,rfl,h5,h6⟩:=hq
 exact ⟨_,thB ..,_,_,_,rfl,⟨s,A,n,c,A',n',c',s2,B,k,d,B',k',d',rfl,h1,h2⟩,⟨s3,A3,n3,c3,A4,n4,c4,s4,B3,k3,d3,B4,k4,d4,rfl,h3,h4⟩,⟨s5,A5,n5,c5,A6,n6,c6,s6,B5,k5,d5,B6,k6,d6,rfl,h5,h6⟩⟩
theorem zPQ {m:Nat} {W:World} {p q r:V2} {x:Value} (hx:(fTG (fPV m p) (fPV m q) (fPV m r)).p x W) (hm:m<=159) (hm0:0<m) (hT:Tab W):Calls Tryz.prog 128 #[x] W (Ret W (fI (z5 p q r)).toSF):=by
 have hq:=zTx hm0 hx
 refine yD [(fTG (fPV m p) (fPV m q) (fPV m r)).toSF] Tryz.func128 rfl kH ⟨hx,trivial⟩ fun a s=> ?_
 replace s:=s.renew [(0, .u (fTG (fPV m p) (fPV m q) (fPV m r)))] (fmz ⟨.inr ⟨_,rfl, .head _⟩,fnz⟩)
 refine wpIn_seq ?_
 refine zB 0 [] hmix s kH
  zE fun a w1 s=> ?_
 refine yJ (CU.agg (fTG (fPV m p) (fPV m q) (fPV m r))) rfl s kH (fun v W h=>zRs h) fun b1 a w s=> ?_
 refine yU (uI 0) rfl s kH iiz fun a w s=> ?_
 refine zA rfl ?_
 refine wpIn_seq ?_
 replace s:=s.drop [2]
 refine zB 13 ((3, .s (SF.ptr ((CU.agg (fTG (fPV m p) (fPV m q) (fPV m r))).cf.at 6)))::(4, .s ((fPV m q).toSF))::(5, .s (SF.ptr ((CU.agg (fTG (fPV m p) (fPV m q) (fPV m r))).cf.at 0)))::(6, .s ((fPV m p).toSF))::(7, .s ((fPN ((q).1 - (p).1,(q).2 - (p).2)).toSF))::(8, .s (SF.ptr ((CU.agg (fTG (fPV m p) (fPV m q) (fPV m r))).cf.at 12)))::(9, .s ((fPV m r).toSF))::(10, .s (SF.ptr ((CU.agg (fTG (fPV m p) (fPV m q) (fPV m r))).cf.at 0)))::(11, .s ((fPV m p).toSF))::(12, .s ((fPN ((r).1 - (p).1,(r).2 - (p).2)).toSF))::(13, .s ((fQN (((q).1 - (p).1,(q).2 - (p).2).1*((r).1 - (p).1,(r).2 - (p).2).2 - ((q).1 - (p).1,(q).2 - (p).2).2*((r).1 - (p).1,(r).2 - (p).2).1)).toSF))::(14, .s ((uI (z5 p q r)).toSF))::(2, .u (uI (z5 p q r))):: []) hmix s kH
  (oc (zN (C:=(CU.agg (fTG (fPV m p) (fPV m q) (fPV m r))).cf) 6 kH)<|oc (zX (C:=(CU.agg (fTG (fPV m p) (fPV m q) (fPV m r))).cf) (k:=6) 6 kH (h:=zRr))<|oc (zN (C:=(CU.agg (fTG (fPV m p) (fPV m q) (fPV m r))).cf) 0 kH)<|oc (zX (C:=(CU.agg (fTG (fPV m p) (fPV m q) (fPV m r))).cf) (k:=0) 6 kH (h:=zOM))<|oc (zH zD zPt (fun u0 u1 W hb (h0:(fPV m q).p u0 W) (h1:(fPV m p).p u1 W)=>zOF (p:=q) (q:=p) h0 h1 oO hm0 (hT.below (s.up hb))))<|oc (zN (C:=(CU.agg (fTG (fPV m p) (fPV m q) (fPV m r))).cf) 12 kH)<|oc (zX (C:=(CU.agg (fTG (fPV m p) (fPV m q) (fPV m r))).cf) (k:=12) 6 kH (h:=zPT))<|oc (zN (C:=(CU.agg (fTG (fPV m p) (fPV m q) (fPV m r))).cf) 0 kH)<|oc (zX (C:=(CU.agg (fTG (fPV m p) (fPV m q) (fPV m r))).cf) (k:=0) 6 kH (h:=zOM))<|oc (zH zD zPt (fun u0 u1 W hb (h0:(fPV m r).p u0 W) (h1:(fPV m p).p u1 W)=>zOF (p:=r) (q:=p) h0 h1 oO hm0 (hT.below (s.up hb))))<|oc (zH zD zS4 (fun u0 u1 W hb (h0:(fPN ((q).1 - (p).1,(q).2 - (p).2)).p u0 W) (h1:(fPN ((r).1 - (p).1,(r).2 - (p).2)).p u1 W)=>zM4 (m:=(2*m+1)) (p:=((q).1 - (p).1,(q).2 - (p).2)) (q:=((r).1 - (p).1,(r).2 - (p).2)) (zBa (p:=((q).1 - (p).1,(q).2 - (p).2)) (m:=(2*m+1)) ((QP.sub hq.2.1 hq.1).1.mono (by first|omega|decide)) ((QP.sub hq.2.1 hq.1).2.mono (by first|omega|decide)) h0) (zBa (p:=((r).1 - (p).1,(r).2 - (p).2)) (m:=(2*m+1)) ((QP.sub hq.2.2 hq.1).1.mono (by first|omega|decide)) ((QP.sub hq.2.2 hq.1).2.mono (by first|omega|decide)) h1) (QP.sub hq.2.1 hq.1) (QP.sub hq.2.2 hq.1) oO oO (hT.below (s.up hb))))<|oc (zI zD zS5 (fun u0 W hb (h0:QNp (((q).1 - (p).1,(q).2 - (p).2).1*((r).1 - (p).1,(r).2 - (p).2).2 - ((q).1 - (p).1,(q).2 - (p).2).2*((r).1 - (p).1,(r).2 - (p).2).1) u0 W)=>zQf (QNp.rv h0 (QB.mono (((QP.sub hq.2.1 hq.1).1.mul (QP.sub hq.2.2 hq.1).2).sub ((QP.sub hq.2.1 hq.1).2.mul (QP.sub hq.2.2 hq.1).1)) (m':=8*m+5) oO)) oO oO (hT.below (s.up hb))))<|oc zG<|zE) fun a w2 s=> ?_
 refine zA rfl ?_
 refine wpIn_ret ?_
 exact StS.res1 s (t:=2) rfl iiz
theorem zHJ {m:Nat} {W:World} {p q r:V2} {u v x:Value} (h1:(fPV m p).p u W) (h2:(fPV m q).p v W) (h3:(fPV m r).p x W) (hm:m<=159) (hm0:0<m) (hT:Tab W):Calls Tryz.prog 91 #[u,v,x] W (Ret W (fI (z5 p q r)).toSF):=by
 refine yD [(fPV m p).toSF,(fPV m q).toSF,(fPV m r).toSF] Tryz.func91 rfl kH ⟨h1,h2,h3,trivial⟩ fun a s=> ?_
 replace s:=s.renew [(0, .u (fPV m p)),(1, .u (fPV m q)),(2, .u (fPV m r))] (fmz ⟨.inr ⟨_,rfl, .head _⟩,fmz ⟨.inr ⟨_,rfl,mz1⟩,fmz ⟨.inr ⟨_,rfl,mz2⟩,fnz⟩⟩⟩)
 refine wpIn_seq ?_
 refine zB 0 [] hmix s kH
  zE fun a w1 s=> ?_
 refine yJ (CU.agg (fPV m p)) rfl s kH (fun v W h=>yP h) fun b3 a w s=> ?_
 refine yJ (CU.agg (fPV m q)) rfl s kH (fun v W h=>yP h) fun b4 a w s=> ?_
 refine yJ (CU.agg (fPV m r)) rfl s kH (fun v W h=>yP h) fun b5 a w s=> ?_
 refine yU (uI 0) rfl s kH iiz fun a w s=> ?_
 refine zA rfl ?_
 refine wpIn_seq ?_
 replace s:=s.drop [6]
 refine zB 6 ((7, .s ((fPV m p).toSF))::(8, .s ((fPV m q).toSF))::(9, .s ((fPV m r).toSF))::(10, .s ((fTG (fPV m p) (fPV m q) (fPV m r)).toSF))::(11, .s ((uI (z5 p q r)).toSF))::(6, .u (uI (z5 p q r))):: []) hmix s kH
  (oc (zJ (f:=fPV m p) 6 kH (hz:=zP _ _))<|oc (zJ (f:=fPV m q) 6 kH (hz:=zP _ _))<|oc (zJ (f:=fPV m r) 6 kH (hz:=zP _ _))<|oc (zDi (fun u v z W (hu:(fPV m p).p u W) (hv:(fPV m q).p v W) (hz:(fPV m r).p z W)=>zUS hu hv hz))<|oc (zI zD zSS (fun u0 W hb (h0:(fTG (fPV m p) (fPV m q) (fPV m r)).p u0 W)=>zPQ h0 hm hm0 (hT.below (s.up hb))))<|oc zG<|zE) fun a w2 s=> ?_
 refine zA rfl ?_
 refine wpIn_ret ?_
 exact StS.res1 s (t:=6) rfl iiz
theorem zQF {m:Nat} {W:World} {p q r:Rat} {u v x:Value} (h1:RVp m p u W) (h2:RVp m q v W) (h3:RVp m r x W) (hm:m<=2000) (hm0:0<m) (hT:Tab W):Calls Tryz.prog 176 #[u,v,x] W (Ret W (fB (zO1 p q r)).toSF):=by
 refine yD [(fRV m p).toSF,(fRV m q).toSF,(fRV m r).toSF] Tryz.func176 rfl kH ⟨h1,h2,h3,trivial⟩ fun a s=> ?_
 replace s:=s.renew [(0, .u (fRV m p)),(1, .u (fRV m q)),(2, .u (fRV m r))] (fmz ⟨.inr ⟨_,rfl, .head _⟩,fmz ⟨.inr ⟨_,rfl,mz1⟩,fmz ⟨.inr ⟨_,rfl,mz2⟩,fnz⟩⟩⟩)
 refine wpIn_seq ?_
 refine zB 0 [] hmix s kH
  zE fun a w1 s=> ?_
 refine yJ (CU.agg (fRV m p)) rfl s kH (fun v W h=>jX h) fun b3 a w s=> ?_
 refine yJ (CU.agg (fRV m q)) rfl s kH (fun v W h=>jX h) fun b4 a w s=> ?_
 refine yJ (CU.agg (fRV m r)) rfl s kH (fun v W h=>jX h) fun b5 a w s=> ?_
 refine yU (uB false) rfl s kH iiz fun a w s=> ?_
 refine zA rfl ?_
 refine wpIn_seq ?_
 replace s:=s.drop [6]
 refine zB 10 ((7, .s ((fRV m p).toSF))::(8, .s ((fRV m q).toSF))::(9, .s ((uB (qsg p q==0)).toSF))::(10, .s ((uB (!(qsg p q==0))).toSF))::(11, .s ((uB (!(qsg p q==0))).toSF))::(12, .s (SF.imp ((!(qsg p q==0))=false) ((fRV m p).toSF)))::(13, .s (SF.imp ((!(qsg p q==0))=false) ((fRV m r).toSF)))::(14, .s (SF.imp ((!(qsg p q==0))=false) ((uB (qsg p r==0)).toSF)))::(15, .s ((uB ((!(qsg p q==0))||(qsg p r==0))).toSF))::(6, .u (uB ((!(qsg p q==0))||(qsg p r==0)))):: []) hmix s kH
  (oc (zJ (f:=fRV m p) 3 kH (hz:=qD _ _))<|oc (zJ (f:=fRV m q) 3 kH (hz:=qD _ _))<|oc (zH zD zPh (fun u0 u1 W hb (h0:RVp m p u0 W) (h1:RVp m q u1 W)=>zK5 h0 h1 hm hm0 (hT.below (s.up hb))))<|oc (zB5 (qsg p q==0) iiz (fun _=>rfl))<|oc zC<|oc (zF 11 (!(qsg p q==0)) kH iiz (fun e=>zU [] ((fRV m p).toSF) fnz (fun _ _ h _=>h) kH (zJ (f:=fRV m p) 3 kH (hz:=qD _ _))) (fun e W h=>absurd h e))<|oc (zF 11 (!(qsg p q==0)) kH iiz (fun e=>zU [] ((fRV m r).toSF) fnz (fun _ _ h _=>h) kH (zJ (f:=fRV m r) 3 kH (hz:=qD _ _))) (fun e W h=>absurd h e))<|oc (zF 11 (!(qsg p q==0)) kH iiz (fun e=>zU [(12,(fRV m p).toSF),(13,(fRV m r).toSF)] ((uB (qsg p r==0)).toSF) (fmz ⟨fun v W h=>zL (c:=(!(qsg p q==0))=false) (f:=(fRV m p).toSF) e h,fmz ⟨fun v W h=>zL (c:=(!(qsg p q==0))=false) (f:=(fRV m r).toSF) e h,fnz⟩⟩) (fun _ _ h _=>h) kH (zH zD zPh (fun u0 u1 W hb (h0:RVp m p u0 W) (h1:RVp m r u1 W)=>zK5 h0 h1 hm hm0 (hT.below (s.up hb))))) (fun e W h=>absurd h e))<|oc (yC (!(qsg p q==0)) iiz (fun e v W h=>zDN h e) (fun e v W h=>zCC (zL e h) e))<|oc zG<|zE) fun a w2 s=> ?_
 refine zA rfl ?_
 refine wpIn_ret ?_
 exact StS.res1 s (t:=6) rfl iiz
theorem zJy {m:Nat} {W:World} {p q r:Rat} {u v x:Value} (h1:RVp m p u W) (h2:RVp m q v W) (h3:RVp m r x W) (hm:m<=2000) (hm0:0<m) (hT:Tab W):Calls Tryz.prog 155 #[u,v,x] W (Ret W (fB (zB7 p q r)).toSF):=by
 refine yD [(fRV m p).toSF,(fRV m q).toSF,(fRV m r).toSF] Tryz.func155 rfl kH ⟨h1,h2,h3,trivial⟩ fun a s=> ?_
 replace s:=s.renew [(0, .u (fRV m p)),(1, .u (fRV m q)),(2, .u (fRV m r))] (fmz ⟨.inr ⟨_,rfl, .head _⟩,fmz ⟨.inr ⟨_,rfl,mz1⟩,fmz ⟨.inr ⟨_,rfl,mz2⟩,fnz⟩⟩⟩)
 refine wpIn_seq ?_
 refine zB 0 [] hmix s kH
  zE fun a w1 s=> ?_
 refine yJ (CU.agg (fRV m p)) rfl s kH (fun v W h=>jX h) fun b3 a w s=> ?_
 refine yJ (CU.agg (fRV m q)) rfl s kH (fun v W h=>jX h) fun b4 a w s=> ?_
 refine yJ (CU.agg (fRV m r)) rfl s kH (fun v W h=>jX h) fun b5 a w s=> ?_
 refine yU (uB false) rfl s kH iiz fun a w s=> ?_
 refine zA rfl ?_
 refine wpIn_seq ?_
 replace s:=s.drop [6]
 refine zB 15 ((7, .s ((fRV m p).toSF))::(8, .s ((fRV m r).toSF))::(9, .s ((uI (qsg p r)).toSF))::(10, .s ((fRV m r).toSF))::(11, .s ((fRV m q).toSF))::(12, .s ((uI (qsg r q)).toSF))::(13, .s ((uI (qsg p r*qsg r q)).toSF))::(14, .s ((uB (decide (qsg p r*qsg r q≥0))).toSF))::(15, .s ((uB (decide (qsg p r*qsg r q≥0))).toSF))::(16, .s (SF.imp ((decide (qsg p r*qsg r q≥0))=true) ((fRV m p).toSF)))::(17, .s (SF.imp ((decide (qsg p r*qsg r q≥0))=true) ((fRV m q).toSF)))::(18, .s (SF.imp ((decide (qsg p r*qsg r q≥0))=true) ((fRV m r).toSF)))::(19, .s (SF.imp ((decide (qsg p r*qsg r q≥0))=true) ((uB (zO1 p q r)).toSF)))::(20, .s ((uB ((decide (qsg p r*qsg r q≥0))&&(zO1 p q r))).toSF))::(6, .u (uB ((decide (qsg p r*qsg r q≥0))&&(zO1 p q r)))):: []) hmix s kH
  (oc (zJ (f:=fRV m p) 3 kH (hz:=qD _ _))<|oc (zJ (f:=fRV m r) 3 kH (hz:=qD _ _))<|oc (zH zD zEc (fun u0 u1 W hb (h0:RVp m p u0 W) (h1:RVp m r u1 W)=>zD4 h0 h1 hm hm0 (hT.below (s.up hb))))<|oc (zJ (f:=fRV m r) 3 kH (hz:=qD _ _))<|oc (zJ (f:=fRV m q) 3 kH (hz:=qD _ _))<|oc (zH zD zEc (fun u0 u1 W hb (h0:RVp m r u0 W) (h1:RVp m q u1 W)=>zD4 h0 h1 hm hm0 (hT.below (s.up hb))))<|oc (zLC .i64 (qsg p r) (qsg r q) (qsg p r*qsg r q) iiz iiz (by rw [IntKind.wrap_i64];rcases zGV p r with h|h|h<;>rcases zGV r q with h'|h'|h'<;>rw [h,h']<;>rfl))<|oc (zR .i64 (qsg p r*qsg r q) 0 (decide (qsg p r*qsg r q≥0)) iiz iiz rfl rfl)<|oc zC<|oc (zF 15 (decide (qsg p r*qsg r q≥0)) kH iiz (fun e=>zU [] ((fRV m p).toSF) fnz (fun _ _ h _=>h) kH (zJ (f:=fRV m p) 3 kH (hz:=qD _ _))) (fun e W h=>absurd h e))<|oc (zF 15 (decide (qsg p r*qsg r q≥0)) kH iiz (fun e=>zU [] ((fRV m q).toSF) fnz (fun _ _ h _=>h) kH (zJ (f:=fRV m q) 3 kH (hz:=qD _ _))) (fun e W h=>absurd h e))<|oc (zF 15 (decide (qsg p r*qsg r q≥0)) kH iiz (fun e=>zU [] ((fRV m r).toSF) fnz (fun _ _ h _=>h) kH (zJ (f:=fRV m r) 3 kH (hz:=qD _ _))) (fun e W h=>absurd h e))<|oc (zF 15 (decide (qsg p r*qsg r q≥0)) kH iiz (fun e=>zU [(16,(fRV m p).toSF),(17,(fRV m q).toSF),(18,(fRV m r).toSF)] ((uB (zO1 p q r)).toSF) (fmz ⟨fun v W h=>zL (c:=(decide (qsg p r*qsg r q≥0))=true) (f:=(fRV m p).toSF) e h,fmz ⟨fun v W h=>zL (c:=(decide (qsg p r*qsg r q≥0))=true) (f:=(fRV m q).toSF) e h,fmz ⟨fun v W h=>zL (c:=(decide (qsg p r*qsg r q≥0))=true) (f:=(fRV m r).toSF) e h,fnz⟩⟩⟩) (fun _ _ h _=>h) kH (jU zD zSH (fun u0 u1 u2 W hb (h0:RVp m p u0 W) (h1:RVp m q u1 W) (h2:RVp m r u2 W)=>zQF h0 h1 h2 hm hm0 (hT.below (s.up hb))))) (fun e W h=>absurd h e))<|oc (yC (decide (qsg p r*qsg r q≥0)) iiz (fun e v W h=>jT (zL e h) e) (fun e v W h=>qZ h e))<|oc zG<|zE) fun a w2 s=> ?_
 refine zA rfl ?_
 refine wpIn_ret ?_
 exact StS.res1 s (t:=6) rfl iiz
theorem zTB {m:Nat} {W:World} {p q r:V2} {u v x:Value} (h1:(fPV m p).p u W) (h2:(fPV m q).p v W) (h3:(fPV m r).p x W) (hm:m<=159) (hm0:0<m) (hT:Tab W):Calls Tryz.prog 121 #[u,v,x] W (Ret W (fB (onB p q r)).toSF):=by
 refine yD [(fPV m p).toSF,(fPV m q).toSF,(fPV m r).toSF] Tryz.func121 rfl kH ⟨h1,h2,h3,trivial⟩ fun a s=> ?_
 replace s:=s.renew [(0, .u (fPV m p)),(1, .u (fPV m q)),(2, .u (fPV m r))] (fmz ⟨.inr ⟨_,rfl, .head _⟩,fmz ⟨.inr ⟨_,rfl,mz1⟩,fmz ⟨.inr ⟨_,rfl,mz2⟩,fnz⟩⟩⟩)
 refine wpIn_seq ?_
 refine zB 0 [] hmix s kH
  zE fun a w1 s=> ?_
 refine yJ (CU.agg (fPV m p)) rfl s kH (fun v W h=>yP h) fun b3 a w s=> ?_
 refine yJ (CU.agg (fPV m q)) rfl s kH (fun v W h=>yP h) fun b4 a w s=> ?_
 refine yJ (CU.agg (fPV m r)) rfl s kH (fun v W h=>yP h) fun b5 a w s=> ?_
 refine yU (uB false) rfl s kH iiz fun a w s=> ?_
 refine zA rfl ?_
 refine wpIn_seq ?_
 replace s:=s.drop [6]
 refine zB 24 ((7, .s ((fPV m p).toSF))::(8, .s ((fPV m q).toSF))::(9, .s ((fPV m r).toSF))::(10, .s ((uI (z5 p q r)).toSF))::(11, .s ((uB (z5 p q r==0)).toSF))::(12, .s ((uB (z5 p q r==0)).toSF))::(13, .s (SF.imp ((z5 p q r==0)=true) (SF.ptr ((CU.agg (fPV m p)).cf.at 0))))::(14, .s (SF.imp ((z5 p q r==0)=true) ((fRV m ((p).1)).toSF)))::(15, .s (SF.imp ((z5 p q r==0)=true) (SF.ptr ((CU.agg (fPV m q)).cf.at 0))))::(16, .s (SF.imp ((z5 p q r==0)=true) ((fRV m ((q).1)).toSF)))::(17, .s (SF.imp ((z5 p q r==0)=true) (SF.ptr ((CU.agg (fPV m r)).cf.at 0))))::(18, .s (SF.imp ((z5 p q r==0)=true) ((fRV m ((r).1)).toSF)))::(19, .s (SF.imp ((z5 p q r==0)=true) ((uB (zB7 ((p).1) ((q).1) ((r).1))).toSF)))::(20, .s ((uB ((z5 p q r==0)&&(zB7 ((p).1) ((q).1) ((r).1)))).toSF))::(21, .s ((uB ((z5 p q r==0)&&(zB7 ((p).1) ((q).1) ((r).1)))).toSF))::(22, .s (SF.imp (((z5 p q r==0)&&(zB7 ((p).1) ((q).1) ((r).1)))=true) (SF.ptr ((CU.agg (fPV m p)).cf.at 3))))::(23, .s (SF.imp (((z5 p q r==0)&&(zB7 ((p).1) ((q).1) ((r).1)))=true) ((fRV m ((p).2)).toSF)))::(24, .s (SF.imp (((z5 p q r==0)&&(zB7 ((p).1) ((q).1) ((r).1)))=true) (SF.ptr ((CU.agg (fPV m q)).cf.at 3))))::(25, .s (SF.imp (((z5 p q r==0)&&(zB7 ((p).1) ((q).1) ((r).1)))=true) ((fRV m ((q).2)).toSF)))::(26, .s (SF.imp (((z5 p q r==0)&&(zB7 ((p).1) ((q).1) ((r).1)))=true) (SF.ptr ((CU.agg (fPV m r)).cf.at 3))))::(27, .s (SF.imp (((z5 p q r==0)&&(zB7 ((p).1) ((q).1) ((r).1)))=true) ((fRV m ((r).2)).toSF)))::(28, .s (SF.imp (((z5 p q r==0)&&(zB7 ((p).1) ((q).1) ((r).1)))=true) ((uB (zB7 ((p).2) ((q).2) ((r).2))).toSF)))::(29, .s ((uB (((z5 p q r==0)&&(zB7 ((p).1) ((q).1) ((r).1)))&&(zB7 ((p).2) ((q).2) ((r).2)))).toSF))::(6, .u (uB (((z5 p q r==0)&&(zB7 ((p).1) ((q).1) ((r).1)))&&(zB7 ((p).2) ((q).2) ((r).2))))):: []) hmix s kH
  (oc (zJ (f:=fPV m p) 6 kH (hz:=zP _ _))<|oc (zJ (f:=fPV m q) 6 kH (hz:=zP _ _))<|oc (zJ (f:=fPV m r) 6 kH (hz:=zP _ _))<|oc (jU zD zQ3 (fun u0 u1 u2 W hb (h0:(fPV m p).p u0 W) (h1:(fPV m q).p u1 W) (h2:(fPV m r).p u2 W)=>zHJ h0 h1 h2 hm hm0 (hT.below (s.up hb))))<|oc (zR .i64 (z5 p q r) 0 (z5 p q r==0) iiz iiz rfl rfl)<|oc zC<|oc (zF 12 (z5 p q r==0) kH iiz (fun e=>zU [] (SF.ptr ((CU.agg (fPV m p)).cf.at 0)) fnz (fun _ _ h _=>h) kH (zN (C:=(CU.agg (fPV m p)).cf) 0 kH)) (fun e W h=>absurd h e))<|oc (zF 12 (z5 p q r==0) kH iiz (fun e=>zU [(13,SF.ptr ((CU.agg (fPV m p)).cf.at 0))] ((fRV m ((p).1)).toSF) (fmz ⟨fun v W h=>zL (c:=(z5 p q r==0)=true) (f:=SF.ptr ((CU.agg (fPV m p)).cf.at 0)) e h,fnz⟩) (fun _ _ h _=>h) kH (zX (C:=(CU.agg (fPV m p)).cf) (k:=0) 3 kH (h:=zFi))) (fun e W h=>absurd h e))<|oc (zF 12 (z5 p q r==0) kH iiz (fun e=>zU [] (SF.ptr ((CU.agg (fPV m q)).cf.at 0)) fnz (fun _ _ h _=>h) kH (zN (C:=(CU.agg (fPV m q)).cf) 0 kH)) (fun e W h=>absurd h e))<|oc (zF 12 (z5 p q r==0) kH iiz (fun e=>zU [(15,SF.ptr ((CU.agg (fPV m q)).cf.at 0))] ((fRV m ((q).1)).toSF) (fmz ⟨fun v W h=>zL (c:=(z5 p q r==0)=true) (f:=SF.ptr ((CU.agg (fPV m q)).cf.at 0)) e h,fnz⟩) (fun _ _ h _=>h) kH (zX (C:=(CU.agg (fPV m q)).cf) (k:=0) 3 kH (h:=zFi))) (fun e W h=>absurd h e))<|oc (zF 12 (z5 p q r==0) kH iiz (fun e=>zU [] (SF.ptr ((CU.agg (fPV m r)).cf.at 0)) fnz (fun _ _ h _=>h) kH (zN (C:=(CU.agg (fPV m r)).cf) 0 kH)) (fun e W h=>absurd h e))<|oc (zF 12 (z5 p q r==0) kH iiz (fun e=>zU [(17,SF.ptr ((CU.agg (fPV m r)).cf.at 0))] ((fRV m ((r).1)).toSF) (fmz ⟨fun v W h=>zL (c:=(z5 p q r==0)=true) (f:=SF.ptr ((CU.agg (fPV m r)).cf.at 0)) e h,fnz⟩) (fun _ _ h _=>h) kH (zX (C:=(CU.agg (fPV m r)).cf) (k:=0) 3 kH (h:=zFi))) (fun e W h=>absurd h e))<|oc (zF 12 (z5 p q r==0) kH iiz (fun e=>zU [(14,(fRV m ((p).1)).toSF),(16,(fRV m ((q).1)).toSF),(18,(fRV m ((r).1)).toSF)] ((uB (zB7 ((p).1) ((q).1) ((r).1))).toSF) (fmz ⟨fun v W h=>zL (c:=(z5 p q r==0)=true) (f:=(fRV m ((p).1)).toSF) e h,fmz ⟨fun v W h=>zL (c:=(z5 p q r==0)=true) (f:=(fRV m ((q).1)).toSF) e h,fmz ⟨fun v W h=>zL (c:=(z5 p q r==0)=true) (f:=(fRV m ((r).1)).toSF) e h,fnz⟩⟩⟩) (fun _ _ h _=>h) kH (jU zD zPl (fun u0 u1 u2 W hb (h0:RVp m ((p).1) u0 W) (h1:RVp m ((q).1) u1 W) (h2:RVp m ((r).1) u2 W)=>zJy h0 h1 h2 oO hm0 (hT.below (s.up hb))))) (fun e W h=>absurd h e))<|oc (yC (z5 p q r==0) iiz (fun e v W h=>jT (zL e h) e) (fun e v W h=>qZ h e))<|oc zC<|oc (zF 21 ((z5 p q r==0)&&(zB7 ((p).1) ((q).1) ((r).1))) kH iiz (fun e=>zU [] (SF.ptr ((CU.agg (fPV m p)).cf.at 3)) fnz (fun _ _ h _=>h) kH (zN (C:=(CU.agg (fPV m p)).cf) 3 kH)) (fun e W h=>absurd h e))<|oc (zF 21 ((z5 p q r==0)&&(zB7 ((p).1) ((q).1) ((r).1))) kH iiz (fun e=>zU [(22,SF.ptr ((CU.agg (fPV m p)).cf.at 3))] ((fRV m ((p).2)).toSF) (fmz ⟨fun v W h=>zL (c:=((z5 p q r==0)&&(zB7 ((p).1) ((q).1) ((r).1)))=true) (f:=SF.ptr ((CU.agg (fPV m p)).cf.at 3)) e h,fnz⟩) (fun _ _ h _=>h) kH (zX (C:=(CU.agg (fPV m p)).cf) (k:=3) 3 kH (h:=zDK))) (fun e W h=>absurd h e))<|oc (zF 21 ((z5 p q r==0)&&(zB7 ((p).1) ((q).1) ((r).1))) kH iiz (fun e=>zU [] (SF.ptr ((CU.agg (fPV m q)).cf.at 3)) fnz (fun _ _ h _=>h) kH (zN (C:=(CU.agg (fPV m q)).cf) 3 kH)) (fun e W h=>absurd h e))<|oc (zF 21 ((z5 p q r==0)&&(zB7 ((p).1) ((q).1) ((r).1))) kH iiz (fun e=>zU [(24,SF.ptr ((CU.agg (fPV m q)).cf.at 3))] ((fRV m ((q).2)).toSF) (fmz ⟨fun v W h=>zL (c:=((z5 p q r==0)&&(zB7 ((p).1) ((q).1) ((r).1)))=true) (f:=SF.ptr ((CU.agg (fPV m q)).cf.at 3)) e h,fnz⟩) (fun _ _ h _=>h) kH (zX (C:=(CU.agg (fPV m q)).cf) (k:=3) 3 kH (h:=zDK))) (fun e W h=>absurd h e))<|oc (zF 21 ((z5 p q r==0)&&(zB7 ((p).1) ((q).1) ((r).1))) kH iiz (fun e=>zU [] (SF.ptr ((CU.agg (fPV m r)).cf.at 3)) fnz (fun _ _ h _=>h) kH (zN (C:=(CU.agg (fPV m r)).cf) 3 kH)) (fun e W h=>absurd h e))<|oc (zF 21 ((z5 p q r==0)&&(zB7 ((p).1) ((q).1) ((r).1))) kH iiz (fun e=>zU [(26,SF.ptr ((CU.agg (fPV m r)).cf.at 3))] ((fRV m ((r).2)).toSF) (fmz ⟨fun v W h=>zL (c:=((z5 p q r==0)&&(zB7 ((p).1) ((q).1) ((r).1)))=true) (f:=SF.ptr ((CU.agg (fPV m r)).cf.at 3)) e h,fnz⟩) (fun _ _ h _=>h) kH (zX (C:=(CU.agg (fPV m r)).cf) (k:=3) 3 kH (h:=zDK))) (fun e W h=>absurd h e))<|oc (zF 21 ((z5 p q r==0)&&(zB7 ((p).1) ((q).1) ((r).1))) kH iiz (fun e=>zU [(23,(fRV m ((p).2)).toSF),(25,(fRV m ((q).2)).toSF),(27,(fRV m ((r).2)).toSF)] ((uB (zB7 ((p).2) ((q).2) ((r).2))).toSF) (fmz ⟨fun v W h=>zL (c:=((z5 p q r==0)&&(zB7 ((p).1) ((q).1) ((r).1)))=true) (f:=(fRV m ((p).2)).toSF) e h,fmz ⟨fun v W h=>zL (c:=((z5 p q r==0)&&(zB7 ((p).1) ((q).1) ((r).1)))=true) (f:=(fRV m ((q).2)).toSF) e h,fmz ⟨fun v W h=>zL (c:=((z5 p q r==0)&&(zB7 ((p).1) ((q).1) ((r).1)))=true) (f:=(fRV m ((r).2)).toSF) e h,fnz⟩⟩⟩) (fun _ _ h _=>h) kH (jU zD zPl (fun u0 u1 u2 W hb (h0:RVp m ((p).2) u0 W) (h1:RVp m ((q).2) u1 W) (h2:RVp m ((r).2) u2 W)=>zJy h0 h1 h2 oO hm0 (hT.below (s.up hb))))) (fun e W h=>absurd h e))<|oc (yC ((z5 p q r==0)&&(zB7 ((p).1) ((q).1) ((r).1))) iiz (fun e v W h=>jT (zL e h) e) (fun e v W h=>qZ h e))<|oc zG<|zE) fun a w2 s=> ?_
 refine zA rfl ?_
 refine wpIn_ret ?_
 exact StS.res1 s (t:=6) rfl iiz
end Go.Proofs.Wd

namespace Go.Proofs.Wd
set_option maxRecDepth 100000
set_option maxHeartbeats 1000000
open Go.RowKit Lb
theorem zS9 {m M:Nat} {a b p:V2} (ha:QB a.1 m/\QB a.2 m) (hb:QB b.1 m/\QB b.2 m) (hp:QB p.1 M/\QB p.2 M):QB (crs a b p) ((2*m+1+(M+m+1))+(2*m+1+(M+m+1))+1):=
 ((((hb.1.sub ha.1).mul (hp.2.sub ha.2)).sub ((hb.2.sub ha.2).mul (hp.1.sub ha.1))).mono oO)
theorem zAV {m M:Nat} {p q:V2} (hp:QB p.1 M/\QB p.2 M) (hq:QB q.1 m/\QB q.2 m):QB (p.1 - q.1) (M+m+1)/\QB (p.2 - q.2) (M+m+1):=⟨hp.1.sub hq.1,hp.2.sub hq.2⟩
theorem zJV {m M:Nat} {W:World} {u v:Value} {p q:V2} (h1:(fPV M p).p u W) (h2:(fPV M q).p v W) (hp:QB p.1 m/\QB p.2 m) (hq:QB q.1 M/\QB q.2 M) (hmM:m<=M) (hm0:0<m) (hM:m+M<=990):Calls Tryz.prog 60 #[u,v] W (Ret W (fQN (p.1*q.2 - p.2*q.1)).toSF):=by
 refine yD [(fPV M p).toSF,(fPV M q).toSF] Tryz.func60 rfl kH ⟨h1,h2,trivial⟩ fun a s=> ?_
 refine wpIn_seq ?_
 refine zB 0 [] hmix s kH
  zE fun a w1 s=> ?_
 refine yJ (CU.agg (fPV M p)) rfl s kH (fun v W h=>yP h) fun b2 a w s=> ?_
 refine yJ (CU.agg (fPV M q)) rfl s kH (fun v W h=>yP h) fun b3 a w s=> ?_
 refine zZ (CU.len 3) (cs:=zR3) kH rfl s kH (fun W=>rfl) rfl fun b4 a w s=> ?_
 refine zA rfl ?_
 refine wpIn_seq ?_
 refine yN [] 13 ((5, .s (SF.ptr ((CU.agg (fPV M p)).cf.at 0)))::(6, .s ((fRV M ((p).1)).toSF))::(7, .s (SF.ptr ((CU.agg (fPV M q)).cf.at 3)))::(8, .s ((fRV M ((q).2)).toSF))::(9, .s (SF.row 3 (rvs M [(p).1,(q).2])))::(10, .s ((fQN ((p).1*(q).2)).toSF))::(11, .s (SF.ptr ((CU.agg (fPV M p)).cf.at 3)))::(12, .s ((fRV M ((p).2)).toSF))::(13, .s (SF.ptr ((CU.agg (fPV M q)).cf.at 0)))::(14, .s ((fRV M ((q).1)).toSF))::(15, .s (SF.row 3 (rvs M [(p).2,(q).1])))::(16, .s ((fQN ((p).2*(q).1)).toSF))::(17, .u (fQN (((p).1*(q).2) - ((p).2*(q).1)))):: []) hmix s kH
  (oc (zN (C:=(CU.agg (fPV M p)).cf) 0 kH)<|oc (zX (C:=(CU.agg (fPV M p)).cf) (k:=0) 3 kH (h:=zFi))<|oc (zN (C:=(CU.agg (fPV M q)).cf) 3 kH)<|oc (zX (C:=(CU.agg (fPV M q)).cf) (k:=3) 3 kH (h:=zDK))<|oc (yI (fun u v W (hu:RVp M ((p).1) u W) (hv:RVp M ((q).2) v W)=>zBG hu hv))<|oc (zI zD zHn (fun u0 W hb (h0:(SF.row 3 (rvs M [(p).1,(q).2])).p u0 W)=>zBt h0 (hp.1.mono hmM) hq.2 oO))<|oc (zN (C:=(CU.agg (fPV M p)).cf) 3 kH)<|oc (zX (C:=(CU.agg (fPV M p)).cf) (k:=3) 3 kH (h:=zDK))<|oc (zN (C:=(CU.agg (fPV M q)).cf) 0 kH)<|oc (zX (C:=(CU.agg (fPV M q)).cf) (k:=0) 3 kH (h:=zFi))<|oc (yI (fun u v W (hu:RVp M ((p).2) u W) (hv:RVp M ((q).1) v W)=>zBG hu hv))<|oc (zI zD zHn (fun u0 W hb (h0:(SF.row 3 (rvs M [(p).2,(q).1])).p u0 W)=>zBt h0 (hp.2.mono hmM) hq.1 oO))<|oc (zH zD zJw (fun u0 u1 W hb (h0:QNp ((p).1*(q).2) u0 W) (h1:QNp ((p).2*(q).1) u1 W)=>zFR (QNp.rv h0 (hp.1.mul hq.2)) (QNp.rv h1 (hp.2.mul hq.1)) oO oO))<|zE) fun Q' hQ a w2 s=> ?_
 refine zV (CU.agg (fQN (((p).1*(q).2) - ((p).2*(q).1)))) ((fQN (((p).1*(q).2) - ((p).2*(q).1))).toSF) rfl s kH rfl rfl rfl iiz iiz yL fun a w s=> ?_
 refine zA rfl (hQ _ _ ?_)
 refine wpIn_ret ?_
 exact StS.resC s (CU.agg (fQN (p.1*q.2 - p.2*q.1))) rfl kH rfl rfl (qY _) (fun cs W h=>h)
theorem QB.inv {q:Rat} {m:Nat} (h:QB q m):QB q⁻¹ m:=by
 by_cases e:q=0
 ·subst e
  rw [Rat.inv_zero];exact h
 ·have hn:q.num≠0:=fun h0=>e (Rat.num_eq_zero.1 h0)
  refine QB.ratio h.pos (X:=(q.den:Int)) (D:=q.num) ?_ hn (q6 h.2) h.1
  have h1:(q.num:Rat)=q*((q.den:Nat):Rat):=zI3 q
  rw [h1, <-Rat.mul_assoc,Rat.inv_mul_cancel q e,Rat.one_mul]
  rfl
theorem QB.div {p q:Rat} {m n:Nat} (h:QB p m) (h':QB q n):QB (p / q) (m+n):=by
 rw [Rat.div_def]
 exact h.mul h'.inv
end Go.Proofs.Wd

namespace Go.Proofs.Wd
set_option maxRecDepth 100000
set_option maxHeartbeats 1000000
open Go.RowKit Lb
def zId (p q:V2):Rat:=p.1*q.1+p.2*q.2
def onS (a b p:V2):Bool:=if ((crs a b p).num.sign !=0)=true then false else decide ((zId (p.1 - a.1,p.2 - a.2) (p.1 - b.1,p.2 - b.2)).num.sign<=0)
theorem zTN {a b p:V2} (h:((crs a b p).num.sign !=0)=true):onS a b p=false:=if_pos h
theorem zTO {a b p:V2} (h:((crs a b p).num.sign !=0)=false):onS a b p=decide ((zId (p.1 - a.1,p.2 - a.2) (p.1 - b.1,p.2 - b.2)).num.sign<=0):=if_neg (by rw [h];decide)
def zJO (f:Nat->Bool) (N:Nat):Nat:=match (List.range N).find? (fun k=> !(f k)) with|some k=>k|none=>N
theorem zKB {f:Nat->Bool} {N:Nat} (h: ∀j,j<N->f j=true):zJO f N=N:=by
 unfold zJO
 rw [List.find?_eq_none.2 (fun x hx=>by rw [h x (List.mem_range.1 hx)];simp)]
theorem zNd {f:Nat->Bool} {N k:Nat} (hk:k<N) (h: ∀j,j<k->f j=true) (e:f k=false):zJO f N=k:=by
 unfold zJO
 have:(List.range N).find? (fun k=> !(f k))=some k:=by
  rw [List.find?_range_eq_some]
  exact ⟨by rw [e];rfl,List.mem_range.2 hk,fun j hj=>by rw [h j hj];rfl⟩
 rw [this]
def zMX (L:List V2) (p:V2):Nat:=zJO (fun k=>decide (zAP (at_ L k) p<0)) L.length
def zFX (L:List V2) (p:V2):List V2:=if (decide (zMX L p<L.length)&&(zAP (at_ L (zMX L p)) p==0))=true then L else L.take (zMX L p)++ [p]++L.drop (zMX L p)
theorem zRW {L:List V2} {p:V2} {k:Nat} (hk:zMX L p=k) (h:(decide ((k:Int)<(((pns L).length:Nat):Int))&&(zAP (at_ L k) p==0))=true):zFX L p=L:=by
 unfold zFX
 rw [hk]
 refine if_pos ?_
 rw [Bool.and_eq_true] at h ⊢
 exact ⟨decide_eq_true (by have:=of_decide_eq_true h.1;simp at this;omega),h.2⟩
theorem zRX {L:List V2} {p:V2} {k:Nat} (hk:zMX L p=k) (h:(decide ((k:Int)<(((pns L).length:Nat):Int))&&(zAP (at_ L k) p==0))=false):zFX L p=L.take k++ [p]++L.drop k:=by
 unfold zFX
 rw [hk]
 refine if_neg fun h'=> ?_
 rw [Bool.and_eq_true] at h'
 rw [Bool.and_eq_false_iff] at h
 rcases h with h|h
 ·have:=of_decide_eq_false h
  have:=of_decide_eq_true h'.1
  simp at*
  omega
 ·rw [h] at h';exact absurd h'.2 dA
theorem zQB (L:List V2) (p:V2):zMX L p<=L.length:=by
 unfold zMX zJO
 split
 ·rename_i k h
  have:=List.mem_range.1 (List.mem_of_find?_eq_some h)
  omega
 ·exact Nat.le_refl _
theorem zNM (L:List V2) (p:V2):(zFX L p).length<=L.length+1:=by
 unfold zFX
 split
 ·omega
 ·have:=zQB L p
  simp
  omega
theorem zNL {L:List V2} {p x:V2} (h:x∈zFX L p):x=p∨x∈L:=by
 unfold zFX at h
 split at h
 ·exact .inr h
 ·rw [List.mem_append,List.mem_append,List.mem_singleton] at h
  rcases h with (h|h)|h
  ·exact .inr (List.mem_of_mem_take h)
  ·exact .inl h
  ·exact .inr (List.mem_of_mem_drop h)
def yM (a b c d:V2):Nat->List V2
 |0=> []
 |i+1=>if (onS a b (at_ [a,b,c,d] i)&&onS c d (at_ [a,b,c,d] i))=true then zFX (yM a b c d i) (at_ [a,b,c,d] i) else yM a b c d i
theorem zQ1 {a b c d:V2} {i:Nat} (h:(onS a b (at_ [a,b,c,d] i)&&onS c d (at_ [a,b,c,d] i))=true):yM a b c d (i+1)=zFX (yM a b c d i) (at_ [a,b,c,d] i):=if_pos h
theorem zQ2 {a b c d:V2} {i:Nat} (h:(onS a b (at_ [a,b,c,d] i)&&onS c d (at_ [a,b,c,d] i))=false):yM a b c d (i+1)=yM a b c d i:=if_neg (by rw [h];decide)
theorem zE7 (a b c d:V2): ∀i,(yM a b c d i).length<=i
 |0=>Nat.le_refl _
 | i+1=>by
  have ih:=zE7 a b c d i
  show (if _ then _ else _:List V2).length<=_
  split
  ·have:=zNM (yM a b c d i) (at_ [a,b,c,d] i)
   omega
  ·omega
theorem zJr {m:Nat} {a b c d:V2} (h: ∀p,p∈ [a,b,c,d]->QB p.1 m/\QB p.2 m): ∀i,i<=4-> ∀p,p∈yM a b c d i->QB p.1 m/\QB p.2 m
 |0,_,p,hp=>absurd hp List.not_mem_nil
 | i+1,hi,p,hp=>by
  have ih:=zJr h i oO
  have hp':p∈(if (onS a b (at_ [a,b,c,d] i)&&onS c d (at_ [a,b,c,d] i))=true then zFX (yM a b c d i) (at_ [a,b,c,d] i) else yM a b c d i):=hp
  split at hp'
  ·rcases zNL hp' with e|e
   ·rw [e];exact h _ (zFc (by simp;omega))
   ·exact ih p e
  ·exact ih p hp'
def fRW (W0:World) (z:Nat) (Cs:List CU):UF:=⟨⟨fun v _=>(SF.row z Cs).p v W0,fun _ _ _ h _=>h⟩,fun _ _ _ h _=>h⟩
section
variable {F:Fence} {m:Nat} {P:Program} {w0:World} {ops:Array Oper} {G:Nat->SF} {d:Tmp} {ty:TypeId} {pos:String} {aft:Array Edge}
theorem zCR {t e':TypeId} {ie:TypeInfo} {z:Nat} (hu:P.underlying t=some (.slice e')) (hie:P.info? e'=some ie) (hsz:ie.size=z) (A:Option Addr) (n c k:Nat) (hk:k<=n) (w:World):(Instr.sliceAt t (.slice A n c) (some (.int .i64 (k:Int))) none none).run P w= .ok (.slice (if c=k then A else A.map (·.add (k*z))) (n - k) (c - k)) w:=by
 simp [Instr.sliceAt,Instr.slice,Instr.sliceBounds,run_underlying hu,sizeOf,typeInfo,hie,hsz,go_sem,hk]
theorem zKO {t e':TypeId} {ie:TypeInfo} (hu:P.underlying t=some (.slice e')) (hie:P.info? e'=some ie) (A:Option Addr) (n c k:Nat) (hk:k<=c) (w:World):(Instr.sliceAt t (.slice A n c) none (some (.int .i64 (k:Int))) none).run P w= .ok (.slice A k c) w:=by
 simp [Instr.sliceAt,Instr.slice,Instr.sliceBounds,run_underlying hu,sizeOf,typeInfo,hie,go_sem,hk]
theorem zRl {x lo:Operand} {t:TypeId} {z k:Nat} {Cs:List CU} (hz:jI P t=some z) (hk:k<=Cs.length) (hx: ∀v W,Below w0.heap.size w0 W->(fct G x).p v W->(SF.row z Cs).p v W) (hh: ∀v W,(fct G lo).p v W->v= .int .i64 (k:Int)) (hd: ∀v W,(SF.row z (Cs.drop k)).p v W->(G d).p v W:=by exact fun _ _ h=>h):qK F m P w0 ops G ⟨some d, .slice t x (some lo) none none,ty,pos,aft,none⟩:=
 qR (fun _ e=>by cases e) (fun _ e=>by cases e) fun b W hb hp=>by
  obtain ⟨A,c,e,h2,h3,h4,h5⟩:=hx _ _ hb (hp x (by simp [Op.operands]))
  have e2:=hh _ _ (hp lo (by simp [Op.operands]))
  unfold jI at hz
  split at hz<;>try cases hz
  rename_i e' hu
  obtain ⟨ie,hie,hsz⟩:=Option.map_eq_some_iff.1 hz
  refine ⟨.slice (if c=k then A else A.map (·.add (k*z))) (Cs.length - k) (c - k),by simp [execOp,e,e2,zCR hu hie hsz A Cs.length c k hk],hd _ _ ⟨_,c - k,by rw [List.length_drop],by rw [List.length_drop];omega,by omega,fun hA=> ?_,fun i C hi=> ?_⟩⟩
  ·split at hA
   ·omega
   ·cases A with
    |none=>have:=h4 rfl;omega
    |some q=>cases hA
  ·rw [List.getElem?_drop] at hi
   have hlt:=(List.getElem?_eq_some_iff.1 hi).1
   obtain ⟨b',o,cs,rfl,h6,h7⟩:=h5 _ C hi
   rw [if_neg oO]
   refine ⟨b',o+k*z,cs,by simp [Addr.add_lit], ?_,h7⟩
   rwa [show o+(k+i)*z=o+k*z+i*z by rw [Nat.add_mul];omega] at h6
theorem zNY {x hi:Operand} {t:TypeId} {z k:Nat} {Cs:List CU} (hz:jI P t=some z) (hk:k<=Cs.length) (hx: ∀v W,Below w0.heap.size w0 W->(fct G x).p v W->(SF.row z Cs).p v W) (hh: ∀v W,(fct G hi).p v W->v= .int .i64 (k:Int)) (hd: ∀v W,(SF.row z (Cs.take k)).p v W->(G d).p v W:=by exact fun _ _ h=>h):qK F m P w0 ops G ⟨some d, .slice t x none (some hi) none,ty,pos,aft,none⟩:=
 qR (fun _ e=>by cases e) (fun _ e=>by cases e) fun b W hb hp=>by
  obtain ⟨A,c,e,h2,h3,h4,h5⟩:=hx _ _ hb (hp x (by simp [Op.operands]))
  have e2:=hh _ _ (hp hi (by simp [Op.operands]))
  unfold jI at hz
  split at hz<;>try cases hz
  rename_i e' hu
  obtain ⟨ie,hie,hsz⟩:=Option.map_eq_some_iff.1 hz
  have hkc:k<=c:=Nat.le_trans hk h2
  refine ⟨.slice A k c,by simp [execOp,e,e2,zKO hu hie A Cs.length c k hkc],hd _ _ ⟨A,c,by rw [List.length_take,Nat.min_eq_left hk],by rw [List.length_take];omega,h3,h4,fun i C hi=> ?_⟩⟩
  rw [List.getElem?_take] at hi
  split at hi
  ·exact h5 i C hi
  ·cases hi
theorem zHZ {W0:World} {l0:Value} {x lo:Operand} {t:TypeId} {z k:Nat} {Cs:List CU} (hz:jI P t=some z) (hk:k<=Cs.length) (hl:(SF.row z Cs).p l0 W0) (hx: ∀v W,(fct G x).p v W->v=l0) (hh: ∀v W,(fct G lo).p v W->v= .int .i64 (k:Int)) (hd: ∀v W,(SF.row z (Cs.drop k)).p v W0->(G d).p v W):qK F m P w0 ops G ⟨some d, .slice t x (some lo) none none,ty,pos,aft,none⟩:=
 qR (fun _ e=>by cases e) (fun _ e=>by cases e) fun b W hb hp=>by
  have e0:=hx _ _ (hp x (by simp [Op.operands]))
  obtain ⟨A,c,e,h2,h3,h4,h5⟩:=hl
  have e2:=hh _ _ (hp lo (by simp [Op.operands]))
  rw [e] at e0
  unfold jI at hz
  split at hz<;>try cases hz
  rename_i e' hu
  obtain ⟨ie,hie,hsz⟩:=Option.map_eq_some_iff.1 hz
  refine ⟨.slice (if c=k then A else A.map (·.add (k*z))) (Cs.length - k) (c - k),by simp [execOp,e0,e2,zCR hu hie hsz A Cs.length c k hk],hd _ _ ⟨_,c - k,by rw [List.length_drop],by rw [List.length_drop];omega,by omega,fun hA=> ?_,fun i C hi=> ?_⟩⟩
  ·split at hA
   ·omega
   ·cases A with
    |none=>have:=h4 rfl;omega
    |some q=>cases hA
  ·rw [List.getElem?_drop] at hi
   have hlt:=(List.getElem?_eq_some_iff.1 hi).1
   obtain ⟨b',o,cs,rfl,h6,h7⟩:=h5 _ C hi
   rw [if_neg oO]
   refine ⟨b',o+k*z,cs,by simp [Addr.add_lit], ?_,h7⟩
   rwa [show o+(k+i)*z=o+k*z+i*z by rw [Nat.add_mul];omega] at h6
end
theorem zIb {P:Program} {w0:World} {ops:Array Oper} {G:Nat->SF} {d:Tmp} {ty:TypeId} {pos:String} {aft:Array Edge} {W0:World} {l0:Value} {x lo:Operand} {t:TypeId} {z k:Nat} {Cs:List CU} (hz:jI P t=some z) (hk:k<=Cs.length) (hl:(SF.row z Cs).p l0 W0) (hx: ∀v W,(fct G x).p v W->v=l0) (hh: ∀v W,(fct G lo).p v W->v= .int .i64 (k:Int)):zC3 P w0 ops G ⟨some d, .slice t x (some lo) none none,ty,pos,aft,none⟩:=
 zE6 (fun _ e=>by cases e) fun b W _ hp=>by
  have e0:=hx _ _ (hp x (by simp [Op.operands]))
  obtain ⟨A,c,e,h2,h3,h4,h5⟩:=hl
  have e2:=hh _ _ (hp lo (by simp [Op.operands]))
  rw [e] at e0
  unfold jI at hz
  split at hz<;>try cases hz
  rename_i e' hu
  obtain ⟨ie,hie,hsz⟩:=Option.map_eq_some_iff.1 hz
  exact ⟨.slice (if c=k then A else A.map (·.add (k*z))) (Cs.length - k) (c - k),fun W' _=>by simp [execOp,e0,e2,zCR hu hie hsz A Cs.length c k hk]⟩
section
variable {S:Nat->Prop} {F:Fence} {m:Nat} {P:Program} {Q:Exit->Act->World->Prop} {w0:World} {K:List (Nat×KF)} {B:List Bx} {n:Nat} {ds:List Deferred} {a:Act} {w:World}
theorem zOO {ops:Array Oper} {k d:Nat} {x:Operand} {ty:TypeId} {pos:String} {aft:Array Edge} (f:UF) (ho:ops[k]?=some ⟨some d, .assign x,ty,pos,aft,none⟩) (h:StS S w0 K B n ds a w) (hf:zAt K B n d=true) (hx: ∀v W,(Wd.fct (jH K B) x).p v W->f.p v W)
  (fin: ∀a,StS S w0 ((d, .u f)::K) B n ds a w->zBj F m P ops Q (k+1) a w):zBj F m P ops Q k a w:=
 zBw ho rfl (zBW (fun _ e=>by cases e) (fun _ e=>by cases e) (W':=w) (v:=a.eval x) rfl (fin _ (h.set hf (Below.refl _ _) (hx _ _ (h.fct x)))))
end
theorem zNO (ps:List V2) (k:Nat):(pns ps).take k=pns (ps.take k):=by unfold pns;rw [List.map_take]
theorem zNQ (ps:List V2) (k:Nat):(pns ps).drop k=pns (ps.drop k):=by unfold pns;rw [List.map_drop]
theorem zLr (a b:List V2) (p:V2):pns a++pns [p]++pns b=pns (a++ [p]++b):=by simp [pns]
theorem zUC (a1 a2 a3 a4 a5 a6 b1 b2 b3 b4 b5 b6 c1 c2 c3 c4 c5 c6 d1 d2 d3 d4 d5 d6:Value):yK Tryz.prog 22 4 [(0, .agg #[a1,a2,a3,a4,a5,a6]),(1, .agg #[b1,b2,b3,b4,b5,b6]),(2, .agg #[c1,c2,c3,c4,c5,c6]),(3, .agg #[d1,d2,d3,d4,d5,d6])]=some (30,#[a1,a2,a3,a4,a5,a6,b1,b2,b3,b4,b5,b6,c1,c2,c3,c4,c5,c6,d1,d2,d3,d4,d5,d6]):=by kernel_rfl
theorem zSf {cs:List Value} (h:cs.length=6): ∃u0 u1 u2 u3 u4 u5,cs= [u0,u1,u2,u3,u4,u5]:=by
 match cs,h with
 | [u0,u1,u2,u3,u4,u5],_=>exact ⟨u0,u1,u2,u3,u4,u5,rfl⟩
theorem zIU {f g:UF} {v:Value} {W:World} (h:(fPT f g).p v W): ∃u0 u1 u2 u3 u4 u5,v= .agg #[u0,u1,u2,u3,u4,u5]/\(CU.agg (fPT f g)).p [u0,u1,u2,u3,u4,u5] W:=by
 obtain ⟨vs,rfl,hl,_,_,hc⟩:=yR v W h
 obtain ⟨u0,u1,u2,u3,u4,u5,rfl⟩:=zSf hl
 exact ⟨u0,u1,u2,u3,u4,u5,rfl,hc⟩
theorem zRz {m:Nat} {p q r s:V2} {u v x y:Value} {W:World} (hu:(fPV m p).p u W) (hv:(fPV m q).p v W) (hx:(fPV m r).p x W) (hy:(fPV m s).p y W): ∃e cs,yK Tryz.prog 22 4 [(0,u),(1,v),(2,x),(3,y)]=some (e,cs)/\(SF.row 6 (pvs m [p,q,r,s])).p (.slice (some ⟨W.heap.size,0,none⟩) 4 4) (W.alloc (.cells cs e)):=by
 obtain ⟨a1,a2,a3,a4,a5,a6,rfl,ha⟩:=zIU hu
 obtain ⟨b1,b2,b3,b4,b5,b6,rfl,hb⟩:=zIU hv
 obtain ⟨c1,c2,c3,c4,c5,c6,rfl,hc⟩:=zIU hx
 obtain ⟨d1,d2,d3,d4,d5,d6,rfl,hd⟩:=zIU hy
 refine ⟨_,_,zUC ..,zKT (Cs:=pvs m [p,q,r,s]) (cs:= [a1,a2,a3,a4,a5,a6,b1,b2,b3,b4,b5,b6,c1,c2,c3,c4,c5,c6,d1,d2,d3,d4,d5,d6]) (by simp) fun i C hi=> ?_⟩
 have hlt:=(List.getElem?_eq_some_iff.1 hi).1
 simp at hlt
 rcases (by omega:i=0∨i=1∨i=2∨i=3) with rfl|rfl|rfl|rfl
 ·obtain rfl:CU.agg (fPV m p)=C:=by simpa using hi
  exact ⟨_,fun j u hj=>by have:=(List.getElem?_eq_some_iff.1 hj).1;simp at this;rcases (by omega:j=0∨j=1∨j=2∨j=3∨j=4∨j=5) with rfl|rfl|rfl|rfl|rfl|rfl<;>simpa using hj,ha⟩
 ·obtain rfl:CU.agg (fPV m q)=C:=by simpa using hi
  exact ⟨_,fun j u hj=>by have:=(List.getElem?_eq_some_iff.1 hj).1;simp at this;rcases (by omega:j=0∨j=1∨j=2∨j=3∨j=4∨j=5) with rfl|rfl|rfl|rfl|rfl|rfl<;>simpa using hj,hb⟩
 ·obtain rfl:CU.agg (fPV m r)=C:=by simpa using hi
  exact ⟨_,fun j u hj=>by have:=(List.getElem?_eq_some_iff.1 hj).1;simp at this;rcases (by omega:j=0∨j=1∨j=2∨j=3∨j=4∨j=5) with rfl|rfl|rfl|rfl|rfl|rfl<;>simpa using hj,hc⟩
 ·obtain rfl:CU.agg (fPV m s)=C:=by simpa using hi
  exact ⟨_,fun j u hj=>by have:=(List.getElem?_eq_some_iff.1 hj).1;simp at this;rcases (by omega:j=0∨j=1∨j=2∨j=3∨j=4∨j=5) with rfl|rfl|rfl|rfl|rfl|rfl<;>simpa using hj,hd⟩
theorem zLz {F:Fence} {m:Nat} {P:Program} {w0:World} {ops:Array Oper} {G:Nat->SF} {d:Tmp} {ty:TypeId} {pos:String} {aft:Array Edge} {t:TypeId} {x y z q:Operand} (h: ∀u v r s W,(fct G x).p u W->(fct G y).p v W->(fct G z).p r W->(fct G q).p s W-> ∃e cs,yK P t 4 [(0,u),(1,v),(2,r),(3,s)]=some (e,cs)/\(G d).p (.slice (some ⟨W.heap.size,0,none⟩) 4 4) (W.alloc (.cells cs e))):qK F m P w0 ops G ⟨some d, .buildSlice t 4 #[(0,x),(1,y),(2,z),(3,q)],ty,pos,aft,none⟩:=
 zEn fun b W hb hh=>by
  obtain ⟨e,cs,h1,h2⟩:=h _ _ _ _ W (hh x (by simp)) (hh y (by simp)) (hh z (by simp)) (hh q (by simp))
  exact ⟨e,cs,by simpa using h1,h2⟩
theorem zQg {M:Nat} {W:World} {u v:Value} {p q:V2} (h1:(fPV M p).p u W) (h2:(fPV M q).p v W) (hp:QB p.1 M/\QB p.2 M) (hq:QB q.1 M/\QB q.2 M) (hM:M<=495):Calls Tryz.prog 178 #[u,v] W (Ret W (fQN (zId p q)).toSF):=by
 refine yD [(fPV M p).toSF,(fPV M q).toSF] Tryz.func178 rfl kH ⟨h1,h2,trivial⟩ fun a s=> ?_
 refine wpIn_seq ?_
 refine zB 0 [] hmix s kH
  zE fun a w1 s=> ?_
 refine yJ (CU.agg (fPV M p)) rfl s kH (fun v W h=>yP h) fun b2 a w s=> ?_
 refine yJ (CU.agg (fPV M q)) rfl s kH (fun v W h=>yP h) fun b3 a w s=> ?_
 refine zZ (CU.len 3) (cs:=zR3) kH rfl s kH (fun W=>rfl) rfl fun b4 a w s=> ?_
 refine zA rfl ?_
 refine wpIn_seq ?_
 refine yN [] 14 ((5, .s (SF.ptr ((CU.agg (fPV M p)).cf.at 0)))::(6, .s ((fRV M ((p).1)).toSF))::(7, .s (SF.ptr ((CU.agg (fPV M q)).cf.at 0)))::(8, .s ((fRV M ((q).1)).toSF))::(9, .s (SF.row 3 (rvs M [(p).1,(q).1])))::(10, .s ((fQN ((p).1*(q).1)).toSF))::(11, .s (SF.ptr ((CU.agg (fPV M p)).cf.at 3)))::(12, .s ((fRV M ((p).2)).toSF))::(13, .s (SF.ptr ((CU.agg (fPV M q)).cf.at 3)))::(14, .s ((fRV M ((q).2)).toSF))::(15, .s (SF.row 3 (rvs M [(p).2,(q).2])))::(16, .s ((fQN ((p).2*(q).2)).toSF))::(17, .s (SF.row 3 (rvs (M+M) [((p).1*(q).1),((p).2*(q).2)])))::(18, .u (fQN (((p).1*(q).1)+((p).2*(q).2)))):: []) hmix s kH
  (oc (zN (C:=(CU.agg (fPV M p)).cf) 0 kH)<|oc (zX (C:=(CU.agg (fPV M p)).cf) (k:=0) 3 kH (h:=zFi))<|oc (zN (C:=(CU.agg (fPV M q)).cf) 0 kH)<|oc (zX (C:=(CU.agg (fPV M q)).cf) (k:=0) 3 kH (h:=zFi))<|oc (yI (fun u v W (hu:RVp M ((p).1) u W) (hv:RVp M ((q).1) v W)=>zBG hu hv))<|oc (zI zD zHn (fun u0 W hb (h0:(SF.row 3 (rvs M [(p).1,(q).1])).p u0 W)=>zBt h0 hp.1 hq.1 oO))<|oc (zN (C:=(CU.agg (fPV M p)).cf) 3 kH)<|oc (zX (C:=(CU.agg (fPV M p)).cf) (k:=3) 3 kH (h:=zDK))<|oc (zN (C:=(CU.agg (fPV M q)).cf) 3 kH)<|oc (zX (C:=(CU.agg (fPV M q)).cf) (k:=3) 3 kH (h:=zDK))<|oc (yI (fun u v W (hu:RVp M ((p).2) u W) (hv:RVp M ((q).2) v W)=>zBG hu hv))<|oc (zI zD zHn (fun u0 W hb (h0:(SF.row 3 (rvs M [(p).2,(q).2])).p u0 W)=>zBt h0 hp.2 hq.2 oO))<|oc (yI (fun u v W (hu:QNp ((p).1*(q).1) u W) (hv:QNp ((p).2*(q).2) v W)=>zBG (QNp.rv hu (hp.1.mul hq.1)) (QNp.rv hv (hp.2.mul hq.2))))<|oc (zI zD zMq (fun u0 W hb (h0:(SF.row 3 (rvs (M+M) [((p).1*(q).1),((p).2*(q).2)])).p u0 W)=>zDc h0 (hp.1.mul hq.1) (hp.2.mul hq.2) oO))<|zE) fun Q' hQ a w2 s=> ?_
 refine zV (CU.agg (fQN (((p).1*(q).1)+((p).2*(q).2)))) ((fQN (((p).1*(q).1)+((p).2*(q).2))).toSF) rfl s kH rfl rfl rfl iiz iiz yL fun a w s=> ?_
 refine zA rfl (hQ _ _ ?_)
 refine wpIn_ret ?_
 exact StS.resC s (CU.agg (fQN (p.1*q.1+p.2*q.2))) rfl kH rfl rfl (qY _) (fun cs W h=>h)
theorem zIN {m:Nat} {W:World} {u v:Value} {p q:V2} (h1:(fPV m p).p u W) (h2:(fPV m q).p v W) (hm:m<=990) (hm0:0<m):Calls Tryz.prog 53 #[u,v] W (Ret W (fB (zAP p q==0)).toSF):=by
 refine yD [(fPV m p).toSF,(fPV m q).toSF] Tryz.func53 rfl kH ⟨h1,h2,trivial⟩ fun a s=> ?_
 refine wpIn_seq ?_
 refine zB 0 [] hmix s kH
  zE fun a w1 s=> ?_
 refine yJ (CU.agg (fPV m p)) rfl s kH (fun v W h=>yP h) fun b2 a w s=> ?_
 refine yJ (CU.agg (fPV m q)) rfl s kH (fun v W h=>yP h) fun b3 a w s=> ?_
 refine yU (uB false) rfl s kH iiz fun a w s=> ?_
 refine zA rfl ?_
 refine wpIn_seq ?_
 replace s:=s.drop [4]
 refine zB 5 ((5, .s ((fPV m p).toSF))::(6, .s ((fPV m q).toSF))::(7, .s ((uI (zAP p q)).toSF))::(8, .s ((uB (zAP p q==0)).toSF))::(4, .u (uB (zAP p q==0))):: []) hmix s kH
  (oc (zJ (f:=fPV m p) 6 kH (hz:=zP _ _))<|oc (zJ (f:=fPV m q) 6 kH (hz:=zP _ _))<|oc (zH zD zSv (fun u0 u1 W hb (h0:(fPV m p).p u0 W) (h1:(fPV m q).p u1 W)=>zK8 h0 h1 hm hm0))<|oc (zR .i64 (zAP p q) 0 (zAP p q==0) iiz iiz rfl rfl)<|oc zG<|zE) fun a w2 s=> ?_
 refine zA rfl ?_
 refine wpIn_ret ?_
 exact StS.res1 s (t:=4) rfl iiz
theorem zFU {m M:Nat} {W:World} {u v x:Value} {ca cb p:V2} (h1:(fPV m ca).p u W) (h2:(fPV m cb).p v W) (h3:(fPV M p).p x W) (hmM:m<=M) (hm0:0<m) (hM:M+m+1<=495) (hM2:3*m+M+2<=990):Calls Tryz.prog 158 #[u,v,x] W (Ret W (fB (onS ca cb p)).toSF):=by
 have hqa:=zDd hm0 h1
 have hqb:=zDd hm0 h2
 have hqp:=zDd oO h3
 refine yD [(fPV m ca).toSF,(fPV m cb).toSF,(fPV M p).toSF] Tryz.func158 rfl kH ⟨h1,h2,h3,trivial⟩ fun a s=> ?_
 refine wpIn_seq ?_
 refine zB 0 [] hmix s kH
  zE fun a w1 s=> ?_
 refine yJ (CU.agg (fPV m ca)) rfl s kH (fun v W h=>yP h) fun b3 a w s=> ?_
 refine yJ (CU.agg (fPV m cb)) rfl s kH (fun v W h=>yP h) fun b4 a w s=> ?_
 refine yJ (CU.agg (fPV M p)) rfl s kH (fun v W h=>yP h) fun b5 a w s=> ?_
 refine yU (uB false) rfl s kH iiz fun a w s=> ?_
 refine zA rfl ?_
 refine wpIn_seq ?_
 refine wpIn_seq ?_
 refine zB 9 ((7, .s ((fPV m cb).toSF))::(8, .s ((fPV m ca).toSF))::(9, .s ((fPN ((cb).1 - (ca).1,(cb).2 - (ca).2)).toSF))::(10, .s ((fPV M p).toSF))::(11, .s ((fPV m ca).toSF))::(12, .s ((fPN ((p).1 - (ca).1,(p).2 - (ca).2)).toSF))::(13, .s ((fQN (crs ca cb p)).toSF))::(14, .s ((uI ((crs ca cb p).num.sign)).toSF))::(15, .u (uB ((crs ca cb p).num.sign !=0))):: []) hmix s kH
  (oc (zJ (f:=fPV m cb) 6 kH (hz:=zP _ _))<|oc (zJ (f:=fPV m ca) 6 kH (hz:=zP _ _))<|oc (zH zD zFm (fun u0 u1 W hb (h0:(fPV m cb).p u0 W) (h1:(fPV m ca).p u1 W)=>zBy (m:=m) (p:=cb) (q:=ca) h0 h1 oO hm0))<|oc (zJ (f:=fPV M p) 6 kH (hz:=zP _ _))<|oc (zJ (f:=fPV m ca) 6 kH (hz:=zP _ _))<|oc (zH zD zFm (fun u0 u1 W hb (h0:(fPV M p).p u0 W) (h1:(fPV m ca).p u1 W)=>zBy (m:=M) (p:=p) (q:=ca) h0 (zFV oO h1) oO oO))<|oc (zH zD zOp (fun u0 u1 W hb (h0:(fPN ((cb).1 - (ca).1,(cb).2 - (ca).2)).p u0 W) (h1:(fPN ((p).1 - (ca).1,(p).2 - (ca).2)).p u1 W)=>zJV (m:=2*m+1) (M:=M+m+1) (p:=((cb).1 - (ca).1,(cb).2 - (ca).2)) (q:=((p).1 - (ca).1,(p).2 - (ca).2)) (zBa (p:=((cb).1 - (ca).1,(cb).2 - (ca).2)) (m:=(M+m+1)) ((zAU hqb hqa).1.mono (by first|omega|decide)) ((zAU hqb hqa).2.mono (by first|omega|decide)) h0) (zBa (p:=((p).1 - (ca).1,(p).2 - (ca).2)) (m:=(M+m+1)) ((zAV hqp hqa).1.mono (by first|omega|decide)) ((zAV hqp hqa).2.mono (by first|omega|decide)) h1) (zAU hqb hqa) (zAV hqp hqa) oO oO oO))<|oc (zI zD zQ5 (fun u0 W hb (h0:QNp (crs ca cb p) u0 W)=>zFS (m:=((2*m+1+(M+m+1))+(2*m+1+(M+m+1))+1)) (QNp.rv h0 (zS9 hqa hqb hqp)) oO))<|oc (zR .i64 ((crs ca cb p).num.sign) 0 ((crs ca cb p).num.sign !=0) iiz iiz rfl rfl)<|zE) fun a w2 s=> ?_
 refine zA rfl ?_
 refine StS.cond s ((crs ca cb p).num.sign !=0) iiz (fun e=> ?_) (fun e=> ?_)
 ·refine wpIn_seq ?_
  replace s:=s.drop [6]
  refine zB 1 ((6, .u (uB false)):: []) hmix s kH
   (oc zG<|zE) fun a w3 s=> ?_
  refine zA rfl ?_
  refine wpIn_ret ?_
  exact StS.res1 s (t:=6) rfl (fun v W h=>by rw [zTN e];exact h)
 ·refine wpIn_skip ?_
  refine wpIn_seq ?_
  replace s:=s.drop [6]
  refine zB 10 ((16, .s ((fPV M p).toSF))::(17, .s ((fPV m ca).toSF))::(18, .s ((fPN ((p).1 - (ca).1,(p).2 - (ca).2)).toSF))::(19, .s ((fPV M p).toSF))::(20, .s ((fPV m cb).toSF))::(21, .s ((fPN ((p).1 - (cb).1,(p).2 - (cb).2)).toSF))::(22, .s ((fQN (zId ((p).1 - (ca).1,(p).2 - (ca).2) ((p).1 - (cb).1,(p).2 - (cb).2))).toSF))::(23, .s ((uI ((zId ((p).1 - (ca).1,(p).2 - (ca).2) ((p).1 - (cb).1,(p).2 - (cb).2)).num.sign)).toSF))::(24, .s ((uB (decide ((zId ((p).1 - (ca).1,(p).2 - (ca).2) ((p).1 - (cb).1,(p).2 - (cb).2)).num.sign<=0))).toSF))::(6, .u (uB (decide ((zId ((p).1 - (ca).1,(p).2 - (ca).2) ((p).1 - (cb).1,(p).2 - (cb).2)).num.sign<=0)))):: []) hmix s kH
   (oc (zJ (f:=fPV M p) 6 kH (hz:=zP _ _))<|oc (zJ (f:=fPV m ca) 6 kH (hz:=zP _ _))<|oc (zH zD zFm (fun u0 u1 W hb (h0:(fPV M p).p u0 W) (h1:(fPV m ca).p u1 W)=>zBy (m:=M) (p:=p) (q:=ca) h0 (zFV oO h1) oO oO))<|oc (zJ (f:=fPV M p) 6 kH (hz:=zP _ _))<|oc (zJ (f:=fPV m cb) 6 kH (hz:=zP _ _))<|oc (zH zD zFm (fun u0 u1 W hb (h0:(fPV M p).p u0 W) (h1:(fPV m cb).p u1 W)=>zBy (m:=M) (p:=p) (q:=cb) h0 (zFV oO h1) oO oO))<|oc (zH zD zSF (fun u0 u1 W hb (h0:(fPN ((p).1 - (ca).1,(p).2 - (ca).2)).p u0 W) (h1:(fPN ((p).1 - (cb).1,(p).2 - (cb).2)).p u1 W)=>zQg (M:=M+m+1) (p:=((p).1 - (ca).1,(p).2 - (ca).2)) (q:=((p).1 - (cb).1,(p).2 - (cb).2)) (zBa (p:=((p).1 - (ca).1,(p).2 - (ca).2)) (m:=(M+m+1)) ((zAV hqp hqa).1.mono (by first|omega|decide)) ((zAV hqp hqa).2.mono (by first|omega|decide)) h0) (zBa (p:=((p).1 - (cb).1,(p).2 - (cb).2)) (m:=(M+m+1)) ((zAV hqp hqb).1.mono (by first|omega|decide)) ((zAV hqp hqb).2.mono (by first|omega|decide)) h1) (zAV hqp hqa) (zAV hqp hqb) oO))<|oc (zI zD zQ5 (fun u0 W hb (h0:QNp (zId ((p).1 - (ca).1,(p).2 - (ca).2) ((p).1 - (cb).1,(p).2 - (cb).2)) u0 W)=>zFS (m:=((M+m+1)+(M+m+1)+((M+m+1)+(M+m+1))+1)) (QNp.rv h0 (((zAV hqp hqa).1.mul (zAV hqp hqb).1).add ((zAV hqp hqa).2.mul (zAV hqp hqb).2))) oO))<|oc (zR .i64 ((zId ((p).1 - (ca).1,(p).2 - (ca).2) ((p).1 - (cb).1,(p).2 - (cb).2)).num.sign) 0 (decide ((zId ((p).1 - (ca).1,(p).2 - (ca).2) ((p).1 - (cb).1,(p).2 - (cb).2)).num.sign<=0)) iiz iiz rfl rfl)<|oc zG<|zE) fun a w4 s=> ?_
  refine zA rfl ?_
  refine wpIn_ret ?_
  exact StS.res1 s (t:=6) rfl (fun v W h=>by rw [zTO e];exact h)
theorem zNG {m:Nat} {W:World} {l u:Value} {L:List V2} {p:V2} (hl:(SF.row 6 (pns L)).p l W) (h1:(fPV m p).p u W) (hqL: ∀x,x∈L->QB x.1 m/\QB x.2 m) (hm:m<=990) (hm0:0<m) (hn:L.length<=1000000):Calls Tryz.prog 177 #[l,u] W (Ret W (SF.row 6 (pns (zFX L p)))):=by
 refine yD [(UF.eq l).toSF,(fPV m p).toSF] Tryz.func177 rfl kH ⟨rfl,h1,trivial⟩ fun a s=> ?_
 replace s:=s.renew [(0, .u (UF.eq l)),(1, .u (fPV m p))] (fmz ⟨.inr ⟨_,rfl, .head _⟩,fmz ⟨.inr ⟨_,rfl,mz1⟩,fnz⟩⟩)
 refine wpIn_seq ?_
 refine zB 0 [] hmix s kH
  zE fun a w1 s=> ?_
 refine yJ (CU.agg (fPV m p)) rfl s kH (fun v W h=>yP h) fun b3 a w s=> ?_
 refine yU (UF.eq (.slice none 0 0)) rfl s kH iiz fun a w s=> ?_
 refine zA rfl ?_
 refine wpIn_seq ?_
 refine zB 1 ((5, .u (uI 0)):: []) hmix s kH
  (oc zG<|zE) fun a w2 s=> ?_
 refine zA rfl ?_
 refine wpIn_seq ?_
 refine wpIn_block ?_
 refine zBF (fun k=>k<=L.length/\ ∀j,j<k->decide (zAP (at_ L j) p<0)=true) (fun k=> [(0, .u (UF.eq l)),(5, .u (uI (k:Int)))]) (fun k=>L.length - k) (0:Nat) (⟨Nat.zero_le _,fun j hj=>absurd hj (Nat.not_lt_zero _)⟩) (s.keepK _ (fmz ⟨mz2,fmz ⟨.head _,fnz⟩⟩)) fun k a w hx s=> ?_
 refine wpIn_seq ?_
 refine wpIn_seq ?_
 refine zB 13 ((7, .s ((uI (k:Int)).toSF))::(8, .s ((UF.eq l).toSF))::(9, .s ((uI (((pns L).length:Nat):Int)).toSF))::(10, .s ((uB (decide ((k:Int)<(((pns L).length:Nat):Int)))).toSF))::(11, .s ((uB (decide ((k:Int)<(((pns L).length:Nat):Int)))).toSF))::(12, .s (SF.imp ((decide ((k:Int)<(((pns L).length:Nat):Int)))=true) ((UF.eq l).toSF)))::(13, .s (SF.imp ((decide ((k:Int)<(((pns L).length:Nat):Int)))=true) ((uI (k:Int)).toSF)))::(14, .s (SF.imp ((decide ((k:Int)<(((pns L).length:Nat):Int)))=true) (SF.ptr (CU.agg (fPN (at_ L k))).cf)))::(15, .s (SF.imp ((decide ((k:Int)<(((pns L).length:Nat):Int)))=true) ((fPN (at_ L k)).toSF)))::(16, .s (SF.imp ((decide ((k:Int)<(((pns L).length:Nat):Int)))=true) ((fPV m p).toSF)))::(17, .s (SF.imp ((decide ((k:Int)<(((pns L).length:Nat):Int)))=true) ((uI (zAP (at_ L k) p)).toSF)))::(18, .s (SF.imp ((decide ((k:Int)<(((pns L).length:Nat):Int)))=true) ((uB (decide (zAP (at_ L k) p<0))).toSF)))::(19, .u (uB ((decide ((k:Int)<(((pns L).length:Nat):Int)))&&(decide (zAP (at_ L k) p<0))))):: []) hmix s kH
  (oc zC<|oc zC<|oc (qN (z:=6) (Cs:=pns L) kH (fun v W hb h=>(y5 hl h (s.up hb))) (fun _=>rfl))<|oc (zR .i64 (k:Int) (((pns L).length:Nat):Int) (decide ((k:Int)<(((pns L).length:Nat):Int))) iiz iiz rfl rfl)<|oc zC<|oc (zF 11 (decide ((k:Int)<(((pns L).length:Nat):Int))) kH iiz (fun e=>zU [] ((UF.eq l).toSF) fnz (fun _ _ h _=>h) kH zC) (fun e W h=>absurd h e))<|oc (zF 11 (decide ((k:Int)<(((pns L).length:Nat):Int))) kH iiz (fun e=>zU [] ((uI (k:Int)).toSF) fnz (fun _ _ h _=>h) kH zC) (fun e W h=>absurd h e))<|oc (zF 11 (decide ((k:Int)<(((pns L).length:Nat):Int))) kH iiz (fun e=>zU [(12,(UF.eq l).toSF),(13,(uI (k:Int)).toSF)] (SF.ptr (CU.agg (fPN (at_ L k))).cf) (fmz ⟨fun v W h=>zL (c:=(decide ((k:Int)<(((pns L).length:Nat):Int)))=true) (f:=(UF.eq l).toSF) e h,fmz ⟨fun v W h=>zL (c:=(decide ((k:Int)<(((pns L).length:Nat):Int)))=true) (f:=(uI (k:Int)).toSF) e h,fnz⟩⟩) (fun _ _ h _=>h) kH (qW (z:=6) (Cs:=pns L) (i:=k) (C:=CU.agg (fPN (at_ L k))) kH (zCT (by have:=of_decide_eq_true e;simp at this;omega)) (fun v W hb h=>(y5 hl h (s.up hb))) iiz)) (fun e W h=>absurd h e))<|oc (zF 11 (decide ((k:Int)<(((pns L).length:Nat):Int))) kH iiz (fun e=>zU [(14,SF.ptr (CU.agg (fPN (at_ L k))).cf)] ((fPN (at_ L k)).toSF) (fmz ⟨fun v W h=>zL (c:=(decide ((k:Int)<(((pns L).length:Nat):Int)))=true) (f:=SF.ptr (CU.agg (fPN (at_ L k))).cf) e h,fnz⟩) (fun _ _ h _=>h) kH (zJ (f:=fPN (at_ L k)) 6 kH (hz:=zP _ _))) (fun e W h=>absurd h e))<|oc (zF 11 (decide ((k:Int)<(((pns L).length:Nat):Int))) kH iiz (fun e=>zU [] ((fPV m p).toSF) fnz (fun _ _ h _=>h) kH (zJ (f:=fPV m p) 6 kH (hz:=zP _ _))) (fun e W h=>absurd h e))<|oc (zF 11 (decide ((k:Int)<(((pns L).length:Nat):Int))) kH iiz (fun e=>zU [(15,(fPN (at_ L k)).toSF),(16,(fPV m p).toSF)] ((uI (zAP (at_ L k) p)).toSF) (fmz ⟨fun v W h=>zL (c:=(decide ((k:Int)<(((pns L).length:Nat):Int)))=true) (f:=(fPN (at_ L k)).toSF) e h,fmz ⟨fun v W h=>zL (c:=(decide ((k:Int)<(((pns L).length:Nat):Int)))=true) (f:=(fPV m p).toSF) e h,fnz⟩⟩) (fun _ _ h _=>h) kH (zH zD zSv (fun u0 u1 W hb (h0:(fPN (at_ L k)).p u0 W) (h1:(fPV m p).p u1 W)=>zK8 (m:=m) (p:=at_ L k) (q:=p) (zBa (p:=at_ L k) (m:=m) (hqL _ (zFc (l:=L) (i:=k) (by have:=of_decide_eq_true e;simp at this;omega))).1 (hqL _ (zFc (l:=L) (i:=k) (by have:=of_decide_eq_true e;simp at this;omega))).2 h0) h1 hm hm0))) (fun e W h=>absurd h e))<|oc (zF 11 (decide ((k:Int)<(((pns L).length:Nat):Int))) kH iiz (fun e=>zU [(17,(uI (zAP (at_ L k) p)).toSF)] ((uB (decide (zAP (at_ L k) p<0))).toSF) (fmz ⟨fun v W h=>zL (c:=(decide ((k:Int)<(((pns L).length:Nat):Int)))=true) (f:=(uI (zAP (at_ L k) p)).toSF) e h,fnz⟩) (fun _ _ h _=>h) kH (zR .i64 (zAP (at_ L k) p) 0 (decide (zAP (at_ L k) p<0)) iiz iiz rfl rfl)) (fun e W h=>absurd h e))<|oc (yC (decide ((k:Int)<(((pns L).length:Nat):Int))) iiz (fun e v W h=>jT (zL e h) e) (fun e v W h=>qZ h e))<|zE) fun a w3 s=> ?_
 refine zA rfl ?_
 refine StS.cond s ((decide ((k:Int)<(((pns L).length:Nat):Int)))&&(decide (zAP (at_ L k) p<0))) iiz (fun e=> ?_) (fun e=> ?_)
 ·rw [Bool.and_eq_true] at e
  have hk:k<L.length:=by have:=of_decide_eq_true e.1;simp at this;omega
  have hlt:=e.2
  refine wpIn_skip ?_
  refine wpIn_block ?_
  refine y6 2 ((20, .s ((uI (k:Int)).toSF))::(21, .u (uI ((k+1:Nat):Int))):: []) s kH
   (oc zC<|oc (qF .i64 (k:Int) 1 ((k+1:Nat):Int) iiz iiz (wrap64 _ _ oO oO))<|zE) fun a w4 s=> ?_
  replace s:=s.drop [5]
  refine yU (uI ((k+1:Nat):Int)) rfl s kH iiz fun a w s=> ?_
  refine zA rfl ?_
  exact ⟨k+1,⟨hk,fun j hj=>by rcases Nat.lt_or_eq_of_le (Nat.le_of_lt_succ hj) with h|h;exact hx.2 j h;rw [h];exact hlt⟩,(by show L.length - (k+1)<L.length - k;omega),s.keepK _ (fmz ⟨mz3,fmz ⟨.head _,fnz⟩⟩)⟩
 ·have hkl:=hx.1
  have hpos:zMX L p=k:=by
   rw [Bool.and_eq_false_iff] at e
   rcases Nat.lt_or_eq_of_le hkl with h|h
   ·exact zNd h hx.2 (by rcases e with e|e;exact absurd (show (k:Int)<(((pns L).length:Nat):Int) by simp;omega) (of_decide_eq_false e);exact e)
   ·unfold zMX;rw [h];exact zKB (by rw [<-h];exact hx.2)
  clear e
  refine wpIn_exit ?_
  refine wpIn_seq ?_
  refine wpIn_seq ?_
  refine zB 12 ((22, .s ((uI (k:Int)).toSF))::(23, .s ((UF.eq l).toSF))::(24, .s ((uI (((pns L).length:Nat):Int)).toSF))::(25, .s ((uB (decide ((k:Int)<(((pns L).length:Nat):Int)))).toSF))::(26, .s ((uB (decide ((k:Int)<(((pns L).length:Nat):Int)))).toSF))::(27, .s (SF.imp ((decide ((k:Int)<(((pns L).length:Nat):Int)))=true) ((UF.eq l).toSF)))::(28, .s (SF.imp ((decide ((k:Int)<(((pns L).length:Nat):Int)))=true) ((uI (k:Int)).toSF)))::(29, .s (SF.imp ((decide ((k:Int)<(((pns L).length:Nat):Int)))=true) (SF.ptr (CU.agg (fPN (at_ L k))).cf)))::(30, .s (SF.imp ((decide ((k:Int)<(((pns L).length:Nat):Int)))=true) ((fPN (at_ L k)).toSF)))::(31, .s (SF.imp ((decide ((k:Int)<(((pns L).length:Nat):Int)))=true) ((fPV m p).toSF)))::(32, .s (SF.imp ((decide ((k:Int)<(((pns L).length:Nat):Int)))=true) ((uB (zAP (at_ L k) p==0)).toSF)))::(33, .u (uB ((decide ((k:Int)<(((pns L).length:Nat):Int)))&&(zAP (at_ L k) p==0)))):: []) hmix s kH
   (oc zC<|oc zC<|oc (qN (z:=6) (Cs:=pns L) kH (fun v W hb h=>(y5 hl h (s.up hb))) (fun _=>rfl))<|oc (zR .i64 (k:Int) (((pns L).length:Nat):Int) (decide ((k:Int)<(((pns L).length:Nat):Int))) iiz iiz rfl rfl)<|oc zC<|oc (zF 26 (decide ((k:Int)<(((pns L).length:Nat):Int))) kH iiz (fun e=>zU [] ((UF.eq l).toSF) fnz (fun _ _ h _=>h) kH zC) (fun e W h=>absurd h e))<|oc (zF 26 (decide ((k:Int)<(((pns L).length:Nat):Int))) kH iiz (fun e=>zU [] ((uI (k:Int)).toSF) fnz (fun _ _ h _=>h) kH zC) (fun e W h=>absurd h e))<|oc (zF 26 (decide ((k:Int)<(((pns L).length:Nat):Int))) kH iiz (fun e=>zU [(27,(UF.eq l).toSF),(28,(uI (k:Int)).toSF)] (SF.ptr (CU.agg (fPN (at_ L k))).cf) (fmz ⟨fun v W h=>zL (c:=(decide ((k:Int)<(((pns L).length:Nat):Int)))=true) (f:=(UF.eq l).toSF) e h,fmz ⟨fun v W h=>zL (c:=(decide ((k:Int)<(((pns L).length:Nat):Int)))=true) (f:=(uI (k:Int)).toSF) e h,fnz⟩⟩) (fun _ _ h _=>h) kH (qW (z:=6) (Cs:=pns L) (i:=k) (C:=CU.agg (fPN (at_ L k))) kH (zCT (by have:=of_decide_eq_true e;simp at this;omega)) (fun v W hb h=>(y5 hl h (s.up hb))) iiz)) (fun e W h=>absurd h e))<|oc (zF 26 (decide ((k:Int)<(((pns L).length:Nat):Int))) kH iiz (fun e=>zU [(29,SF.ptr (CU.agg (fPN (at_ L k))).cf)] ((fPN (at_ L k)).toSF) (fmz ⟨fun v W h=>zL (c:=(decide ((k:Int)<(((pns L).length:Nat):Int)))=true) (f:=SF.ptr (CU.agg (fPN (at_ L k))).cf) e h,fnz⟩) (fun _ _ h _=>h) kH (zJ (f:=fPN (at_ L k)) 6 kH (hz:=zP _ _))) (fun e W h=>absurd h e))<|oc (zF 26 (decide ((k:Int)<(((pns L).length:Nat):Int))) kH iiz (fun e=>zU [] ((fPV m p).toSF) fnz (fun _ _ h _=>h) kH (zJ (f:=fPV m p) 6 kH (hz:=zP _ _))) (fun e W h=>absurd h e))<|oc (zF 26 (decide ((k:Int)<(((pns L).length:Nat):Int))) kH iiz (fun e=>zU [(30,(fPN (at_ L k)).toSF),(31,(fPV m p).toSF)] ((uB (zAP (at_ L k) p==0)).toSF) (fmz ⟨fun v W h=>zL (c:=(decide ((k:Int)<(((pns L).length:Nat):Int)))=true) (f:=(fPN (at_ L k)).toSF) e h,fmz ⟨fun v W h=>zL (c:=(decide ((k:Int)<(((pns L).length:Nat):Int)))=true) (f:=(fPV m p).toSF) e h,fnz⟩⟩) (fun _ _ h _=>h) kH (zH zD zSu (fun u0 u1 W hb (h0:(fPN (at_ L k)).p u0 W) (h1:(fPV m p).p u1 W)=>zIN (m:=m) (p:=at_ L k) (q:=p) (zBa (p:=at_ L k) (m:=m) (hqL _ (zFc (l:=L) (i:=k) (by have:=of_decide_eq_true e;simp at this;omega))).1 (hqL _ (zFc (l:=L) (i:=k) (by have:=of_decide_eq_true e;simp at this;omega))).2 h0) h1 hm hm0))) (fun e W h=>absurd h e))<|oc (yC (decide ((k:Int)<(((pns L).length:Nat):Int))) iiz (fun e v W h=>jT (zL e h) e) (fun e v W h=>qZ h e))<|zE) fun a w5 s=> ?_
  refine zA rfl ?_
  refine StS.cond s ((decide ((k:Int)<(((pns L).length:Nat):Int)))&&(zAP (at_ L k) p==0)) iiz (fun e=> ?_) (fun e=> ?_)
  ·refine wpIn_seq ?_
   refine zB 2 ((34, .s ((UF.eq l).toSF))::(4, .u (UF.eq l)):: []) hmix s kH
    (oc zC<|oc zG<|zE) fun a w6 s=> ?_
   refine zA rfl ?_
   refine wpIn_ret ?_
   exact StS.resN s (Below.refl _ _) (t:=4) rfl (by rw [s.val (.head _),zRW hpos e];exact (SF.row 6 _).st _ _ _ hl s.below)
  ·refine wpIn_skip ?_
   refine wpIn_seq ?_
   have hbX:=s.below
   have hlX:=(SF.row 6 _).st _ _ _ hl hbX
   have hX3:b3<w5.heap.size:=s.old _ (.head _)
   replace s:StS _ _ _ [⟨3,30,CU.agg (fPV m p),b3,true⟩] _ _ _ _:=s.freeze
   replace s:=s.reb rfl [(33, .u (uB ((decide ((k:Int)<(((pns L).length:Nat):Int)))&&(zAP (at_ L k) p==0)))),(19, .u (uB ((decide ((k:Int)<(((pns L).length:Nat):Int)))&&(decide (zAP (at_ L k) p<0))))),(0, .u (UF.eq l)),(5, .u (uI (k:Int)))] (fmz ⟨.inl (.head _),fmz ⟨.inl mz1,fmz ⟨.inl mz2,fmz ⟨.inl mz3,fnz⟩⟩⟩⟩)
   refine jJ 5 ((35, .s (SF.emp w5 30))::(36, .s ((UF.eq l).toSF))::(37, .s ((uI (k:Int)).toSF))::(38, .s (SF.row 6 (pns (L.take k))))::(39, .s (SF.newRow w5 30 6 (pns (L.take k)))):: []) hmix s kH
    (oc (zG4 (z:=6) kH)<|oc zC<|oc zC<|oc (zNY (z:=6) (k:=k) (Cs:=pns L) kH (by simp;omega) (fun v W hb h=>(y5 hlX h (s.up hb))) iiz (fun v W h=>by rw [zNO] at h;exact h))<|oc (zLE (pns (L.take k)) kH iiz (fun v W hb h=>h) (zLs _) (by simp;omega))<|zE) fun a w7 s hr=> ?_
   obtain ⟨v39,e39⟩: ∃v,a.tmps.getD 39 undef=v:=⟨_,rfl⟩
   have hv39:zCb w7 w5.heap.size 30 6 v39 (pns (L.take k)):=e39▸(hr (_,_) mz4)
   replace s:=s.learn 39 v39 e39
   refine zOO (UF.eq v39) rfl s kH iiz fun a s=> ?_
   refine zA rfl ?_
   refine wpIn_seq ?_
   have sb:=s;have so: ∀q,q∈ [(⟨3,30,CU.agg (fPV m p),b3,true⟩:Bx)]->q.b<w5.heap.size:=fun q hq=>by rcases List.mem_cons.1 hq with rfl|hq;exact hX3;cases hq
   have sg:w5.heap.size<=w5.heap.size:=Nat.le_refl _
   have hwX:=s.below
   refine zEP (GW w5) hmix s fun w8 hw8 s=> ?_
   have hwb:=hwX.trans (hw8.mono hwX.size)
   have hz:=hwb.size
   refine zBx [5,6,7] [0,1,2,3,5,6,7] ((40, .u (UF.eq v39))::(41, .s ((fPV m p).toSF))::(42, .s (SF.row 6 [CU.agg (fPV m p)]))::(43, .s (SF.row 6 (pns [p])))::(45, .s ((UF.eq l).toSF))::(46, .s ((uI (k:Int)).toSF))::(47, .u (fRW w5 6 (pns (L.drop k)))):: []) (zGi hwb) s kH
    (oc zC<|oc (zJ (f:=fPV m p) 6 kH (hz:=zP _ _))<|oc (zAd (fun u W (hu:(fPV m p).p u W)=>zD2 hu))<|oc (zI zD zSz (fun u0 W hb h0=>(zNy (m:=m) (ps:= [p]) h0 oO (by simp)).mono (Ret.to zJ8)))<|oc zC<|oc zC<|oc (zHZ (W0:=w5) (l0:=l) (z:=6) (k:=k) (Cs:=pns L) kH (by simp;omega) hlX iiz iiz (fun v W h=>by rw [zNQ] at h;exact h))<|zE)
    (qQ rfl (zC3.c zCs hwb) (qQ rfl (zC3.c zCs hwb) (qQ rfl (zC3.c (zIb (x:= .tmp 45) (lo:= .tmp 46) (l0:=l) (z:=6) (k:=k) (Cs:=pns L) kH (by simp;omega) hlX iiz iiz) hwb) zBC))) fun a w9 hbw s hr=> ?_
   replace hwb:=hwb.trans (hbw.mono hwb.size)
   have hN:=hv39.below (hw8.trans (hbw.mono hw8.size))
   refine zFP (i:=4) (x:= .tmp 40) (y:= .tmp 43) (pns [p]) hwb s sg hN rfl (zBP rfl) kH kH kH (s.fct (.tmp 40)) (hr (_,_) mz3) (zLs _) (by simp;omega) so fun v44 a w10 hwb hN44 s=> ?_
   have hR44:=hN44.row
   refine zFP (i:=8) (x:= .tmp 44) (y:= .tmp 47) (pns (L.drop k)) hwb s sg hN44 rfl (zBP rfl) kH kH kH (s.fct (.tmp 44)) ((SF.row 6 _).st _ _ _ (s.sl (47, .u (fRW w5 6 (pns (L.drop k)))) mz2) hwb) (zLs _) (by simp;omega) so fun v48 a w11 hwb hN48 s=> ?_
   have hR48:=hN48.row
   have hR:(SF.row 6 (pns (zFX L p))).p v48 w11:=by have:=hR48;rw [zLr, <-zRX hpos e] at this;exact this
   replace s:=s.drop [4]
   refine zBx [] [9] ((4, .u (UF.eq v48)):: []) (zGi hwb) s kH (zEr zG<|zE) zBC fun a w12 hbw s hr=> ?_
   refine zDa kH ?_
   refine wpIn_ret ?_
   exact StS.resN s hbX (t:=4) rfl (by rw [s.val (.head _)];exact (SF.row 6 _).st _ _ _ hR hbw)
end Go.Proofs.Wd
