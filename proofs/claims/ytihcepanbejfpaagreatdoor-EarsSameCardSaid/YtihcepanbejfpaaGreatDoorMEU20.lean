/- Natural numbers as values; the walks of gcd's Reduce, Lcm, Coprime; Th and what it needs. -/
import Derived.Test.YtihcepanbejfpaaGreatDoorMEU18
import Derived.Test.YtihcepanbejfpaaGreatDoorMEU19
theorem dA{P:Prop}(h:P:=by decide):P:=h
theorem fN{c:Prop}{α:Sort _}{R:α->Prop}(e:¬c)(w:α)(h:c):R w:=absurd h e
theorem fO{β γ:Sort _}{p q:β->γ->Prop}(b:β)(c:γ)(h:p b c)(_:q b c):p b c:=h
abbrev tQ:=@Go.wpIn_block
abbrev tR:=@Go.wpIn_exit
abbrev tS:=@List.mem_singleton
abbrev tT:=@List.mem_of_find?_eq_some
abbrev tU:=@Nat.lt_or_eq_of_le
abbrev tV:=@Rat.num_eq_zero
abbrev tW:=@Rat.one_mul
abbrev tX:=@List.find?_eq_none
abbrev tY:=@Bool.and_eq_false_iff
abbrev tZ:=@Nat.le_of_lt_succ
abbrev zCK:=@List.toList_toArray
namespace Go.Proofs.Wd
open Tryz
variable {W w w':WB}{B a b b' d m m' n n' x:Nat}{f u v v':WE}{cs cs':List WE}{k:Int}{p q q':Rat}{A:WG Addr}{qs:List Rat}{op:Rat->Rat->Rat}
set_option maxHeartbeats 2000000
open Go.RowKit Lb
theorem zXm(h:LV W m v a)(h':LV W m v' b)(hm:m<=2000)(U:Tab W):Calls prog 149 #[v,v'] W (zO3 W (Nat.gcd a b)):=by
 obtain⟨A,n,c,l,rfl,O,h2,h3,rfl⟩:=h
 obtain⟨A',n',c',l',rfl,J,I,h3',rfl⟩:=h'
 exact(zTX A n c l A' n' c' l' W O J h2 I oA oA U).mono fun _ _=>jK.v
theorem zRW(I:a<BB^m)(hb:b<BB^m):Nat.gcd a b<BB^m:=by
 rcases uH a with rfl|h
 .rwa [Nat.gcd_zero_left]
 .exact mY (nD b h) I
theorem zOR{vg:WE}{g:Nat}(h:LV W m v a)(hg:LV W m vg g)(hm:m<=2000)(hg0:0<g)(hc:W.cell? ⟨B,0,none⟩=some vg):
  Calls prog 159 #[v,pO B 0] W (zO3 W (a/g)):=by
 obtain⟨A,n,c,l,rfl,h1,h2,h3,h4⟩:=h
 obtain⟨A',n',c',l',rfl,h1',h2',h3',h4'⟩:=hg
 have hd:=zKL a g hg0 A n c l A' n' c' l' W h1 h2 h1' h2' h4 h4' oA oA
 have H4:=hid h4;have H4':=hid h4'
 clear h4 h4'
 go_enter func159,ntmps159
 go_wp2_with fail
 refine hd.mono ?_
 rintro e w4 ⟨A4,n4,c4,l4,A5,n5,c5,l5,rfl,hi4,hr4,hi5,hr5,hb5⟩
 go_wp2_with fail
 go_ret
 exact⟨_,rfl,⟨A4,n4,c4,l4,rfl,hi4,hr4⟩,hb5⟩
theorem zWw(A:WG Addr)(n c:Nat)(w:WB):
  Calls prog 150 #[.slice A n c] w fun e w'=>e=.returned (.func (.func 159) #[] #[pO w.heap.size 0])/\w'=w.alloc (.cells #[.slice A n c] 24):=by
 go_enter func150,ntmps150
 go_wp2
 go_ret
 exact⟨rfl,rfl⟩
theorem zPQ(h:LV W m v a)(h':LV W m v' b)(hm:m<=2000)(hT:Tab W):Calls prog 135 #[v,v'] W (zYf W (a/Nat.gcd a b) (b/Nat.gcd a b)):=by
 have hgc:=zXm h h' hm hT
 have hgl:=zRW h.bound h'.bound
 have hen:∀args w,(callFunc 159 args).run prog w=.ok (.enter 159 args) w:=enters_of func159 kA rfl
 obtain⟨g,hg⟩:∃g,Nat.gcd a b=g:=⟨_,rfl⟩
 rw[hg]at hgc hgl ⊢
 rcases uH g with h0|h0
 .have HZ:=hid h0
  go_enter func135,ntmps135
  go_wp2_with fail
  refine hgc.mono ?_
  rintro e w4 ⟨v4,rfl,⟨A4,n4,c4,l4,rfl,hi4,hr4⟩,hb4⟩
  obtain rfl:n4=0:=by rw[<-hr4.len];exact hi4.zero_iff.1 HZ.out
  go_wp2_with fail
  go_ret2
  exact⟨_,_,rfl,⟨none,0,0, [],rfl,by rw[HZ.out,Nat.div_zero];exact Is.nil,wM _⟩,⟨none,0,0, [],rfl,by rw[HZ.out,Nat.div_zero];exact Is.nil,wM _⟩,hb4⟩
 .clear hg
  go_enter func135,ntmps135
  go_wp2_with fail
  refine hgc.mono ?_
  rintro e w4 ⟨v4,rfl,⟨A4,n4,c4,l4,rfl,hi4,hr4⟩,hb4⟩
  have hn4:0<n4:=by rw[<-hr4.len];exact hi4.pos_iff.1 h0
  have hb5:=hb4.trans ((xF _ w4).alloc (vP _) (.cells #[.slice A4 n4 c4] 24)|>.mono hb4.size)
  have x5:=bZ w4 24 (.slice A4 n4 c4)
  obtain⟨W5,hW5⟩:∃W5,w4.alloc (.cells #[.slice A4 n4 c4] 24)=W5:=⟨_,rfl⟩
  rw[hW5]at hb5 x5
  have hg5:LV W5 m (.slice A4 n4 c4) g:=by rw[<-hW5];exact(qQ.lv ⟨A4,n4,c4,l4,rfl,hi4,hr4⟩ hgl).below ((xF _ w4).alloc (vP _) _)
  have hby:=zWw A4 n4 c4 w4
  rw[hW5]at hby
  clear hW5
  go_wp2_with fail
  refine hby.mono ?_
  rintro e w6 ⟨rfl,rfl⟩
  go_wp2_with fail
  refine(zOR (h.below hb5) hg5 hm h0 x5.cell).mono ?_
  rintro e w7 ⟨v7,rfl,hv7,hb7⟩
  go_wp2_with fail
  refine(zOR ((h'.below hb5).below hb7) (hg5.below hb7) hm h0 ((hb7.cell (p:=⟨w4.heap.size,0,none⟩) (zZ x5.cell)).trans x5.cell)).mono ?_
  rintro e w8 ⟨v8,rfl,hv8,hb8⟩
  go_wp2_with fail
  go_ret2
  have t1:=hb5.trans (hb7.mono hb5.size)
  exact⟨_,_,rfl,hv7.below hb8,hv8,t1.trans (hb8.mono t1.size)⟩
theorem zQ9(I:Nat):bW W (W.drewN I):=⟨(xF W.heap.size W).os,(xF W.heap.size W).tape,(xF W.heap.size W).output,(xF W.heap.size W).size,(xF W.heap.size W).block⟩
set_option maxRecDepth 100000
theorem zRo(h:LV W m v x)(hm:m<=100000):Calls prog 124 #[v] W (zO3 W x):=by
 obtain⟨A,n,c,l,rfl,I,h2,h3,rfl⟩:=h
 exact(q9 A n c l W I h2 oA).mono fun _ _=>jK.v
theorem Tab.bls{te:WF}(O:Tab W)(hb:W.heap[b]?=some (.cells cs.toArray te (0,0)))(h0:∃s,cs[0]?=some (.bool s))(hg:BlS (fun k=>k=b) W w):Tab w:=fun j hj=>by
 have J:=O j hj
 have I:(0:Nat)≠b:=fun e=>by
  have h2:=O 0 dA
  obtain⟨s,U⟩:=h0
  unfold World.cell? at h2
  rw[show((⟨0,0,none⟩:Addr).block)=b from e,hb]at h2
  simp[U]at h2
 exact(bR (a:=⟨0,j,none⟩) (hg.block _ (zZ J) I)).trans J
theorem zJD(h:QVp m k d (.agg cs.toArray) W):∃s,cs[0]?=some (.bool s):=by
 obtain⟨u,I,s,rfl⟩:=zVd cs W h
 exact⟨s,I⟩
theorem zCp(h:QVp m k d (.agg cs.toArray) W):cs.all zX=true:=by
 have:=(zFJ (v:=.agg cs.toArray) h).2
 simpa[Value.cells]using this
theorem zGQ(h:qQ W v x):Calls prog 105 #[v] W (Ret W (fNV (x:Int)).tS):=by
 exact z5 [(jB x).tS] func105 rfl kA ⟨h,trivial⟩ fun a s=>lQ<|rgK 0 [] s
  zB fun a w1 s=>z9 (CU.len 2) (cs:=[.bool false, sN]) kA rfl s kA (fun W=>rfl) rfl fun b2 a w s=>zD rfl<|lQ<|rgK 2 ((3,.Z (jB x))::(4,.u (fNV (x:Int)))::[]) s
  (oc zA<|oc (zFV (fun u W (I:qQ W u x)=>zOS I))<|zB) fun a w2 s=>zR (CU.agg (fNV (x:Int))) ((fNV (x:Int)).tS) rfl s kA rfl rfl rfl iiz iiz zHz fun a w s=>zD rfl<|pU<|wI s (CU.agg (fNV (x:Int))) rfl kA rfl rfl (zRN _) (fun cs W h=>h)
theorem zPN(z:Int)(hz: -9223372036854775808<=z/\z<=9223372036854775807):Calls prog 51 #[.int .i64 z] W (Ret W (fQN (z:Rat)).tS):=by
 exact z5 [(fI z).tS] func51 rfl kA ⟨rfl,trivial⟩ fun a s=>lQ<|rgK 0 [] s
  zB fun a w1 s=>z9 (CU.len 3) (cs:=zR3) kA rfl s kA (fun W=>rfl) rfl fun b2 a w s=>zD rfl<|lQ<|rgK 4 ((3,.Z (uI z))::(4,.Z (fNV z))::(5,.Z (jB 1))::(6,.u (fQN (z:Rat)))::[]) s
  (oc zA<|oc (zG zC zXH (fun J W hb (O:J=.int .i64 z)=>by subst O;exact zYK z hz))<|oc (jX (fun u W (I:u=.int .u32 1)=>zRw I))<|oc (jF (fun u v W (I:NV W u z) (hv:qQ W v 1)=>zJb (q:=(z:Rat)) I hv))<|zB) fun a w2 s=>zR (CU.agg (fQN (z:Rat))) ((fQN (z:Rat)).tS) rfl s kA rfl rfl rfl iiz iiz yJ fun a w s=>zD rfl<|pU<|wI s (CU.agg (fQN (z:Rat))) rfl kA rfl rfl (qW _) (fun cs W h=>h)
theorem zSZ(hh:W.heap[b]?=some (.cells cs.toArray 98 (0,0)))(U:QVp m k d (.agg cs.toArray) W)(hm:m<=2000)(hd:d=0):Calls prog 107 #[pO b 0] W (zO2 W b 98 (CU.agg (fQN ((0:Int):Rat))) (uB false).tS):=by
 have hz:true=decide (d=0):=(lI hd).symm
 refine zHb b [(0,UF.eq (pO b 0))] [⟨0,98,CU.agg (fQV m k d),b,false⟩] func107 rfl kA (fun q hq=>by simp at hq;subst hq;exact⟨by simp,rfl⟩) ⟨⟨cs,rfl,.inr (.inr rfl),hh,U,zCp U,fun y hy=>by cases hy⟩,trivial⟩ (fun x O=>by simp at O;subst O;simp) fun a s=>rgQ ((2,.u (uB false))::[]) s
  (oc zE<|zB) fun a w1 s=>lQ<|rgQ ((3,.s (wJ b (cg (fQV m k d))))::(4,.Y (fQV m k d))::(5,.X (fQV m k d) 0)::(6,.X (fQV m k d) 2)::(7,.Z (fLV m d))::(8,.Z (jB d))::(9,.s (zRZ d))::(10,.u (uB true))::[]) s
  (oc zA<|oc (zAw (C:=cg (fQV m k d)))<|oc (zN (C:=cg (fQV m k d)) 0 kA)<|oc (qJ (C:=cg (fQV m k d)) 0 2 kA)<|oc (jU (C:=cg (fQV m k d)) (k:=2) kA (h:=zIB))<|oc (zG zC zR1 (fun I W hb (J:LV W m I d)=>zRo J oA))<|oc (zED kA iiz)<|oc (zEE hz)<|zB) fun a w2 s=>StS.cond s true iiz (fun e=>?_) (fun e=>by cases e)
 refine lQ<|rgK 4 ((11,.Z (UF.eq (pO b 0)))::(12,.u (fQN ((0:Int):Rat)))::(13,.Z (UF.eq (pO b 0)))::(14,.u (UF.eq (pO b 0)))::[]) s
  (oc (zA (fun _ _ _ h=>h.1))<|oc (zG zC zT7 (fun I W hb (J:I=.int .i64 0)=>by subst J;exact zPN 0 dA))<|oc (zCG (a:=⟨b,0,none⟩) iiz)<|oc (zAm (b:=b) (o:=0) 0 kA iiz)<|zB) fun a w3 s=>zAc (c:=0) (o:=0) (kk:=3) (CU.agg (fQN ((0:Int):Rat))) ((fQN ((0:Int):Rat)).tS) rfl s kA rfl rfl iiz iiz zPr fun a w s=>zD rfl<|lQ ?_
 replace s:=s.drop [2]
 exact rgE ((2,.u (uB false))::[]) s
  (oc zE<|zB) fun a w4 s=>pU<|vH s (c:=0) (C:=CU.agg (fQN ((0:Int):Rat))) rfl rfl rfl rfl iiz
theorem zS0(hh:W.heap[b]?=some (.cells cs.toArray 98 (0,0)))(hc:QVp m k d (.agg cs.toArray) W)(hm:m<=2000)(O:0<d)(hT:Tab W):Calls prog 107 #[pO b 0] W (zO2 W b 98 (CU.agg (fQN (mkRat k d))) (uB true).tS):=by
 have hz:false=decide (d=0):=(xY oA).symm
 have bk:k.natAbs<BB^m:=by obtain⟨_,_,_,_,J,_⟩:=hc;exact J.bound
 have h5:∀W I u1,Tab W->LV W m I k.natAbs->LV W m u1 d->Calls prog 135 #[I,u1] W (Ret W (wZ (jB (k.natAbs/Nat.gcd k.natAbs d)).tS (jB (d/Nat.gcd k.natAbs d)).tS)):=fun W I u1 hT U J=>(zPQ U J hm hT).mono fun e w' ⟨v,v',e1,J,h2,hb⟩=>⟨_,e1,⟨v,v',rfl,J,h2⟩,hb⟩
 refine zHb b [(0,UF.eq (pO b 0))] [⟨0,98,CU.agg (fQV m k d),b,false⟩] func107 rfl kA (fun q hq=>by simp at hq;subst hq;exact⟨by simp,rfl⟩) ⟨⟨cs,rfl,.inr (.inr rfl),hh,hc,zCp hc,fun y hy=>by cases hy⟩,trivial⟩ (fun x hx=>by simp at hx;subst hx;simp) fun a s=>rgQ ((2,.u (uB false))::[]) s
  (oc zE<|zB) fun a w1 s=>lQ<|rgQ ((3,.s (wJ b (cg (fQV m k d))))::(4,.Y (fQV m k d))::(5,.X (fQV m k d) 0)::(6,.X (fQV m k d) 2)::(7,.Z (fLV m d))::(8,.Z (jB d))::(9,.s (zRZ d))::(10,.u (uB false))::[]) s
  (oc zA<|oc (zAw (C:=cg (fQV m k d)))<|oc (zN (C:=cg (fQV m k d)) 0 kA)<|oc (qJ (C:=cg (fQV m k d)) 0 2 kA)<|oc (jU (C:=cg (fQV m k d)) (k:=2) kA (h:=zIB))<|oc (zG zC zR1 (fun I W hb (U:LV W m I d)=>zRo U oA))<|oc (zED kA iiz)<|oc (zEE hz)<|zB) fun a w2 s=>StS.cond s false iiz (fun e=>by cases e) (fun e=>?_)
 refine pV<|lQ<|rgK 10 ((15,.Z (UF.eq (pO b 0)))::(16,.s (wJ b (cg (fQV m k d))))::(17,.Y (fQV m k d))::(18,.X (fQV m k d) 0)::(19,.X (fQV m k d) 0)::(20,.Z (fUV m k))::(21,.u (fNV k))::(22,.Z (UF.eq (pO b 0)))::(23,.Z (UF.eq (pO b 0)))::(24,.u (UF.eq (pO b 0)))::[]) s
  (oc (zA (fun _ _ _ h=>h.1))<|oc zA<|oc (zAw (C:=cg (fQV m k d)))<|oc (zN (C:=cg (fQV m k d)) 0 kA)<|oc (qJ (C:=cg (fQV m k d)) 0 0 kA)<|oc (zV (C:=cg (fQV m k d)) (k:=0) 2 kA (h:=zNm))<|oc (zG zC zWc (fun I W hb (U:UV W m I k)=>zVw U oA))<|oc (zCG (a:=⟨b,0,none⟩) iiz)<|oc (zAm (b:=b) (o:=0) 0 kA iiz)<|oc (zAm (b:=b) (o:=0) 0 kA iiz)<|zB) fun a w3 s=>zAc (c:=0) (o:=0) (kk:=2) (CU.agg (fQM m k d)) ((fNV k).tS) rfl s kA rfl rfl iiz iiz zSL fun a w s=>zD rfl<|lQ<|yL [0,1,2,8] 15 ((26,.u (UF.eq (pO b 0)))::(27,.u (UF.eq (pO b 0)))::(28,.s (wJ b (cg (fQM m k d))))::(29,.Y (fQM m k d))::(30,.X (fQM m k d) 0)::(31,.X (fQM m k d) 0)::(32,.X (fQM m k d) 1)::(33,.Z (jB (k.natAbs)))::(34,.s (wJ b (cg (fQM m k d))))::(35,.Y (fQM m k d))::(36,.X (fQM m k d) 0)::(37,.X (fQM m k d) 2)::(38,.Z (fLV m d))::(39,.Z (zBC (jB (k.natAbs/Nat.gcd k.natAbs d)) (jB (d/Nat.gcd k.natAbs d))))::(25,.u (zBC (jB (k.natAbs/Nat.gcd k.natAbs d)) (jB (d/Nat.gcd k.natAbs d))))::[]) hmix s kA
  (oc (zA (fun _ _ _ h=>h.1))<|oc (zA (fun _ _ _ h=>h.1))<|oc zA<|oc (zAw (C:=cg (fQM m k d)))<|oc (zN (C:=cg (fQM m k d)) 0 kA)<|oc (qJ (C:=cg (fQM m k d)) 0 0 kA)<|oc (qJ (C:=cg (fQM m k d)) 0 1 kA)<|oc (jU (C:=cg (fQM m k d)) (k:=1) kA (h:=zVh))<|oc zA<|oc (zAw (C:=cg (fQM m k d)))<|oc (zN (C:=cg (fQM m k d)) 0 kA)<|oc (qJ (C:=cg (fQM m k d)) 0 2 kA)<|oc (jU (C:=cg (fQM m k d)) (k:=2) kA (h:=zVg))<|oc (zI zC zWb (fun I u1 W hb (U:qQ W I (k.natAbs)) (J:LV W m u1 d)=>h5 W I u1 (hT.bls hh (zJD hc) (s.gr.trans hb)) (qQ.lv U bk) J))<|oc zA<|zB) fun Q' hQ a w4 s=>zBF (jB (k.natAbs/Nat.gcd k.natAbs d)) rfl s kA (zBR (A:=(jB (k.natAbs/Nat.gcd k.natAbs d)).tS) (B:=(jB (d/Nat.gcd k.natAbs d)).tS) iiz) kA fun a w s=>zBF (jB (d/Nat.gcd k.natAbs d)) rfl s kA (zBQ (A:=(jB (k.natAbs/Nat.gcd k.natAbs d)).tS) (B:=(jB (d/Nat.gcd k.natAbs d)).tS) iiz) kA fun a w s=>zBF (UF.eq (pO b 0)) rfl s kA (zCG (a:=⟨b,0,none⟩) iiz) kA fun a w s=>zBF (UF.eq (pO b 0)) rfl s kA (zAm (b:=b) (o:=0) 0 kA iiz) kA fun a w s=>zBF (UF.eq (pO b 0)) rfl s kA (zAm (b:=b) (o:=0) 0 kA iiz) kA fun a w s=>zBF (UF.eq (pO b 1)) rfl s kA (zAm (b:=b) (o:=0) 1 kA iiz) kA fun a w s=>zAc (c:=0) (o:=1) (kk:=1) (CU.agg (fQA m (decide (k<0)) (k.natAbs/Nat.gcd k.natAbs d) d)) ((jB (k.natAbs/Nat.gcd k.natAbs d)).tS) rfl s kA rfl rfl iiz iiz zUU fun a w s=>zBF (UF.eq (pO b 0)) rfl s kA (zCG (a:=⟨b,0,none⟩) iiz) kA fun a w s=>zBF (UF.eq (pO b 0)) rfl s kA (zAm (b:=b) (o:=0) 0 kA iiz) kA fun a w s=>zBF (UF.eq (pO b 2)) rfl s kA (zAm (b:=b) (o:=0) 2 kA iiz) kA fun a w s=>zAc (c:=0) (o:=2) (kk:=1) (CU.agg (fQN (mkRat k d))) ((jB (d/Nat.gcd k.natAbs d)).tS) rfl s kA rfl rfl iiz iiz (zUT (zCJ k d O).symm (zEb k d O).symm (zC5 k d O).symm) fun a w s=>zD rfl (hQ _ _ ?_)
 refine lQ ?_
 replace s:=s.drop [2]
 exact rgE ((2,.u (uB true))::[]) s
  (oc zE<|zB) fun a w5 s=>pU<|vH s (c:=0) (C:=CU.agg (fQN (mkRat k d))) rfl rfl rfl rfl iiz
theorem zFE(O:W.heap[b]?=some (.cells cs.toArray 98 (0,0)))(I:QVp m k d (.agg cs.toArray) W)(J:m<=2000)(U:Tab W):Calls prog 107 #[pO b 0] W (zO2 W b 98 (CU.agg (fQN (mkRat k d))) (uB (decide (0<d))).tS):=by
 rcases uH d with h|h
 .have:=zSZ O I J h
  rw[h,rZ,xY oA]
  exact this
 .rw[lI h]
  exact zS0 O I J h U
theorem zW8(h:QVp m k d v W)(hm:m<=2000)(O:Tab W):Calls prog 102 #[v] W (Ret W (wK W 98 (CU.agg (fQN (mkRat k d))))):=by
 refine z5 [(fQV m k d).tS] func102 rfl kA ⟨h,trivial⟩ fun a s=>lQ<|rgK 0 [] s
  zB fun a w1 s=>yN (CU.agg (fQV m k d)) rfl s kA (fun v W h=>zFJ h) fun b1 a w s=>yO (UF.eq (.pointer none)) rfl s kA iiz fun a w s=>zD rfl<|lQ<|rgK 2 ((4,.Z (fQV m k d))::(5,.u (fQV m k d))::[]) s
  (oc (zH (f:=fQV m k d) 3 kA (hz:=zRG _ _ _))<|oc (zFV (fun u W (hu:QVp m k d u W)=>zWy hu))<|zB) fun a w2 s=>yN (CU.agg (fQV m k d)) rfl s kA (fun v W h=>zFJ h) fun I a w s=>zW0 rfl s kA fun a w s=>zD rfl<|lQ<|rgK 1 ((7,.u (UF.eq (pO I 0)))::[]) s
  (oc (zA (fun _ _ _ h=>h.1))<|zB) fun a w3 s=>zG1 (c:=3) (CU.agg (fQN (mkRat k d))) (UF.any) rfl zC zOD s kA rfl rfl iiz (fun cs J h2=>?_) fun a w s=>?_
 .exact(zFE J h2 hm (O.below s.gr.below)).mono fun e w' ⟨v,g1,_,U⟩=>⟨v,g1,trivial,U⟩
 refine zD rfl<|lQ ?_
 replace s:=s.drop [2]
 exact rgE ((9,.s (wJ I (cg (fQN (mkRat k d)))))::(2,.u (UF.eq (pO I 0)))::[]) s
  (oc zA<|oc (zE (fun _ _ _ h=>h.1))<|zB) fun a w4 s=>pU<|vM s (t:=2) (c:=3) rfl rfl rfl iiz
theorem zQv(hh:W.heap[b]?=some (.cells cs.toArray 98 (0,0)))(hc:QNp q (.agg cs.toArray) W)(hd:W.heap[b']?=some (.cells cs'.toArray 98 (0,0)))(h4:QNp q' (.agg cs'.toArray) W)(he:b'≠b)(U:QB q m)(I:QB q' m')(hm:m+m'+1<=2000)(hT:Tab W):Calls prog 78 #[pO b 0,pO b' 0] W (zO2 W b 98 (CU.agg (fQN (q+q'))) SF.any):=by
 have bk:Bd (((q).num*((q').den:Int))+((q').num*((q).den:Int))) (m+m'+1):=U.num_add I
 rw[Rat.add_def']
 refine zHb b [(0,UF.eq (pO b 0)),(1,UF.eq (pO b' 0))] [⟨0,98,CU.agg (fQN q),b,false⟩,⟨1,98,CU.agg (fQN q'),b',true⟩] func78 rfl kA (fun x hx=>by simp at hx;rcases hx with rfl|rfl<;>exact⟨by simp,rfl⟩) ⟨⟨cs,rfl,.inr (.inr rfl),hh,hc,zCp (zJE hc U),fun y hy=>by simp at hy;subst hy;exact .inl he⟩,⟨cs',rfl,.inl rfl,hd,h4,zCp (zJE h4 I),fun y hy=>by cases hy⟩,trivial⟩ (fun x hx=>by simp at hx;rcases hx with rfl|rfl<;>simp) fun a s=>lQ<|yL [0,1,6,14,19] 32 ((4,.Z (UF.eq (pO b 0)))::(5,.s (wJ b (cg (fQN q))))::(6,.Y (fQN q))::(7,.X (fQN q) 0)::(8,.X (fQN q) 0)::(9,.Z (fNV ((q).num)))::(10,.s (wJ b' (cg (fQN q'))))::(11,.Y (fQN q'))::(12,.X (fQN q') 0)::(13,.X (fQN q') 2)::(14,.Z (jB ((q').den)))::(15,.Z (fNV ((q').den:Int)))::(16,.s (zL4 (m+m') [(q).num,((q').den:Int)]))::(17,.Z (fNV ((q).num*((q').den:Int))))::(18,.s (wJ b' (cg (fQN q'))))::(19,.Y (fQN q'))::(20,.X (fQN q') 0)::(21,.X (fQN q') 0)::(22,.Z (fNV ((q').num)))::(23,.s (wJ b (cg (fQN q))))::(24,.Y (fQN q))::(25,.X (fQN q) 0)::(26,.X (fQN q) 2)::(27,.Z (jB ((q).den)))::(28,.Z (fNV ((q).den:Int)))::(29,.s (zL4 (m+m') [(q').num,((q).den:Int)]))::(30,.Z (fNV ((q').num*((q).den:Int))))::(31,.s (zL4 (m+m') [((q).num*((q').den:Int)),((q').num*((q).den:Int))]))::(32,.u (fNV (((q).num*((q').den:Int))+((q').num*((q).den:Int)))))::(33,.Z (UF.eq (pO b 0)))::(34,.Z (UF.eq (pO b 0)))::(35,.u (UF.eq (pO b 0)))::[]) hmix s kA
  (oc (zA (fun _ _ _ h=>h.1))<|oc zA<|oc (zAw (C:=cg (fQN q)))<|oc (zN (C:=cg (fQN q)) 0 kA)<|oc (qJ (C:=cg (fQN q)) 0 0 kA)<|oc (zV (C:=cg (fQN q)) (k:=0) 2 kA (h:=zBk))<|oc zA<|oc (zAw (C:=cg (fQN q')))<|oc (zN (C:=cg (fQN q')) 0 kA)<|oc (qJ (C:=cg (fQN q')) 0 2 kA)<|oc (jU (C:=cg (fQN q')) (k:=2) kA (h:=zA2))<|oc (zG zC zLo (fun O W hb (J:qQ W O ((q').den))=>zGQ J))<|oc (yH (fun u v W (hu:NV W u ((q).num)) (hv:NV W v ((q').den:Int))=>zBo (NV.uv' hu (Bd.mono (U).1 (m':=(m+m')) (by first|omega|decide))) (NV.uv' hv (Bd.mono (jI I.2) (m':=(m+m')) (by first|omega|decide)))))<|oc (zG zC zI4 (fun O W hb (J:ISV W (m+m') O [(q).num,((q').den:Int)])=>zNT (k:=((q).num*((q').den:Int))) J (by show(m+m')*2+(m+m')+1<=40000;omega) fC fC))<|oc zA<|oc (zAw (C:=cg (fQN q')))<|oc (zN (C:=cg (fQN q')) 0 kA)<|oc (qJ (C:=cg (fQN q')) 0 0 kA)<|oc (zV (C:=cg (fQN q')) (k:=0) 2 kA (h:=zBk))<|oc zA<|oc (zAw (C:=cg (fQN q)))<|oc (zN (C:=cg (fQN q)) 0 kA)<|oc (qJ (C:=cg (fQN q)) 0 2 kA)<|oc (jU (C:=cg (fQN q)) (k:=2) kA (h:=zA2))<|oc (zG zC zLo (fun O W hb (J:qQ W O ((q).den))=>zGQ J))<|oc (yH (fun u v W (hu:NV W u ((q').num)) (hv:NV W v ((q).den:Int))=>zBo (NV.uv' hu (Bd.mono (I).1 (m':=(m+m')) (by first|omega|decide))) (NV.uv' hv (Bd.mono (jI U.2) (m':=(m+m')) (by first|omega|decide)))))<|oc (zG zC zI4 (fun O W hb (J:ISV W (m+m') O [(q').num,((q).den:Int)])=>zNT (k:=((q').num*((q).den:Int))) J (by show(m+m')*2+(m+m')+1<=40000;omega) fC fC))<|oc (yH (fun u v W (hu:NV W u ((q).num*((q').den:Int))) (hv:NV W v ((q').num*((q).den:Int)))=>zBo (NV.uv' hu (Bd.mono (Bd.mul (U).1 (jI I.2)) oA)) (NV.uv' hv (Bd.mono (Bd.mul (I).1 (jI U.2)) oA))))<|oc (zG zC zWl (fun O W hb (J:ISV W (m+m') O [((q).num*((q').den:Int)),((q').num*((q).den:Int))])=>zYb (k:=(((q).num*((q').den:Int))+((q').num*((q).den:Int)))) J oA fC fC))<|oc (zCG (a:=⟨b,0,none⟩) iiz)<|oc (zAm (b:=b) (o:=0) 0 kA iiz)<|oc (zAm (b:=b) (o:=0) 0 kA iiz)<|zB) fun Q' hQ a w1 s=>zAc (c:=0) (o:=0) (kk:=2) (CU.agg (fQK (((q).num*((q').den:Int))+((q').num*((q).den:Int))) ((q).den))) ((fNV (((q).num*((q').den:Int))+((q').num*((q).den:Int)))).tS) rfl s kA rfl rfl iiz iiz (zJt (k0:=q.num) (d:=q.den)) fun a w s=>zD rfl (hQ _ _ ?_)
 refine lQ<|yL [0,1,6] 15 ((36,.Z (UF.eq (pO b 0)))::(37,.s (wJ b (cg (fQK (((q).num*((q').den:Int))+((q').num*((q).den:Int))) ((q).den)))))::(38,.Y (fQK (((q).num*((q').den:Int))+((q').num*((q).den:Int))) ((q).den)))::(39,.X (fQK (((q).num*((q').den:Int))+((q').num*((q).den:Int))) ((q).den)) 0)::(40,.X (fQK (((q).num*((q').den:Int))+((q').num*((q).den:Int))) ((q).den)) 2)::(41,.Z (jB ((q).den)))::(42,.s (wJ b' (cg (fQN q'))))::(43,.Y (fQN q'))::(44,.X (fQN q') 0)::(45,.X (fQN q') 2)::(46,.Z (jB ((q').den)))::(47,.u (jB (((q).den)*((q').den))))::(48,.Z (UF.eq (pO b 0)))::(49,.Z (UF.eq (pO b 0)))::(50,.u (UF.eq (pO b 2)))::[]) hmix s kA
  (oc (zA (fun _ _ _ h=>h.1))<|oc zA<|oc (zAw (C:=cg (fQK (((q).num*((q').den:Int))+((q').num*((q).den:Int))) ((q).den))))<|oc (zN (C:=cg (fQK (((q).num*((q').den:Int))+((q').num*((q).den:Int))) ((q).den))) 0 kA)<|oc (qJ (C:=cg (fQK (((q).num*((q').den:Int))+((q').num*((q).den:Int))) ((q).den))) 0 2 kA)<|oc (jU (C:=cg (fQK (((q).num*((q').den:Int))+((q').num*((q).den:Int))) ((q).den))) (k:=2) kA (h:=zVj))<|oc zA<|oc (zAw (C:=cg (fQN q')))<|oc (zN (C:=cg (fQN q')) 0 kA)<|oc (qJ (C:=cg (fQN q')) 0 2 kA)<|oc (jU (C:=cg (fQN q')) (k:=2) kA (h:=zA2))<|oc (zI zC zR4 (fun O u1 W hb (J:qQ W O ((q).den)) (h1:qQ W u1 ((q').den))=>zVz (LV.mono (qQ.lv J U.2) (m':=(m+m')) oA) (LV.mono (qQ.lv h1 I.2) (m':=(m+m')) oA) oA))<|oc (zCG (a:=⟨b,0,none⟩) iiz)<|oc (zAm (b:=b) (o:=0) 0 kA iiz)<|oc (zAm (b:=b) (o:=0) 2 kA iiz)<|zB) fun Q' hQ a w2 s=>zAc (c:=0) (o:=2) (kk:=1) (CU.agg (fQK (((q).num*((q').den:Int))+((q').num*((q).den:Int))) (((q).den)*((q').den)))) ((jB (((q).den)*((q').den))).tS) rfl s kA rfl rfl iiz iiz zMJ fun a w s=>zD rfl (hQ _ _ ?_)
 refine rgK 1 ((51,.u (UF.eq (pO b 0)))::[]) s
  (oc (zA (fun _ _ _ h=>h.1))<|zB) fun a w3 s=>zG1 (c:=0) (CU.agg (fQN (mkRat (((q).num*((q').den:Int))+((q').num*((q).den:Int))) ((q).den*(q').den)))) (UF.any) rfl zC zOD s kA rfl rfl iiz (fun cs h1 h2=>?_) fun a w s=>?_
 .exact(zFE (m:=m+m'+1) h1 (zVi h2 bk (vU (U.den_mul I) (vZ qC oA))) oA (hT.bls hh (zJD (zJE hc U)) s.gr)).mono fun e w' ⟨v,g1,_,g2⟩=>⟨v,g1,trivial,g2⟩
 exact zD rfl<|vI s (c:=0) (C:=CU.agg (fQN (mkRat (((q).num*((q').den:Int))+((q').num*((q).den:Int))) ((q).den*(q').den)))) rfl rfl rfl rfl (fun _=>trivial)
theorem zQu(hh:W.heap[b]?=some (.cells cs.toArray 98 (0,0)))(hc:QNp q (.agg cs.toArray) W)(h7:W.heap[b']?=some (.cells cs'.toArray 98 (0,0)))(O:QNp q' (.agg cs'.toArray) W)(ha:b'≠b)(J:QB q m)(I:QB q' m')(hm:m+m'+1<=2000)(hT:Tab W):Calls prog 109 #[pO b 0,pO b' 0] W (zO2 W b 98 (CU.agg (fQN (q*q'))) SF.any):=by
 have bk:Bd ((q).num*(q').num) (m+m'+1):=(J.1.mul I.1).mono oA
 rw[Rat.mul_def']
 refine zHb b [(0,UF.eq (pO b 0)),(1,UF.eq (pO b' 0))] [⟨0,98,CU.agg (fQN q),b,false⟩,⟨1,98,CU.agg (fQN q'),b',true⟩] func109 rfl kA (fun x U=>by simp at U;rcases U with rfl|rfl<;>exact⟨by simp,rfl⟩) ⟨⟨cs,rfl,.inr (.inr rfl),hh,hc,zCp (zJE hc J),fun y hy=>by simp at hy;subst hy;exact .inl ha⟩,⟨cs',rfl,.inl rfl,h7,O,zCp (zJE O I),fun y hy=>by cases hy⟩,trivial⟩ (fun x U=>by simp at U;rcases U with rfl|rfl<;>simp) fun a s=>lQ<|yL [0,1,2,7,14,19] 28 ((4,.Z (UF.eq (pO b 0)))::(5,.u (UF.eq (pO b 0)))::(6,.s (wJ b (cg (fQN q))))::(7,.Y (fQN q))::(8,.X (fQN q) 0)::(9,.X (fQN q) 0)::(10,.Z (fNV ((q).num)))::(11,.s (wJ b' (cg (fQN q'))))::(12,.Y (fQN q'))::(13,.X (fQN q') 0)::(14,.X (fQN q') 0)::(15,.Z (fNV ((q').num)))::(16,.s (zL4 (m+m') [(q).num,(q').num]))::(17,.u (fNV ((q).num*(q').num)))::(18,.s (wJ b (cg (fQN q))))::(19,.Y (fQN q))::(20,.X (fQN q) 0)::(21,.X (fQN q) 2)::(22,.Z (jB ((q).den)))::(23,.s (wJ b' (cg (fQN q'))))::(24,.Y (fQN q'))::(25,.X (fQN q') 0)::(26,.X (fQN q') 2)::(27,.Z (jB ((q').den)))::(28,.u (jB (((q).den)*((q').den))))::(29,.Z (UF.eq (pO b 0)))::(30,.Z (UF.eq (pO b 0)))::(31,.u (UF.eq (pO b 0)))::[]) hmix s kA
  (oc (zA (fun _ _ _ h=>h.1))<|oc (zA (fun _ _ _ h=>h.1))<|oc zA<|oc (zAw (C:=cg (fQN q)))<|oc (zN (C:=cg (fQN q)) 0 kA)<|oc (qJ (C:=cg (fQN q)) 0 0 kA)<|oc (zV (C:=cg (fQN q)) (k:=0) 2 kA (h:=zBk))<|oc zA<|oc (zAw (C:=cg (fQN q')))<|oc (zN (C:=cg (fQN q')) 0 kA)<|oc (qJ (C:=cg (fQN q')) 0 0 kA)<|oc (zV (C:=cg (fQN q')) (k:=0) 2 kA (h:=zBk))<|oc (yH (fun u v W (hu:NV W u ((q).num)) (hv:NV W v ((q').num))=>zBo (NV.uv' hu (Bd.mono (J).1 (m':=(m+m')) (by first|omega|decide))) (NV.uv' hv (Bd.mono (I).1 (m':=(m+m')) (by first|omega|decide)))))<|oc (zG zC zI4 (fun u0 W hb (h0:ISV W (m+m') u0 [(q).num,(q').num])=>zNT (k:=((q).num*(q').num)) h0 (by show(m+m')*2+(m+m')+1<=40000;omega) fC fC))<|oc zA<|oc (zAw (C:=cg (fQN q)))<|oc (zN (C:=cg (fQN q)) 0 kA)<|oc (qJ (C:=cg (fQN q)) 0 2 kA)<|oc (jU (C:=cg (fQN q)) (k:=2) kA (h:=zA2))<|oc zA<|oc (zAw (C:=cg (fQN q')))<|oc (zN (C:=cg (fQN q')) 0 kA)<|oc (qJ (C:=cg (fQN q')) 0 2 kA)<|oc (jU (C:=cg (fQN q')) (k:=2) kA (h:=zA2))<|oc (zI zC zR4 (fun u0 u1 W hb (h0:qQ W u0 ((q).den)) (h1:qQ W u1 ((q').den))=>zVz (LV.mono (qQ.lv h0 J.2) (m':=(m+m')) oA) (LV.mono (qQ.lv h1 I.2) (m':=(m+m')) oA) oA))<|oc (zCG (a:=⟨b,0,none⟩) iiz)<|oc (zAm (b:=b) (o:=0) 0 kA iiz)<|oc (zAm (b:=b) (o:=0) 0 kA iiz)<|zB) fun Q' hQ a w1 s=>zAc (c:=0) (o:=0) (kk:=2) (CU.agg (fQK ((q).num*(q').num) ((q).den))) ((fNV ((q).num*(q').num)).tS) rfl s kA rfl rfl iiz iiz (zJt (k0:=q.num) (d:=q.den)) fun a w s=>zBF (UF.eq (pO b 0)) rfl s kA (zCG (a:=⟨b,0,none⟩) iiz) kA fun a w s=>zBF (UF.eq (pO b 0)) rfl s kA (zAm (b:=b) (o:=0) 0 kA iiz) kA fun a w s=>zBF (UF.eq (pO b 2)) rfl s kA (zAm (b:=b) (o:=0) 2 kA iiz) kA fun a w s=>zAc (c:=0) (o:=2) (kk:=1) (CU.agg (fQK ((q).num*(q').num) (((q).den)*((q').den)))) ((jB (((q).den)*((q').den))).tS) rfl s kA rfl rfl iiz iiz zMJ fun a w s=>zD rfl (hQ _ _ ?_)
 refine rgK 1 ((35,.u (UF.eq (pO b 0)))::[]) s
  (oc (zA (fun _ _ _ h=>h.1))<|zB) fun a w2 s=>zG1 (c:=0) (CU.agg (fQN (mkRat ((q).num*(q').num) ((q).den*(q').den)))) (UF.any) rfl zC zOD s kA rfl rfl iiz (fun cs h1 h2=>?_) fun a w s=>?_
 .exact(zFE (m:=m+m'+1) h1 (zVi h2 bk (vU (J.den_mul I) (vZ qC oA))) oA (hT.bls hh (zJD (zJE hc J)) s.gr)).mono fun e w' ⟨v,g1,_,g2⟩=>⟨v,g1,trivial,g2⟩
 exact zD rfl<|vI s (c:=0) (C:=CU.agg (fQN (mkRat ((q).num*(q').num) ((q).den*(q').den)))) rfl rfl rfl rfl (fun _=>trivial)
theorem zLK(h:RVp m q v W)(I:m<=2000)(O:Tab W):Calls prog 102 #[v] W (Ret W (wK W 98 (CU.agg (fQN q)))):=by
 obtain⟨k,d,J,rfl⟩:=h
 exact zW8 J I O
theorem zM8(h:RVp m q v W)(hm:m<=2000)(I:0<m)(U:Tab W):Calls prog 94 #[v] W (Ret W (fQN q).tS):=by
 have hq:QB q m:=h.qb I
 exact z5 [(fRV m q).tS] func94 rfl kA ⟨h,trivial⟩ fun a s=>lQ<|rgK 0 [] s
  zB fun a w1 s=>yN (CU.agg (fRV m q)) rfl s kA (fun v W h=>zBj h) fun b1 a w s=>z9 (CU.len 3) (cs:=zR3) kA rfl s kA (fun W=>rfl) rfl fun b2 a w s=>zD rfl<|lQ<|rgK 5 ((3,.Z (fRV m q))::(4,.s (wK w 98 (CU.agg (fQN q))))::(5,.Y (fQN q))::(6,.X (fQN q) 0)::(7,.u (fQN q))::[]) s
  (oc (zH (f:=fRV m q) 3 kA (hz:=j7 _ _))<|oc (zG zC zI5 (fun J W hb (O:RVp m q J W)=>(zLK O oA (U.below (s.up hb))).mono (wH (zCs hb.size))))<|oc (zAw (C:=cg (fQN q)) zGB)<|oc (zN (C:=cg (fQN q)) 0 kA)<|oc (zV (C:=cg (fQN q)) (k:=0) 3 kA (h:=zKJ))<|zB) fun a w2 s=>zR (CU.agg (fQN q)) ((fQN q).tS) rfl s kA rfl rfl rfl iiz iiz yJ fun a w s=>zD rfl<|pU<|wI s (CU.agg (fQN q)) rfl kA rfl rfl (qW _) (fun cs W h=>h)
theorem zM7(h:RVp m q v W)(hm:m<=2000)(J:0<m)(U:Tab W):Calls prog 90 #[v] W (Ret W (fI q.num.sign).tS):=by
 have hq:QB q m:=h.qb J
 refine z5 [(fRV m q).tS] func90 rfl kA ⟨h,trivial⟩ fun a s=>lQ<|rgK 0 [] s
  zB fun a w1 s=>yN (CU.agg (fRV m q)) rfl s kA (fun v W h=>zBj h) fun b1 a w s=>yO (uI 0) rfl s kA iiz fun a w s=>zD rfl<|lQ ?_
 replace s:=s.drop [2]
 exact rgE ((3,.Z (fRV m q))::(4,.s (wK w 98 (CU.agg (fQN q))))::(5,.Y (fQN q))::(6,.X (fQN q) 0)::(7,.X (fQN q) 0)::(8,.Z (fNV ((q).num)))::(9,.Z (uI (q.num.sign)))::(2,.u (uI (q.num.sign)))::[]) s
  (oc (zH (f:=fRV m q) 3 kA (hz:=j7 _ _))<|oc (zG zC zI5 (fun I W hb (O:RVp m q I W)=>(zLK O oA (U.below (s.up hb))).mono (wH (zCs hb.size))))<|oc (zAw (C:=cg (fQN q)) zGB)<|oc (zN (C:=cg (fQN q)) 0 kA)<|oc (qJ (C:=cg (fQN q)) 0 0 kA)<|oc (zV (C:=cg (fQN q)) (k:=0) 2 kA (h:=zBk))<|oc (zG zC zWg (fun I W hb (O:NV W I ((q).num))=>zFj (zUY (NV.uv' O (hq).1) oA)))<|oc zE<|zB) fun a w2 s=>pU<|wF s (t:=2) rfl iiz
theorem zRC(h:RVp m q v W)(h':RVp m q' v' W)(hm:m<=2000)(U:0<m)(hT:Tab W):Calls prog 123 #[v,v'] W (Ret W (fI (qsg q q')).tS):=by
 have hq:QB q m:=h.qb U
 have O:QB q' m:=h'.qb U
 refine z5 [(fRV m q).tS,(fRV m q').tS] func123 rfl kA ⟨h,h',trivial⟩ fun a s=>lQ<|rgK 0 [] s
  zB fun a w1 s=>yN (CU.agg (fRV m q)) rfl s kA (fun v W h=>zBj h) fun b2 a w s=>yN (CU.agg (fRV m q')) rfl s kA (fun v W h=>zBj h) fun b3 a w s=>yO (uI 0) rfl s kA iiz fun a w s=>zD rfl<|lQ ?_
 have so:=s.old;have sg:=s.gr
 refine rgL 6 ((7,.Z (fRV m q))::(8,.s (wK w 98 (CU.agg (fQN q))))::(9,.Z (fRV m q'))::(10,.s (wK w 98 (CU.agg (fQN q'))))::(5,.s (wK w 98 (CU.agg (fQN q))))::(6,.s (wK w 98 (CU.agg (fQN q'))))::[]) s
  (oc (zH (f:=fRV m q) 3 kA (hz:=j7 _ _))<|oc (zG zC zI5 (fun I W hb (J:RVp m q I W)=>(zLK J oA (hT.below (s.up hb))).mono (wH (zCs hb.size))))<|oc (zH (f:=fRV m q') 3 kA (hz:=j7 _ _))<|oc (zG zC zI5 (fun I W hb (J:RVp m q' I W)=>(zLK J oA (hT.below (s.up hb))).mono (wH (zCs hb.size))))<|oc zE<|oc zE<|zB) fun a w2 s hr=>?_
 obtain⟨b5,_,s⟩:=s.adopt true 5 (hr (_,_) mz4) sg (fun y hy=>.inl (so y hy))
 obtain⟨b6,_,s⟩:=s.adopt true 6 (hr (_,_) mz5) sg (fun y hy=>by rcases xS.1 hy with rfl|hy;exact .inr ⟨rfl,rfl⟩;exact .inl (so y hy))
 refine zD rfl<|lQ ?_
 replace s:=s.drop [4]
 exact rgE ((11,.s (wJ b5 (cg (fQN q))))::(12,.Y (fQN q))::(13,.X (fQN q) 0)::(14,.X (fQN q) 0)::(15,.Z (fNV ((q).num)))::(16,.s (wJ b6 (cg (fQN q'))))::(17,.Y (fQN q'))::(18,.X (fQN q') 0)::(19,.X (fQN q') 2)::(20,.Z (jB ((q').den)))::(21,.Z (fNV ((q').den:Int)))::(22,.s (zL4 (m+m) [(q).num,((q').den:Int)]))::(23,.Z (fNV ((q).num*((q').den:Int))))::(24,.s (wJ b6 (cg (fQN q'))))::(25,.Y (fQN q'))::(26,.X (fQN q') 0)::(27,.X (fQN q') 0)::(28,.Z (fNV ((q').num)))::(29,.s (wJ b5 (cg (fQN q))))::(30,.Y (fQN q))::(31,.X (fQN q) 0)::(32,.X (fQN q) 2)::(33,.Z (jB ((q).den)))::(34,.Z (fNV ((q).den:Int)))::(35,.s (zL4 (m+m) [(q').num,((q).den:Int)]))::(36,.Z (fNV ((q').num*((q).den:Int))))::(37,.Z (uI (qsg q q')))::(4,.u (uI (qsg q q')))::[]) s
  (oc zA<|oc (zAw (C:=cg (fQN q)))<|oc (zN (C:=cg (fQN q)) 0 kA)<|oc (qJ (C:=cg (fQN q)) 0 0 kA)<|oc (zV (C:=cg (fQN q)) (k:=0) 2 kA (h:=zBk))<|oc zA<|oc (zAw (C:=cg (fQN q')))<|oc (zN (C:=cg (fQN q')) 0 kA)<|oc (qJ (C:=cg (fQN q')) 0 2 kA)<|oc (jU (C:=cg (fQN q')) (k:=2) kA (h:=zA2))<|oc (zG zC zLo (fun I W hb (J:qQ W I ((q').den))=>zGQ J))<|oc (yH (fun u v W (hu:NV W u ((q).num)) (hv:NV W v ((q').den:Int))=>zBo (NV.uv' hu (Bd.mono (hq).1 (m':=(m+m)) (by first|omega|decide))) (NV.uv' hv (Bd.mono (jI O.2) (m':=(m+m)) (by first|omega|decide)))))<|oc (zG zC zI4 (fun I W hb (J:ISV W (m+m) I [(q).num,((q').den:Int)])=>zNT (k:=((q).num*((q').den:Int))) J (by show(m+m)*2+(m+m)+1<=40000;omega) fC fC))<|oc zA<|oc (zAw (C:=cg (fQN q')))<|oc (zN (C:=cg (fQN q')) 0 kA)<|oc (qJ (C:=cg (fQN q')) 0 0 kA)<|oc (zV (C:=cg (fQN q')) (k:=0) 2 kA (h:=zBk))<|oc zA<|oc (zAw (C:=cg (fQN q)))<|oc (zN (C:=cg (fQN q)) 0 kA)<|oc (qJ (C:=cg (fQN q)) 0 2 kA)<|oc (jU (C:=cg (fQN q)) (k:=2) kA (h:=zA2))<|oc (zG zC zLo (fun I W hb (J:qQ W I ((q).den))=>zGQ J))<|oc (yH (fun u v W (hu:NV W u ((q').num)) (hv:NV W v ((q).den:Int))=>zBo (NV.uv' hu (Bd.mono (O).1 (m':=(m+m)) (by first|omega|decide))) (NV.uv' hv (Bd.mono (jI hq.2) (m':=(m+m)) (by first|omega|decide)))))<|oc (zG zC zI4 (fun I W hb (J:ISV W (m+m) I [(q').num,((q).den:Int)])=>zNT (k:=((q').num*((q).den:Int))) J (by show(m+m)*2+(m+m)+1<=40000;omega) fC fC))<|oc (zI zC zV8 (fun I u1 W hb (J:NV W I ((q).num*((q').den:Int))) (h1:NV W u1 ((q').num*((q).den:Int)))=>zFj (zX6 (NV.uv' J (Bd.mul (hq).1 (jI O.2))) (NV.uv' h1 (Bd.mul (O).1 (jI hq.2))) oA)))<|oc zE<|zB) fun a w3 s=>pU<|wF s (t:=4) rfl iiz
theorem zU9(h:RVp m q v W)(hm:m<=2000)(U:0<m)(hT:Tab W):Calls prog 108 #[v] W (Ret W (fQN (-q)).tS):=by
 have hq:QB q m:=h.qb U
 refine z5 [(fRV m q).tS] func108 rfl kA ⟨h,trivial⟩ fun a s=>lQ<|rgK 0 [] s
  zB fun a w1 s=>yN (CU.agg (fRV m q)) rfl s kA (fun v W h=>zBj h) fun b1 a w s=>z9 (CU.len 3) (cs:=zR3) kA rfl s kA (fun W=>rfl) rfl fun b2 a w s=>zD rfl<|lQ ?_
 have so:=s.old;have sg:=s.gr
 refine rgL 3 ((4,.Z (fRV m q))::(5,.s (wK w 98 (CU.agg (fQN q))))::(3,.s (wK w 98 (CU.agg (fQN q))))::[]) s
  (oc (zH (f:=fRV m q) 3 kA (hz:=j7 _ _))<|oc (zG zC zI5 (fun J W hb (O:RVp m q J W)=>(zLK O oA (hT.below (s.up hb))).mono (wH (zCs hb.size))))<|oc zE<|zB) fun a w2 s hr=>?_
 obtain⟨I,_,s⟩:=s.adopt false 3 (hr (_,_) mz2) sg (fun y hy=>.inl (so y hy))
 exact zD rfl<|lQ<|rgK 10 ((6,.Z (UF.eq (pO I 0)))::(7,.s (wJ I (cg (fQN q))))::(8,.Y (fQN q))::(9,.X (fQN q) 0)::(10,.X (fQN q) 0)::(11,.Z (fNV ((q).num)))::(12,.u (fNV (-(q).num)))::(13,.Z (UF.eq (pO I 0)))::(14,.Z (UF.eq (pO I 0)))::(15,.u (UF.eq (pO I 0)))::[]) s
  (oc (zA (fun _ _ _ h=>h.1))<|oc zA<|oc (zAw (C:=cg (fQN q)))<|oc (zN (C:=cg (fQN q)) 0 kA)<|oc (qJ (C:=cg (fQN q)) 0 0 kA)<|oc (zV (C:=cg (fQN q)) (k:=0) 2 kA (h:=zBk))<|oc (zG zC zWa (fun J W hb (O:NV W J ((q).num))=>zXg (NV.uv' O (hq).1) oA))<|oc (zCG (a:=⟨I,0,none⟩) iiz)<|oc (zAm (b:=I) (o:=0) 0 kA iiz)<|oc (zAm (b:=I) (o:=0) 0 kA iiz)<|zB) fun a w3 s=>zAc (c:=3) (o:=0) (kk:=2) (CU.agg (fQN (-q))) ((fNV (-(q).num)).tS) rfl s kA rfl rfl iiz iiz (zJt (k0:=q.num) (d:=q.den)) fun a w s=>zD rfl<|lQ<|rgK 4 ((16,.s (wJ I (cg (fQN (-q)))))::(17,.Y (fQN (-q)))::(18,.X (fQN (-q)) 0)::(19,.u (fQN (-q)))::[]) s
  (oc zA<|oc (zAw (C:=cg (fQN (-q))))<|oc (zN (C:=cg (fQN (-q))) 0 kA)<|oc (zV (C:=cg (fQN (-q))) (k:=0) 3 kA (h:=zKJ))<|zB) fun a w4 s=>zR (CU.agg (fQN (-q))) ((fQN (-q)).tS) rfl s kA rfl rfl rfl iiz iiz yJ fun a w s=>zD rfl<|pU<|wI s (CU.agg (fQN (-q))) rfl kA rfl rfl (qW _) (fun cs W h=>h)
attribute [local go_sem] Oper.semAt_some qL yG
structure QRd(m:Nat)(w:World)(A:Option Addr)(n:Nat)(qs:List Rat):Prop where
 len:qs.length=n
 cells:∀i,i<n->∃b o c0 c1 c2 q,A=some ⟨b,o,none⟩/\w.cell? ⟨b,o+i*3,none⟩=some c0/\w.cell? ⟨b,o+i*3+1,none⟩=some c1/\w.cell? ⟨b,o+i*3+2,none⟩=some c2/\qs[i]?=some q/\RVp m q (.agg #[c0,c1,c2]) w
theorem RVp.keep(h:RVp m q v w)(O:∀p:Addr,p.block<w.heap.size->w'.cell? p=w.cell? p):RVp m q v w':=by
 obtain⟨k,d,⟨b,s,t,e,⟨sg,A,n,c,l,e1,U,h2⟩,A',n',c',l',e2,J,I⟩,h3⟩:=h
 exact⟨k,d,⟨b,s,t,e,⟨sg,A,n,c,l,e1,U.keep O,h2⟩,A',n',c',l',e2,J.keep O,I⟩,h3⟩
theorem QRd.keep(h:QRd m w A n qs)(I:∀p:Addr,p.block<w.heap.size->w'.cell? p=w.cell? p):QRd m w' A n qs:=
 ⟨h.len,fun i hi=>by
  obtain⟨b,o,c0,c1,c2,q,e,U,O,J,h1,h2⟩:=h.cells i hi
  exact⟨b,o,c0,c1,c2,q,e,(I _ (xJ w _ U)).trans U,(I _ (xJ w _ O)).trans O,(I _ (xJ w _ J)).trans J,h1,h2.keep I⟩⟩
theorem QRd.below(h:QRd m w A n qs)(hb:bW w w'):QRd m w' A n qs:=h.keep fun _ I=>hb.cell I
theorem RVp.below(h:RVp m q v w)(hb:bW w w'):RVp m q v w':=h.keep fun _ I=>hb.cell I
def qAt(qs:List Rat)(k:Nat):Rat:=(qs[k]?).getD 0
def zSm(W:WB)(B:Nat)(q:Rat):Prop:=∃cs:List WE,W.heap[B]?=some (.cells cs.toArray 98 (0,0))/\QNp q (.agg cs.toArray) W
theorem QNp.keepU(h:QNp q v w)(I:y9 w w'):QNp q v w':=(fQN q).us _ _ _ h I
def zY5(N0:Nat)(qs:List Rat)(k:Nat)(xs:Array WE)(W:WB):Prop:=∃B,xs=#[pO B 0]/\N0<=B/\zSm W B (qAt qs k)
theorem zKM(A:WG Addr)(n c:Nat)(w:WB):
  Calls prog 77 #[.slice A n c] w fun e w'=>e=.returned (.func (.func 101) #[] #[pO w.heap.size 0])/\w'=w.alloc (.cells #[.slice A n c] 73):=by
 go_enter func77,ntmps77
 go_wp2
 go_ret
 exact⟨rfl,rfl⟩
theorem zW9{I c1 c2:WE}(h:RVp m q (.agg #[I,c1,c2]) W)(U:m<=2000)(O:Tab W):Calls prog 102 #[.agg #[I,c1,c2]] W fun e w'=>∃B,e=.returned (pO B 0)/\W.heap.size<=B/\zSm w' B q/\bW W w':=
 (zLK h U O).mono fun _ _ ⟨_,e1,⟨B,cs,e2,J,h2,h3,_⟩,hb⟩=>⟨B,by rw[e1,e2],J,⟨cs,h2,h3⟩,hb⟩
theorem zGy(m:Nat)(hm:m<=2000)(A:WG Addr)(n c:Nat)(qs:List Rat)(b1:Nat)(w w0:WB)(h:QRd m w A n qs)(hT:Tab w)(hw0:bW w w0)(hn:n<=c)(hc:c<=9223372036854775807)
  (hc1:w0.cell? ⟨b1,0,none⟩=some (.slice A n c)){S:Nat->Prop}(hS:∀b,S b->b<w0.heap.size)(_hS1:S b1)(hSA:∀b,b<w.heap.size->S b):
  zRf prog 101 #[pO b1 0] (zY5 w0.heap.size qs) n (zF9 S) Mk (fun _=>True) w0:=by
 intro lp J W hW hJ hY h0
 have hl1:=zZ hc1
 have hw1:=(hW.cell (p:=⟨b1,0,none⟩) hl1).trans hc1
 refine zBT func101 rfl ?_
 simp only[ntmps101,bP,lW,mR,Nat.reduceAdd,Nat.reduceSub,mS,mT,mU,mV,lT,mO]
 gi_wp2
 gi_loopw [7] (fun i wr=>∃k:Nat,k<=n/\i=.int .i64 k/\J k wr/\yZ S w0 wr/\w0.heap.size<=wr.heap.size) (fun i _=>n-(intOf i).toNat)
 case atStart=>exact⟨0,vR _,rfl,h0,wT hW hS,hW.size⟩
 case round=>
  obtain⟨k,hk,rfl,hj,hb,hz⟩:=hrel
  by_cases hkn:k<n
  .have hkeep:∀p:Addr,p.block<w.heap.size->wr.cell? p=w.cell? p:=fun p hp=>(hb.cell (hSA _ hp)).trans (hw0.cell hp)
   obtain⟨b,o,c0,c1,c2,q,rfl,p0,p1,p2,hi,hr⟩:=(h.keep (w':=wr) hkeep).cells k hkn
   have hTr:Tab wr:=fun j hj=>(hkeep ⟨0,j,none⟩ (zZ (hT j hj))).trans (hT j hj)
   have hid1:qAt qs k=q:=by simp[qAt,hi]
   have hjk:=hJ k wr
   have hHI:=hid hi
   clear hi
   obtain⟨sg,A1,n1,d1,A2,n2,d2,rfl,rfl,rfl⟩:∃sg A1 n1 d1 A2 n2 d2,c0=.bool sg/\c1=.slice A1 n1 d1/\c2=.slice A2 n2 d2:=by
    obtain⟨k',d',hq,_⟩:=hr
    obtain⟨sg,A1,n1,d1,A2,n2,d2,e⟩:=zEA hq
    have:=vQ Array.toList (j5 e)
    simp at this
    exact⟨sg,A1,n1,d1,A2,n2,d2,this.1,this.2.1,this.2.2⟩
   gi_wp2_with (first|(gi_at_call 102;refine bG (xZ.2 (zW9 (hr.below (zCO _ _)) hm (hTr.below (zCO _ _)))) ?_;rintro e w2 ⟨B2,rfl,hB2,hn2,hb2⟩;have hmk:Mk wr w2:=((xF _ wr).alloc lr _).trans (hb2.mono fC);obtain⟨fn,tmps,assign,body,hy,hR⟩:=hY k w2 #[pO B2 0] hkn (hjk _ hj hmk) ⟨B2,rfl,xQ hz (xQ fC hB2),by rw[hid1];exact hn2⟩)|(refine hR.mono ?_;rintro e W3 ⟨rfl,hJ3,hk3⟩))
   refine⟨⟨k+1,by omega,rfl,hJ3,(hb.trans (wT hmk fun b hb=>vU (hS b hb) hz)).trans hk3.1,xQ hz (xQ hmk.size hk3.2)⟩,?_⟩
   simp[intOf]
   omega
  .obtain rfl:k=n:=by omega
   gi_wp2
   go_end0
   exact⟨⟨_,rfl⟩,hj,trivial⟩
def zDS(qs:List Rat):Nat->Rat
 |0=>0
 |k+1=>zDS qs k+qAt qs k
def jE(qs:List Rat):Nat->Rat
 |0=>1
 |k+1=>jE qs k*qAt qs k
def zUv(w:WB)(B0 P:Nat)(f:Nat->Rat)(k:Nat)(W:WB):Prop:=
 zSm W B0 (f k)/\Boxed W P 96 (pO B0 0)/\jD W w.heap.size 28 #[.bool false, sN, sN]/\bW w W/\P+2<=W.heap.size/\w.heap.size<B0
theorem zSm.abide{W':WB}{C:Nat}{row:WG Nat}(h:zSm W B q)(O:W.grownBy W' row)(J:∀r,row=some r->C<=r/\∃o,W.heap[r]?=some o/\o.isCells=false):zSm W' B q:=by
 obtain⟨cs,I,h2⟩:=h
 have hk:y9 W W':=fun p x hp=>zGK hp O J
 refine⟨cs,(O.block _ (xP.1 I).1 fun e=>?_).trans I,h2.keepU hk⟩
 obtain⟨_,o,U,hc⟩:=J _ e.symm
 rw[I]at U
 cases U
 cases hc
theorem zDZ(w:WB)(B0 P:Nat)(f:Nat->Rat){C:Nat}(O:w.heap.size<=C):OwnFrom C (zUv w B0 P f):=by
 rintro k W W' row ⟨U,h2,h3,h4,h5,h6⟩ I J
 exact⟨U.abide I J,qZ h2 I J,h3.abide I J,zAB h4 I lr O J,xQ h5 I.size,h6⟩
theorem zPU(m M:Nat)(A:WG Addr)(n c:Nat)(qs:List Rat)(w:WB)(h:QRd m w A n qs)(hn:n<=c)(hc:c<=9223372036854775807)(hm:m<=2000)(hm0:0<m)(hM:M+m+1<=2000)(hp:∀k,k<=n->QB (zDS qs k) M)(hT:Tab w):
  Calls prog 52 #[.slice A n c] w (Ret w (fQN (zDS qs n)).tS):=by
 refine jC func52 rfl ?_
 simp only[ntmps52,bP,lW,mR,Nat.reduceAdd,Nat.reduceSub,mS,mT,mU,mV,lT,mO]
 go_wp2_with (first|(go_at_call 51;refine(zPN 0 dA).mono ?_;rintro e w1 ⟨v1,rfl,hv1,hb1⟩;obtain⟨A1,n1,c1,A2,n2,c2,rfl⟩:=zC0 hv1)|(go_at_call 77;refine(zKM A n c _).mono ?_;rintro e w3 ⟨rfl,rfl⟩))
 have hv2:QNp 0 (.agg #[.bool false,.slice A1 n1 c1,.slice A2 n2 c2]) w1:=hv1
 obtain⟨W0,hW0⟩:∃W0,(((w1.alloc (.cells #[.bool false,.slice A1 n1 c1,.slice A2 n2 c2] 98)).alloc (.cells #[pO w1.heap.size 0] 96)).alloc (.cells #[.slice A n c] 73))=W0:=⟨_,rfl⟩
 have hsz:W0.heap.size=w1.heap.size+3:=by rw[<-hW0];simp
 have hbw1:bW w w1:=((xF _ w).alloc lr _).trans (hb1.mono fC)
 have hsz1:w.heap.size<w1.heap.size:=vU fC hb1.size
 have hb01:bW w1 W0:=by rw[<-hW0];exact(((xF _ w1).alloc lr _).alloc fC _).alloc (by simp;omega) _
 have hB1:bW w W0:=hbw1.trans (hb01.mono hbw1.size)
 have x0:zSm W0 w1.heap.size 0:=⟨[_,_,_],(by rw[<-hW0];exact((jD.new w1 _ #[.bool false,.slice A1 n1 c1,.slice A2 n2 c2]).alloc _).alloc _),hv2.keepU (zO hb01)⟩
 have x1:Boxed W0 (w1.heap.size+1) 96 (pO w1.heap.size 0):=by rw[<-hW0];exact(zAI _ _ _ fC).alloc _
 have x2:Boxed W0 (w1.heap.size+1+1) 73 (.slice A n c):=by rw[<-hW0];exact zAI _ _ _ fC
 have x3:jD W0 w.heap.size 28 #[.bool false, sN, sN]:=(jD.kept (jD.kept (jD.new w _ _) hb1) hb01)
 rw[hW0]
 clear hW0
 have hSb:∀b,(b<w.heap.size∨b=w1.heap.size+1+1)->b<W0.heap.size:=fun b hb=>by have:=hbw1.size;omega
 refine zCS (gf:=101) rfl (enters_of func101 kA rfl) (zGy m hm A n c qs (w1.heap.size+1+1) w W0 h hT hB1 hn hc x2.cell (S:=fun b=>b<w.heap.size∨b=w1.heap.size+1+1) hSb (.inr rfl) (fun b hb=>.inl hb)) ?hE ?hps zF9.trans (zHH hSb)
  (zUv w w1.heap.size (w1.heap.size+1) (zDS qs)) (zDZ w _ _ _ hB1.size) (zBU (zDZ w _ _ _ lr)) wS (fun _ _ _ _ _ _ _ _=>trivial) ⟨x0,x1,x3,hB1,by omega,hsz1⟩
  (fun xs=>{ tmps:=#[.slice A n c,undef,pO w.heap.size 0,.pointer (some ⟨w1.heap.size+1,0,none⟩),xs.getD 0 undef,.agg #[.bool false,.slice A1 n1 c1,.slice A2 n2 c2],.agg #[.bool false,.slice A1 n1 c1,.slice A2 n2 c2],pO w1.heap.size 0,.slice A n c,.func (.func 101) #[] #[.pointer (some ⟨w1.heap.size+1+1,0,none⟩)],xs.getD 0 undef,undef,undef,undef,undef,undef,undef,undef],defers:=[] }) ?assign ?body ?done
 case hE=>
  rintro k xs W l o o' ⟨B,rfl,h1,h2⟩ ho hc
  exact⟨B,rfl,h1,h2.abide (C:=0) (eU W l o') (fun r e=>by cases e;exact⟨vR _,o,ho,hc⟩)⟩
 case hps=>
  rintro k xs W ⟨B,rfl,_⟩
  rfl
 case assign=>
  rintro lp k xs W K ⟨B,rfl,h1,h2⟩ hK
  gi_wp2
  exact hK
 case body=>
  rintro lp k xs W hk ⟨h1,h2,h3,h4,h5,h6⟩ ⟨B,rfl,hB,hnb⟩
  have hc2:=h2.cell
  have hne:B≠w1.heap.size:=by omega
  have hbd:=hp k (nL hk)
  have hbd2:QB (qAt qs k) m:=by
   obtain⟨_,_,_,_,_,q,_,_,_,_,e,hr⟩:=h.cells k hk
   rw[show qAt qs k=q from by simp[qAt,e]]
   exact hr.qb hm0
  have hTW:Tab W:=hT.below h4
  gi_wp2_with (gi_at_call 78;refine bG (xZ.2 (by
   obtain⟨cs,g1,g2⟩:=h1
   obtain⟨cs',g1',g2'⟩:=hnb
   exact zQv g1 g2 g1' g2' hne hbd hbd2 oA hTW)) ?_;rintro e w3 ⟨u,rfl,_,hg3,cs3,hh3,hc3,_⟩)
  refine⟨(eH hg3 (fun j o e ho=>by cases e;obtain⟨cs,g1,_⟩:=h1;rw[g1]at ho;cases ho;rfl)).from _,⟨(yZ.refl _ _).grown hg3 (fun b hb=>⟨by have:=h4.size;rcases hb with hb|hb<;>omega,fun e=>by have:=nO e;omega⟩),hg3.size⟩,⟨cs3,hh3,hc3⟩,h2.kept hg3 (fun e=>by have:=nO e;omega),(hg3.block _ h3.lt (fun e=>by have:=nO e;omega)).trans h3,zAY h4 hg3 h4.size oA,xQ h5 hg3.size,h6⟩
 case done=>
  rintro D W hD ⟨h1,h2,h3,h4,h5,h6⟩ _ hd
  obtain⟨cs,hh,hq⟩:=h1
  obtain⟨A3,n3,c3,A4,n4,c4,ecs⟩:=zC0 hq
  have ecs:=vQ Array.toList (j5 ecs)
  simp at ecs
  subst ecs
  obtain⟨g0,g1,g2⟩:W.cell? ⟨w1.heap.size,0,none⟩=some (.bool (decide ((zDS qs n).num<0)))/\W.cell? ⟨w1.heap.size,0+1,none⟩=some (.slice A3 n3 c3)/\W.cell? ⟨w1.heap.size,0+2,none⟩=some (.slice A4 n4 c4):=⟨zBd hh 0 _ rfl,zBd hh 1 _ rfl,zBd hh 2 _ rfl⟩
  simp only[uL]at g1 g2
  have hc2:=h2.cell
  have q0:W.cell? ⟨w.heap.size,0,none⟩=some (.bool false):=h3.cell 0
  have q1:W.cell? ⟨w.heap.size,1,none⟩=some (sN):=h3.cell 1
  have q2:W.cell? ⟨w.heap.size,2,none⟩=some (sN):=h3.cell 2
  have q3:=h3.frozen 0;have q4:=h3.frozen 1;have q5:=h3.frozen 2
  go_wp2
  have hb5:jD (((W.setCell ⟨w.heap.size,0,none⟩ (.bool (decide ((zDS qs n).num<0)))).setCell ⟨w.heap.size,1,none⟩ (.slice A3 n3 c3)).setCell ⟨w.heap.size,2,none⟩ (.slice A4 n4 c4)) w.heap.size 28 #[.bool (decide ((zDS qs n).num<0)),.slice A3 n3 c3,.slice A4 n4 c4]:=((h3.set 0 _).set 1 _).set 2 _
  have hM2:Marks w.heap.size (((W.setCell ⟨w.heap.size,0,none⟩ (.bool (decide ((zDS qs n).num<0)))).setCell ⟨w.heap.size,1,none⟩ (.slice A3 n3 c3)).setCell ⟨w.heap.size,2,none⟩ (.slice A4 n4 c4)) [mark D] [D]:=((Marks.nil w.heap.size W).more (D:=D) fC (by have:=hB1.size;omega) hd).others (((bO _ _ _).trans (bO _ _ _)).trans (bO _ _ _))
  have hrow:∀(W':WB) (i:Nat) (v u:WE),W'.cell? ⟨w.heap.size,i,none⟩=some u->zX u=true->y9 W' (W'.setCell ⟨w.heap.size,i,none⟩ v):=fun W' i v u hu hn p x hp=>(nS _ _ _ _ (fun e=>by rw[<-e]at hp;rw[hu]at hp;cases hp;cases hn)).trans hp
  have hk3:y9 W (((W.setCell ⟨w.heap.size,0,none⟩ (.bool (decide ((zDS qs n).num<0)))).setCell ⟨w.heap.size,1,none⟩ (.slice A3 n3 c3)).setCell ⟨w.heap.size,2,none⟩ (.slice A4 n4 c4)):=((hrow _ _ _ _ q0 rfl).trans (hrow _ _ _ _ ((h3.set 0 _).cell 1) rfl)).trans (hrow _ _ _ _ (((h3.set 0 _).set 1 _).cell 2) rfl)
  have hq3:=hq.keepU hk3
  have hb3:bW w (((W.setCell ⟨w.heap.size,0,none⟩ (.bool (decide ((zDS qs n).num<0)))).setCell ⟨w.heap.size,1,none⟩ (.slice A3 n3 c3)).setCell ⟨w.heap.size,2,none⟩ (.slice A4 n4 c4)):=((h4.setCell lr _).setCell lr _).setCell lr _
  generalize((W.setCell ⟨w.heap.size,0,none⟩ (.bool (decide ((zDS qs n).num<0)))).setCell ⟨w.heap.size,1,none⟩ (.slice A3 n3 c3)).setCell ⟨w.heap.size,2,none⟩ (.slice A4 n4 c4)=W9 at*
  refine qH _ (v:=.agg #[.bool (decide ((zDS qs n).num<0)),.slice A3 n3 c3,.slice A4 n4 c4]) (fun w' ho'=>?_) [D] _ _ hM2 (Oth.refl _ _) ?_
  .have h7:=hb5.oth ho'
   have:=zHc (P:=prog) (w:=w') (t:=28) (k:=3) kA (vs:=[.bool (decide ((zDS qs n).num<0)),.slice A3 n3 c3,.slice A4 n4 c4]) rfl h7
   simp[results,results52,asAddr,this]
  .intro w' ho
   exact⟨_,rfl,hq3.keepU (fun p x hp=>(ho.cell p).trans hp),zAj hb3 ho lr⟩
theorem zPT(m M:Nat)(A:WG Addr)(n c:Nat)(qs:List Rat)(w:WB)(h:QRd m w A n qs)(hn:n<=c)(hc:c<=9223372036854775807)(hm:m<=2000)(hm0:0<m)(hM:M+m+1<=2000)(hp:∀k,k<=n->QB (jE qs k) M)(hT:Tab w):
  Calls prog 80 #[.slice A n c] w (Ret w (fQN (jE qs n)).tS):=by
 refine jC func80 rfl ?_
 simp only[ntmps80,bP,lW,mR,Nat.reduceAdd,Nat.reduceSub,mS,mT,mU,mV,lT,mO]
 go_wp2_with (first|(go_at_call 51;refine(zPN 1 dA).mono ?_;rintro e w1 ⟨v1,rfl,hv1,hb1⟩;obtain⟨A1,n1,c1,A2,n2,c2,rfl⟩:=zC0 hv1)|(go_at_call 77;refine(zKM A n c _).mono ?_;rintro e w3 ⟨rfl,rfl⟩))
 have hv2:QNp 1 (.agg #[.bool false,.slice A1 n1 c1,.slice A2 n2 c2]) w1:=hv1
 obtain⟨W0,hW0⟩:∃W0,(((w1.alloc (.cells #[.bool false,.slice A1 n1 c1,.slice A2 n2 c2] 98)).alloc (.cells #[pO w1.heap.size 0] 96)).alloc (.cells #[.slice A n c] 73))=W0:=⟨_,rfl⟩
 have hsz:W0.heap.size=w1.heap.size+3:=by rw[<-hW0];simp
 have hbw1:bW w w1:=((xF _ w).alloc lr _).trans (hb1.mono fC)
 have hsz1:w.heap.size<w1.heap.size:=vU fC hb1.size
 have hb01:bW w1 W0:=by rw[<-hW0];exact(((xF _ w1).alloc lr _).alloc fC _).alloc (by simp;omega) _
 have hB1:bW w W0:=hbw1.trans (hb01.mono hbw1.size)
 have x0:zSm W0 w1.heap.size 1:=⟨[_,_,_],(by rw[<-hW0];exact((jD.new w1 _ #[.bool false,.slice A1 n1 c1,.slice A2 n2 c2]).alloc _).alloc _),hv2.keepU (zO hb01)⟩
 have x1:Boxed W0 (w1.heap.size+1) 96 (pO w1.heap.size 0):=by rw[<-hW0];exact(zAI _ _ _ fC).alloc _
 have x2:Boxed W0 (w1.heap.size+1+1) 73 (.slice A n c):=by rw[<-hW0];exact zAI _ _ _ fC
 have x3:jD W0 w.heap.size 28 #[.bool false, sN, sN]:=(jD.kept (jD.kept (jD.new w _ _) hb1) hb01)
 rw[hW0]
 clear hW0
 have hSb:∀b,(b<w.heap.size∨b=w1.heap.size+1+1)->b<W0.heap.size:=fun b hb=>by have:=hbw1.size;omega
 refine zCS (gf:=101) rfl (enters_of func101 kA rfl) (zGy m hm A n c qs (w1.heap.size+1+1) w W0 h hT hB1 hn hc x2.cell (S:=fun b=>b<w.heap.size∨b=w1.heap.size+1+1) hSb (.inr rfl) (fun b hb=>.inl hb)) ?hE ?hps zF9.trans (zHH hSb)
  (zUv w w1.heap.size (w1.heap.size+1) (jE qs)) (zDZ w _ _ _ hB1.size) (zBU (zDZ w _ _ _ lr)) wS (fun _ _ _ _ _ _ _ _=>trivial) ⟨x0,x1,x3,hB1,by omega,hsz1⟩
  (fun xs=>{ tmps:=#[.slice A n c,undef,pO w.heap.size 0,.pointer (some ⟨w1.heap.size+1,0,none⟩),xs.getD 0 undef,.agg #[.bool false,.slice A1 n1 c1,.slice A2 n2 c2],.agg #[.bool false,.slice A1 n1 c1,.slice A2 n2 c2],pO w1.heap.size 0,.slice A n c,.func (.func 101) #[] #[.pointer (some ⟨w1.heap.size+1+1,0,none⟩)],xs.getD 0 undef,undef,undef,undef,undef,undef,undef,undef],defers:=[] }) ?assign ?body ?done
 case hE=>
  rintro k xs W l o o' ⟨B,rfl,h1,h2⟩ ho hc
  exact⟨B,rfl,h1,h2.abide (C:=0) (eU W l o') (fun r e=>by cases e;exact⟨vR _,o,ho,hc⟩)⟩
 case hps=>
  rintro k xs W ⟨B,rfl,_⟩
  rfl
 case assign=>
  rintro lp k xs W K ⟨B,rfl,h1,h2⟩ hK
  gi_wp2
  exact hK
 case body=>
  rintro lp k xs W hk ⟨h1,h2,h3,h4,h5,h6⟩ ⟨B,rfl,hB,hnb⟩
  have hc2:=h2.cell
  have hne:B≠w1.heap.size:=by omega
  have hbd:=hp k (nL hk)
  have hbd2:QB (qAt qs k) m:=by
   obtain⟨_,_,_,_,_,q,_,_,_,_,e,hr⟩:=h.cells k hk
   rw[show qAt qs k=q from by simp[qAt,e]]
   exact hr.qb hm0
  have hTW:Tab W:=hT.below h4
  gi_wp2_with (gi_at_call 109;refine bG (xZ.2 (by
   obtain⟨cs,g1,g2⟩:=h1
   obtain⟨cs',g1',g2'⟩:=hnb
   exact zQu g1 g2 g1' g2' hne hbd hbd2 oA hTW)) ?_;rintro e w3 ⟨u,rfl,_,hg3,cs3,hh3,hc3,_⟩)
  refine⟨(eH hg3 (fun j o e ho=>by cases e;obtain⟨cs,g1,_⟩:=h1;rw[g1]at ho;cases ho;rfl)).from _,⟨(yZ.refl _ _).grown hg3 (fun b hb=>⟨by have:=h4.size;rcases hb with hb|hb<;>omega,fun e=>by have:=nO e;omega⟩),hg3.size⟩,⟨cs3,hh3,hc3⟩,h2.kept hg3 (fun e=>by have:=nO e;omega),(hg3.block _ h3.lt (fun e=>by have:=nO e;omega)).trans h3,zAY h4 hg3 h4.size oA,xQ h5 hg3.size,h6⟩
 case done=>
  rintro D W hD ⟨h1,h2,h3,h4,h5,h6⟩ _ hd
  obtain⟨cs,hh,hq⟩:=h1
  obtain⟨A3,n3,c3,A4,n4,c4,ecs⟩:=zC0 hq
  have ecs:=vQ Array.toList (j5 ecs)
  simp at ecs
  subst ecs
  obtain⟨g0,g1,g2⟩:W.cell? ⟨w1.heap.size,0,none⟩=some (.bool (decide ((jE qs n).num<0)))/\W.cell? ⟨w1.heap.size,0+1,none⟩=some (.slice A3 n3 c3)/\W.cell? ⟨w1.heap.size,0+2,none⟩=some (.slice A4 n4 c4):=⟨zBd hh 0 _ rfl,zBd hh 1 _ rfl,zBd hh 2 _ rfl⟩
  simp only[uL]at g1 g2
  have hc2:=h2.cell
  have q0:W.cell? ⟨w.heap.size,0,none⟩=some (.bool false):=h3.cell 0
  have q1:W.cell? ⟨w.heap.size,1,none⟩=some (sN):=h3.cell 1
  have q2:W.cell? ⟨w.heap.size,2,none⟩=some (sN):=h3.cell 2
  have q3:=h3.frozen 0;have q4:=h3.frozen 1;have q5:=h3.frozen 2
  go_wp2
  have hb5:jD (((W.setCell ⟨w.heap.size,0,none⟩ (.bool (decide ((jE qs n).num<0)))).setCell ⟨w.heap.size,1,none⟩ (.slice A3 n3 c3)).setCell ⟨w.heap.size,2,none⟩ (.slice A4 n4 c4)) w.heap.size 28 #[.bool (decide ((jE qs n).num<0)),.slice A3 n3 c3,.slice A4 n4 c4]:=((h3.set 0 _).set 1 _).set 2 _
  have hM2:Marks w.heap.size (((W.setCell ⟨w.heap.size,0,none⟩ (.bool (decide ((jE qs n).num<0)))).setCell ⟨w.heap.size,1,none⟩ (.slice A3 n3 c3)).setCell ⟨w.heap.size,2,none⟩ (.slice A4 n4 c4)) [mark D] [D]:=((Marks.nil w.heap.size W).more (D:=D) fC (by have:=hB1.size;omega) hd).others (((bO _ _ _).trans (bO _ _ _)).trans (bO _ _ _))
  have hrow:∀(W':WB) (i:Nat) (v u:WE),W'.cell? ⟨w.heap.size,i,none⟩=some u->zX u=true->y9 W' (W'.setCell ⟨w.heap.size,i,none⟩ v):=fun W' i v u hu hn p x hp=>(nS _ _ _ _ (fun e=>by rw[<-e]at hp;rw[hu]at hp;cases hp;cases hn)).trans hp
  have hk3:y9 W (((W.setCell ⟨w.heap.size,0,none⟩ (.bool (decide ((jE qs n).num<0)))).setCell ⟨w.heap.size,1,none⟩ (.slice A3 n3 c3)).setCell ⟨w.heap.size,2,none⟩ (.slice A4 n4 c4)):=((hrow _ _ _ _ q0 rfl).trans (hrow _ _ _ _ ((h3.set 0 _).cell 1) rfl)).trans (hrow _ _ _ _ (((h3.set 0 _).set 1 _).cell 2) rfl)
  have hq3:=hq.keepU hk3
  have hb3:bW w (((W.setCell ⟨w.heap.size,0,none⟩ (.bool (decide ((jE qs n).num<0)))).setCell ⟨w.heap.size,1,none⟩ (.slice A3 n3 c3)).setCell ⟨w.heap.size,2,none⟩ (.slice A4 n4 c4)):=((h4.setCell lr _).setCell lr _).setCell lr _
  generalize((W.setCell ⟨w.heap.size,0,none⟩ (.bool (decide ((jE qs n).num<0)))).setCell ⟨w.heap.size,1,none⟩ (.slice A3 n3 c3)).setCell ⟨w.heap.size,2,none⟩ (.slice A4 n4 c4)=W9 at*
  refine qH _ (v:=.agg #[.bool (decide ((jE qs n).num<0)),.slice A3 n3 c3,.slice A4 n4 c4]) (fun w' ho'=>?_) [D] _ _ hM2 (Oth.refl _ _) ?_
  .have h7:=hb5.oth ho'
   have:=zHc (P:=prog) (w:=w') (t:=28) (k:=3) kA (vs:=[.bool (decide ((jE qs n).num<0)),.slice A3 n3 c3,.slice A4 n4 c4]) rfl h7
   simp[results,results80,asAddr,this]
  .intro w' ho
   exact⟨_,rfl,hq3.keepU (fun p x hp=>(ho.cell p).trans hp),zAj hb3 ho lr⟩
def fQS(m:Nat)(qs:List Rat):SF:=⟨fun v W=>∃A c,v=.slice A qs.length c/\qs.length<=c/\c<=9223372036854775807/\QRd m W A qs.length qs,fun _ _ _ ⟨A,c,h1,h2,h3,h4⟩ hb=>⟨A,c,h1,h2,h3,h4.below hb⟩⟩
theorem zRy(s s':Bool)(A A' D D':WG Addr)(n n' c c' i I j J:Nat):yD prog 73 2 [(0,.agg #[.bool s,.slice A n c,.slice D i j]),(1,.agg #[.bool s',.slice A' n' c',.slice D' I J])]=some (28,#[.bool s,.slice A n c,.slice D i j,.bool s',.slice A' n' c',.slice D' I J]):=by kernel_rfl
theorem zFy(U:RVp m p u W)(hv:RVp m q v W):∃e cs,yD prog 73 2 [(0,u),(1,v)]=some (e,cs)/\(fQS m [p,q]).p (.slice (some ⟨W.heap.size,0,none⟩) 2 2) (W.alloc (.cells cs e)):=by
 obtain⟨k,d,h1,h2⟩:=id U
 obtain⟨k',d',I,h2'⟩:=id hv
 obtain⟨s,A,n,c,D,i,j,rfl⟩:=zEA h1
 obtain⟨s',A',n',c',D',J,O,rfl⟩:=zEA I
 refine⟨_,_,zRy s s' A A' D D' n n' c c' i J j O,some ⟨W.heap.size,0,none⟩,2,rfl,vP _,by decide,rfl,fun x hx=>?_⟩
 have hb:=zCO W (.cells #[.bool s,.slice A n c,.slice D i j,.bool s',.slice A' n' c',.slice D' J O] 28)
 rcases(by simp at hx;omega:x=0∨x=1)with rfl|rfl
 .exact⟨_,0,_,_,_,p,rfl,zBt W _ _ 0 _ rfl,zBt W _ _ 1 _ rfl,zBt W _ _ 2 _ rfl,rfl,U.below hb⟩
 .exact⟨_,0,_,_,_,q,rfl,zBt W _ _ 3 _ rfl,zBt W _ _ 4 _ rfl,zBt W _ _ 5 _ rfl,rfl,hv.below hb⟩
theorem zU8(M:Nat)(h:(fQS m qs).p v W)(I:0<m)(hM:M+m+1<=2000)(U:∀k,k<=qs.length->QB (zDS qs k) M)(O:Tab W):Calls prog 52 #[v] W (Ret W (fQN (zDS qs qs.length)).tS):=by
 obtain⟨A,c,rfl,J,h2,h3⟩:=h
 exact zPU m M A qs.length c qs W h3 J h2 oA I hM U O
theorem zS1(M:Nat)(h:(fQS m qs).p v W)(I:0<m)(hM:M+m+1<=2000)(U:∀k,k<=qs.length->QB (jE qs k) M)(O:Tab W):Calls prog 80 #[v] W (Ret W (fQN (jE qs qs.length)).tS):=by
 obtain⟨A,c,rfl,J,h2,h3⟩:=h
 exact zPT m M A qs.length c qs W h3 J h2 oA I hM U O
theorem QB.zero(I:0<m):QB 0 m:=⟨uN qC,zD6 I⟩
theorem QB.one(I:0<m):QB 1 m:=⟨zD6 I,zD6 I⟩
theorem zTq(p q:Rat):zDS [p,q] 2=p+q:=by
 show(0+p)+q=_
 rw[Rat.zero_add]
theorem zNn(p q:Rat):jE [p,q] 2=p*q:=by
 show(1*p)*q=_
 rw[tW]
theorem zJz(h:(fQS m [p,q]).p v W)(I:QB p m)(U:QB q m)(hm:3*m+2<=2000)(O:Tab W):Calls prog 52 #[v] W (Ret W (fQN (p+q)).tS):=by
 have:=zU8 (m+m+1) h I.pos oA (fun k J=>by
  rcases(by simp at J;omega:k=0∨k=1∨k=2)with rfl|rfl|rfl
  .exact QB.zero oA
  .show QB (0+p) _
   rw[Rat.zero_add]
   exact I.mono oA
  .rw[zTq]
   exact I.add U) O
 rw[show([p,q]:List Rat).length=2 from rfl,zTq]at this
 exact this
theorem zM1(h:(fQS m [p,q]).p v W)(I:QB p m)(U:QB q m)(hm:3*m+2<=2000)(O:Tab W):Calls prog 80 #[v] W (Ret W (fQN (p*q)).tS):=by
 have:=zS1 (m+m) h I.pos oA (fun k J=>by
  have:=I.pos
  rcases(by simp at J;omega:k=0∨k=1∨k=2)with rfl|rfl|rfl
  .exact QB.one oA
  .show QB (1*p) _
   rw[tW]
   exact I.mono oA
  .rw[zNn]
   exact I.mul U) O
 rw[show([p,q]:List Rat).length=2 from rfl,zNn]at this
 exact this
theorem zS8(p q:Rat):mkRat ((p).num*(if decide ((q).num<0)then -((q).den:Int)else((q).den:Int))) ((p).den*(q).num.natAbs)=p/q:=by
 have hp:p=(p.num:Rat)/(p.den:Rat):=by
  have:=sE p
  rw[Rat.mkRat_eq_div]at this
  exact this.symm
 have I:q⁻¹=mkRat (if decide (q.num<0)then -(q.den:Int)else(q.den:Int)) q.num.natAbs:=by
  rw[Rat.inv_def]
  by_cases h:q.num<0
  .rw[lI h,if_pos rfl,<-sJ,<-Rat.divInt_neg']
   congr 1
   omega
  .rw[xY h,if_neg dA,<-sJ]
   congr 1
   omega
 rw[rW,I]
 conv=>rhs;rw[<-sE p]
 rw[Rat.mkRat_mul_mkRat]
theorem zRB(h:RVp m q v W)(h':RVp m q' v' W)(hm:m<=650)(I:0<m)(hT:Tab W):Calls prog 79 #[v,v'] W (Ret W (fQN (q-q')).tS):=by
 have hq:QB q m:=h.qb I
 have J:QB q' m:=h'.qb I
 refine z5 [(fRV m q).tS,(fRV m q').tS] func79 rfl kA ⟨h,h',trivial⟩ fun a s=>lQ<|rgK 0 [] s
  zB fun a w1 s=>yN (CU.agg (fRV m q)) rfl s kA (fun v W h=>zBj h) fun b2 a w s=>yN (CU.agg (fRV m q')) rfl s kA (fun v W h=>zBj h) fun b3 a w s=>z9 (CU.len 3) (cs:=zR3) kA rfl s kA (fun W=>rfl) rfl fun b4 a w s=>zD rfl<|lQ<|yL [] 5 ((5,.Z (fRV m q))::(6,.Z (fRV m q'))::(7,.Z (fQN (-q')))::(8,.s (fQS m [q,(-q')]))::(9,.u (fQN (q+ -q')))::[]) hmix s kA
  (oc (zH (f:=fRV m q) 3 kA (hz:=j7 _ _))<|oc (zH (f:=fRV m q') 3 kA (hz:=j7 _ _))<|oc (zG zC zWk (fun O W hb (U:RVp m q' O W)=>zU9 U oA I (hT.below (s.up hb))))<|oc (yH (fun u v W (hu:RVp m q u W) (hv:QNp (-q') v W)=>zFy hu (wL hv J.neg)))<|oc (zG zC zT6 (fun O W hb (U:(fQS m [q,(-q')]).p O W)=>zJz U hq J.neg oA (hT.below (s.up hb))))<|zB) fun Q' hQ a w2 s=>zR (CU.agg (fQN (q+ -q'))) ((fQN (q+ -q')).tS) rfl s kA rfl rfl rfl iiz iiz yJ fun a w s=>zD rfl (hQ _ _ ?_)
 exact pU<|wI s (CU.agg (fQN (q+ -q'))) rfl kA rfl rfl (qW _) (fun cs W h=>by rw[sK];exact h)
theorem zP3(h:NV W v k)(U:NV W v' k):Calls prog 98 #[v,v'] W (Ret W (fB true).tS):=by
 obtain⟨A,n,c,l,rfl,O,h2⟩:=h
 obtain⟨A',n',c',l',rfl,J,I⟩:=U
 refine(zLQ _ A n c l _ A' n' c' l' W h2 I).mono fun e w' ⟨e1,hb⟩=>⟨_,e1,?_,hb⟩
 rw[O.inj J]
 simp[fB,UF.eq,UF.mk']
theorem zP7(h:qQ W v x)(U:qQ W v' x):Calls prog 99 #[v,v'] W (Ret W (fB true).tS):=by
 obtain⟨A,n,c,l,rfl,O,h2⟩:=h
 obtain⟨A',n',c',l',rfl,J,I⟩:=U
 refine(zIs A n c l A' n' c' l' W h2 I).mono fun e w' ⟨e1,nq,hw⟩=>⟨_,e1,?_,?_⟩
 .rw[O.inj J]
  simp[fB,UF.eq,UF.mk']
 .subst hw
  exact zQ9 nq
def UVx(n:Nat)(k:Int)(v:WE)(w:WB):Prop:=∃s A c l,v=.agg #[.bool s,.slice A n c]/\Rd w A n c l/\Lt l/\iv s l=k
def LVx(n x:Nat)(v:WE)(w:WB):Prop:=∃A c l,v=.slice A n c/\Rd w A n c l/\Lt l/\val l=x
def QXp(n n':Nat)(k:Int)(d:Nat)(v:WE)(w:WB):Prop:=∃b s t,v=.agg #[b,s,t]/\UVx n k (.agg #[b,s]) w/\LVx n' d t w
def fQX(n n':Nat)(k:Int)(d:Nat):UF:=.mk' (QXp n n' k d) fun _ _ _ ⟨b,s,t,e,⟨sg,A,c,l,e1,h1,h2⟩,A',c',l',e2,h1',h2'⟩ u=>⟨b,s,t,e,⟨sg,A,c,l,e1,h1.keepU u,h2⟩,A',c',l',e2,h1'.keepU u,h2'⟩
theorem zXc(h:QXp n n' k d v W)(h1:n<=m)(h2:n'<=m):QVp m k d v W:=by
 obtain⟨b,s,t,e,⟨sg,A,c,l,e1,g1,U,g3⟩,A',c',l',e2,O,J,I⟩:=h
 exact⟨b,s,t,e,⟨sg,A,n,c,l,e1,g1,U,h1,g3⟩,A',n',c',l',e2,O,J,h2,I⟩
theorem zRF(cs:List WE)(W:WB)(h:(CU.agg (fQX n n' k d)).p cs W):∃u,cs[1]?=some u/\∃A c,u=.slice A n c:=by
 obtain⟨b,s,t,e,⟨sg,A,c,l,I,_⟩,_⟩:=h
 rw[zA6 e]
 have:=vQ Array.toList (j5 I)
 simp at this
 exact⟨s,rfl,A,c,this.2⟩
theorem zRE(cs:List WE)(W:WB)(h:(CU.agg (fQX n n' k d)).p cs W):∃u,cs[2]?=some u/\∃A c,u=.slice A n' c:=by
 obtain⟨b,s,t,e,_,A,c,l,I,_⟩:=h
 rw[zA6 e]
 exact⟨t,rfl,A,c,I⟩
def fSl(n:Nat):UF:=.mk' (fun v _=>∃A c,v=.slice A n c) fun _ _ _ h _=>h
theorem zKE(h:QNp q v W)(U:QNp q v' W):Calls prog 75 #[v,v'] W (Ret W (fB true).tS):=by
 refine z5 [(fQN q).tS,(fQN q).tS] func75 rfl kA ⟨h,U,trivial⟩ fun a s=>lQ<|rgK 0 [] s
  zB fun a w1 s=>yN (CU.agg (fQN q)) rfl s kA (fun v W h=>zKK h) fun b2 a w s=>yN (CU.agg (fQN q)) rfl s kA (fun v W h=>zKK h) fun b3 a w s=>yO (uB false) rfl s kA iiz fun a w s=>zD rfl<|lQ ?_
 replace s:=s.drop [4]
 exact rgE ((5,.X (fQN q) 0)::(6,.Z (fNV ((q).num)))::(7,.X (fQN q) 0)::(8,.Z (fNV ((q).num)))::(9,.Z (uB true))::(10,.Z (uB true))::(11,.X (fQN q) 2)::(12,.Z (jB ((q).den)))::(13,.X (fQN q) 2)::(14,.Z (jB ((q).den)))::(15,.Z (uB true))::(16,.Z (uB true))::(4,.u (uB true))::[]) s
  (oc (zN (C:=cg (fQN q)) 0 kA)<|oc (zV (C:=cg (fQN q)) (k:=0) 2 kA (h:=zBk))<|oc (zN (C:=cg (fQN q)) 0 kA)<|oc (zV (C:=cg (fQN q)) (k:=0) 2 kA (h:=zBk))<|oc (zI zC zXx (fun I J W hb (O:NV W I ((q).num)) (h1:NV W J ((q).num))=>zP3 O h1))<|oc zA<|oc (zF 10 true kA iiz (fun _=>zN (C:=cg (fQN q)) 2 kA) arf)<|oc (zF 10 true kA iiz (fun _=>jU (C:=cg (fQN q)) (k:=2) kA (h:=zA2)) arf)<|oc (zF 10 true kA iiz (fun _=>zN (C:=cg (fQN q)) 2 kA) arf)<|oc (zF 10 true kA iiz (fun _=>jU (C:=cg (fQN q)) (k:=2) kA (h:=zA2)) arf)<|oc (zF 10 true kA iiz (fun _=>zI zC zXw (fun I J W hb (O:qQ W I ((q).den)) (h1:qQ W J ((q).den))=>zP7 O h1)) arf)<|oc (yS true iiz (fun _ _ _ h=>h) (fun e=>by cases e))<|oc zE<|zB) fun a w2 s=>pU<|wF s (t:=4) rfl iiz
structure QX where
 n:Nat
 n':Nat
 k:Int
 d:Nat
abbrev QX.cu(x:QX):CU:=CU.agg (fQX x.n x.n' x.k x.d)
def zXd(L:List QX)(k:Nat):Nat:=((L.take k).map fun x=>min (x.n+x.n') 1000).sum
def gq(L:List QX):Bool:=decide (((L.map QX.cu).length:Int)>60)||decide (((zXd L (min (L.map QX.cu).length 61):Nat):Int)>40)
theorem wrap64(u:Int)(r:Nat)(h:u=r)(hr:r<9223372036854775808):IntKind.i64.wrap u=r:=by
 subst h
 rw[sS]
 omega
def T2(m:Nat)(op:Rat->Rat->Rat)(xs:Array WE)(W:WB)(R:SF):Prop:=∃u v p q,xs=#[u,v]/\RVp m p u W/\RVp m q v W/\Tab W/\R=(fQN (op p q)).tS
def T3(m:Nat)(op:Rat->Rat->Rat)(xs:Array WE)(W:WB)(R:SF):Prop:=∃u v,∃p q:V2,xs=#[u,v]/\(fPV m p).p u W/\(fPV m q).p v W/\Tab W/\R=(fPN (op p.1 q.1,op p.2 q.2)).tS
def G1(g:FuncId)(m:Nat)(op:Rat->Rat->Rat):Prop:=∀(W:WB) (s:WE) (p q:Rat),(fQS m [p,q]).p s W->QB p m->QB q m->Tab W->Calls prog g #[s] W (Ret W (fQN (op p q)).tS)
theorem zAK:∀cs W,(wC [u]).p cs W->∃x,cs[0]?=some x/\(UF.eq u).p x W:=fun cs W h=>by
 obtain rfl:cs=[u]:=h
 exact⟨u,rfl,rfl⟩
theorem zGE(h:v=u)(I:u.cells=#[u])(J:zX u=true:=by rfl):(wC [u]).p v.cells.toList W/\v.cells.toList.all zX=true:=by
 subst h
 rw[I]
 exact⟨rfl,by simp[J]⟩
section
variable {F:Fence}{m:Nat}{P:WH}{w0:WB}{ops:Array Oper}{G:Nat->SF}{d:Tmp}{ty:WF}{pos:String}{aft:Array Edge}
end
theorem zVJ(U:m<=650)(I:0<m)(W:WB):(SF.fn prog (T2 m (· - ·))).p (.func (.func 79) #[] #[]) W:=
 zRX (enters_of func79 kA rfl) fun W' _ args R ⟨u,v,p,q,e,J,h2,O,hR⟩=>by
  subst e hR
  simpa using zRB J h2 U I O
theorem zRL{F:Fence}{P:WH}{w0:WB}{ops:Array Oper}{G:Nat->SF}{d:Tmp}{ty:WF}{pos:String}{aft:Array Edge}{y x I:WL}{ats:Array WF}(T:Array WE->WB->SF->Prop)(hF:zJh F m P)(O:∀v W,bW w0 W->(fct G y).p v W->(SF.fn P T).p v W)(h:∀u v W,bW w0 W->(fct G x).p u W->(fct G I).p v W->T #[u,v] W (G d)):qO F m P w0 ops G ⟨some d,.call ⟨.value y,#[x,I],ats⟩,ty,pos,aft,none⟩:=
 zNN T hF O fun b W hb J=>by simpa using h _ _ W hb (J x fC) (J I fC)
theorem zQm{b:WE}{p q:V2}(h1:(fPV m p).p u W)(h2:(fPV m q).p v W)(hb:(wD (wC [f]).cf).p b W)(I:(SF.fn prog (T2 m op)).p f W)(J:Tab W):Calls prog 110 #[u,v,b] W (Ret W (fPN (op p.1 q.1,op p.2 q.2)).tS):=by
 refine z5 [(fPV m p).tS,(fPV m q).tS,wD (wC [f]).cf] func110 rfl kA ⟨h1,h2,hb,trivial⟩ fun a s=>lQ<|rgK 0 [] s
  zB fun a w1 s=>yN (CU.agg (fPV m p)) rfl s kA (fun v W h=>yY h) fun b3 a w s=>yN (CU.agg (fPV m q)) rfl s kA (fun v W h=>yY h) fun b4 a w s=>z9 (CU.len 6) (cs:=zP6) kA rfl s kA (fun W=>rfl) rfl fun b5 a w s=>zD rfl<|lQ<|yL [] 13 ((6,.Z (UF.eq f))::(7,.X (fPV m p) 0)::(8,.Z (fRV m ((p).1)))::(9,.X (fPV m q) 0)::(10,.Z (fRV m ((q).1)))::(11,.Z (fQN (op (p).1 (q).1)))::(12,.Z (UF.eq f))::(13,.X (fPV m p) 3)::(14,.Z (fRV m ((p).2)))::(15,.X (fPV m q) 3)::(16,.Z (fRV m ((q).2)))::(17,.Z (fQN (op (p).2 (q).2)))::(18,.u (fPN (op p.1 q.1,op p.2 q.2)))::[]) hmix s kA
  (oc (qB (C:=(wC [f]).cf) kA iiz zAK)<|oc (zN (C:=cg (fPV m p)) 0 kA)<|oc (zV (C:=cg (fPV m p)) (k:=0) 3 kA (h:=zFO))<|oc (zN (C:=cg (fPV m q)) 0 kA)<|oc (zV (C:=cg (fPV m q)) (k:=0) 3 kA (h:=zFO))<|oc (zRL (T2 m op) zC (fun v W hb h=>by rw[show v=f from h];exact(SF.fn prog (T2 m op)).st _ _ _ I (s.up hb)) (fun u v W hb (h1:RVp m ((p).1) u W) (h2:RVp m ((q).1) v W)=>⟨u,v,_,_,rfl,h1,h2,J.below (s.up hb),rfl⟩))<|oc (qB (C:=(wC [f]).cf) kA iiz zAK)<|oc (zN (C:=cg (fPV m p)) 3 kA)<|oc (zV (C:=cg (fPV m p)) (k:=3) 3 kA (h:=zFN))<|oc (zN (C:=cg (fPV m q)) 3 kA)<|oc (zV (C:=cg (fPV m q)) (k:=3) 3 kA (h:=zFN))<|oc (zRL (T2 m op) zC (fun v W hb h=>by rw[show v=f from h];exact(SF.fn prog (T2 m op)).st _ _ _ I (s.up hb)) (fun u v W hb (h1:RVp m ((p).2) u W) (h2:RVp m ((q).2) v W)=>⟨u,v,_,_,rfl,h1,h2,J.below (s.up hb),rfl⟩))<|oc (jF (fun u v W (O:QNp (op (p).1 (q).1) u W) (hv:QNp (op (p).2 (q).2) v W)=>zUj (zBa _) (zBa _) O hv))<|zB) fun Q' U a w2 s=>zR (CU.agg (fPN (op p.1 q.1,op p.2 q.2))) ((fPN (op p.1 q.1,op p.2 q.2)).tS) rfl s kA rfl rfl rfl iiz iiz y7 fun a w s=>zD rfl (U _ _ ?_)
 exact pU<|wI s (CU.agg (fPN (op p.1 q.1,op p.2 q.2))) rfl kA rfl rfl (zL _ _) (fun cs W h=>h)
theorem zTx(J:(SF.fn prog (T2 m op)).p f W):Calls prog 81 #[f] W (Ret W (SF.fn prog (T3 m op))):=by
 have I:f.cells=#[f]/\zX f=true:=by obtain⟨g,caps,rfl,_⟩:=J;exact⟨rfl,rfl⟩
 refine z5 [(UF.eq f).tS] func81 rfl kA ⟨rfl,trivial⟩ fun a s=>lQ<|rgK 0 [] s
  zB fun a w1 s=>yN (wC [f]) rfl s kA (fun v W h=>zGE h I.1 I.2) fun b1 a w s=>yO (UF.eq (.nilFunc)) rfl s kA iiz fun a w s=>zD rfl<|lQ ?_
 replace s:=s.drop [2]
 exact rgN ((3,.s (SF.fn prog (T3 m op)))::(2,.s (SF.fn prog (T3 m op)))::[]) s
  (oc (zKW (fun u W hb (h:(wJ b1 (wC [f]).cf).p u W)=>zRX (enters_of func110 kA rfl) (fun W' hb' args R ⟨u1,v1,p,q,e,O,h2,U,hR⟩=>by subst e hR;simpa using zQm O h2 ((wD (wC [f]).cf).st _ _ _ h.2 hb') ((SF.fn prog (T2 m op)).st _ _ _ ((SF.fn prog (T2 m op)).st _ _ _ J (s.up hb)) hb') U)))<|oc zE<|zB) fun a w2 s hr=>pU<|StS.resN s (xF _ _) rfl (hr (_,_) mz1)
theorem zKc{p q:V2}(h1:(fPV m p).p u W)(h2:(fPV m q).p v W)(U:m<=650)(I:0<m)(O:Tab W):Calls prog 54 #[u,v] W (Ret W (fPN (p.1-q.1,p.2-q.2)).tS):=by
 refine z5 [(fPV m p).tS,(fPV m q).tS] func54 rfl kA ⟨h1,h2,trivial⟩ fun a s=>lQ<|rgK 0 [] s
  zB fun a w1 s=>yN (CU.agg (fPV m p)) rfl s kA (fun v W h=>yY h) fun b2 a w s=>yN (CU.agg (fPV m q)) rfl s kA (fun v W h=>yY h) fun b3 a w s=>z9 (CU.len 6) (cs:=zP6) kA rfl s kA (fun W=>rfl) rfl fun b4 a w s=>zD rfl<|lQ<|yL [] 4 ((5,.s (SF.fn prog (T3 m (· - ·))))::(6,.Z (fPV m p))::(7,.Z (fPV m q))::(8,.u (fPN (p.1-q.1,p.2-q.2)))::[]) hmix s kA
  (oc (zG zC zXF (fun J W hb h0=>by rw[show J=_ from h0];exact zTx (zVJ U I W)))<|oc (zH (f:=fPV m p) 6 kA (hz:=zL _ _))<|oc (zH (f:=fPV m q) 6 kA (hz:=zL _ _))<|oc (zVu (T3 m (· - ·)) zC iiz (fun u v W hb (h1:(fPV m p).p u W) (h2:(fPV m q).p v W)=>⟨u,v,p,q,rfl,h1,h2,O.below (s.up hb),rfl⟩))<|zB) fun Q' hQ a w2 s=>zR (CU.agg (fPN (p.1-q.1,p.2-q.2))) ((fPN (p.1-q.1,p.2-q.2)).tS) rfl s kA rfl rfl rfl iiz iiz y7 fun a w s=>zD rfl (hQ _ _ ?_)
 exact pU<|wI s (CU.agg (fPN (p.1-q.1,p.2-q.2))) rfl kA rfl rfl (zL _ _) (fun cs W h=>h)
theorem zGU{p q:V2}(h1:(fPV m p).p u W)(h2:(fPV m q).p v W)(O:QB p.1 m/\QB p.2 m)(U:QB q.1 m/\QB q.2 m)(hm:m<=320)(hm0:0<m)(hT:Tab W):Calls prog 53 #[u,v] W (Ret W (fQN (p.1*q.2-p.2*q.1)).tS):=by
 refine z5 [(fPV m p).tS,(fPV m q).tS] func53 rfl kA ⟨h1,h2,trivial⟩ fun a s=>lQ<|rgK 0 [] s
  zB fun a w1 s=>yN (CU.agg (fPV m p)) rfl s kA (fun v W h=>yY h) fun b2 a w s=>yN (CU.agg (fPV m q)) rfl s kA (fun v W h=>yY h) fun b3 a w s=>z9 (CU.len 3) (cs:=zR3) kA rfl s kA (fun W=>rfl) rfl fun b4 a w s=>zD rfl<|lQ<|yL [] 13 ((5,.X (fPV m p) 0)::(6,.Z (fRV m ((p).1)))::(7,.X (fPV m q) 3)::(8,.Z (fRV m ((q).2)))::(9,.s (fQS m [(p).1,(q).2]))::(10,.Z (fQN ((p).1*(q).2)))::(11,.X (fPV m p) 3)::(12,.Z (fRV m ((p).2)))::(13,.X (fPV m q) 0)::(14,.Z (fRV m ((q).1)))::(15,.s (fQS m [(p).2,(q).1]))::(16,.Z (fQN ((p).2*(q).1)))::(17,.u (fQN ((p).1*(q).2-(p).2*(q).1)))::[]) hmix s kA
  (oc (zN (C:=cg (fPV m p)) 0 kA)<|oc (zV (C:=cg (fPV m p)) (k:=0) 3 kA (h:=zFO))<|oc (zN (C:=cg (fPV m q)) 3 kA)<|oc (zV (C:=cg (fPV m q)) (k:=3) 3 kA (h:=zFN))<|oc (yH (fun u v W (hu:RVp m ((p).1) u W) (hv:RVp m ((q).2) v W)=>zFy hu hv))<|oc (zG zC zVU (fun I W hb (J:(fQS m [(p).1,(q).2]).p I W)=>zM1 J O.1 U.2 oA (hT.below (s.up hb))))<|oc (zN (C:=cg (fPV m p)) 3 kA)<|oc (zV (C:=cg (fPV m p)) (k:=3) 3 kA (h:=zFN))<|oc (zN (C:=cg (fPV m q)) 0 kA)<|oc (zV (C:=cg (fPV m q)) (k:=0) 3 kA (h:=zFO))<|oc (yH (fun u v W (hu:RVp m ((p).2) u W) (hv:RVp m ((q).1) v W)=>zFy hu hv))<|oc (zG zC zVU (fun I W hb (J:(fQS m [(p).2,(q).1]).p I W)=>zM1 J O.2 U.1 oA (hT.below (s.up hb))))<|oc (zI zC zXG (fun I u1 W hb (J:QNp ((p).1*(q).2) I W) (h1:QNp ((p).2*(q).1) u1 W)=>zRB (wL J (O.1.mul U.2)) (wL h1 (O.2.mul U.1)) oA oA (hT.below (s.up hb))))<|zB) fun Q' hQ a w2 s=>zR (CU.agg (fQN ((p).1*(q).2-(p).2*(q).1))) ((fQN ((p).1*(q).2-(p).2*(q).1)).tS) rfl s kA rfl rfl rfl iiz iiz yJ fun a w s=>zD rfl (hQ _ _ ?_)
 exact pU<|wI s (CU.agg (fQN (p.1*q.2-p.2*q.1))) rfl kA rfl rfl (qW _) (fun cs W h=>h)
end Go.Proofs.Wd

namespace Lb
set_option maxHeartbeats 2000000
theorem zUG{l:List Nat}(ht:Lt l){j s x:Nat}(hj:j<l.length)(hz:∀i,i<j->lm l i=0)(O:lm l j=2^s*x)(ho:x%2=1):TZ (val l) (32*j+s)/\s<32:=by
 have hb:=qR ht j
 have hs:s<32:=by
  have J:2^s*1<=2^s*x:=uR _ oA
  rw[gK,<-O]at J
  exact(Nat.pow_lt_pow_iff_right dA).1 (mY J (by rw[zYl]at hb;simpa using hb))
 refine⟨?_,hs⟩
 have U:val (l.take j)=0:=by
  rw[zGT oA]
  have:sm (lm l) j=sm (lm l) 0:=zDA (vR _) fun i _ hi=>hz i hi
  rw[this];rfl
 have I:=zAb l j oA
 rw[U,uL,zBN hj,O,zGO]at I
 obtain⟨y,hy⟩:∃y,val (l.drop (j+1))=y:=⟨_,rfl⟩
 rw[hy,show BB=2^s*(2*2^(31-s))from by rw[<-gQ,<-uA,show s+(31-s+1)=32 from by omega];rfl,vX,<-uG,<-vX,<-uA]at I
 refine⟨x/2+2^(31-s)*y,?_⟩
 rw[I]
 congr 1
 rw[uG,<-vX]
 omega
end Lb
namespace Go.Proofs.Wd
open Tryz
open Go.RowKit Lb
variable {W:WB}{a m:Nat}{v:WE}
theorem zPg(A:WG Addr)(n c:Nat)(l:List Nat)(w:WB)(h:Rd w A n c l)(ht:Lt l)(h0:0<val l)(hn:n<=2000):
  ∃q t:Nat,TZ (val l) (32*q+t)/\t<=31/\q<n/\Calls prog 112 #[.slice A n c] w fun e w'=>e=.returned (.int .i64 ((32*q+t:Nat):Int))/\w'=w:=by
 obtain⟨j,hjn,hjz,hj0⟩:∃j,j<n/\(∀i,i<j->lm l i=0)/\lm l j≠0:=by
  have hex:∃j,lm l j≠0:=by
   refine rD fun hc=>?_
   have hz:∀i,lm l i=0:=fun i=>rD fun e=>hc ⟨i,e⟩
   have:sm (lm l) l.length=sm (lm l) 0:=zDA (vR _) fun i _ _=>hz i
   have e:val l=sm (lm l) l.length:=rfl
   rw[e,this]at h0
   simp[sm]at h0
  have hmin:∀k,(∃j,j<=k/\lm l j≠0)->∃j,(∀i,i<j->lm l i=0)/\lm l j≠0:=by
   intro k
   induction k with
   |zero=>rintro⟨j,hj,e⟩;exact⟨j,fun i hi=>by omega,e⟩
   |succ k ih=>
    rintro⟨j,hj,e⟩
    by_cases hk:∃j,j<=k/\lm l j≠0
    .exact ih hk
    .exact⟨j,fun i hi=>rD fun e'=>hk ⟨i,by omega,e'⟩,e⟩
  obtain⟨j0,hj0⟩:=hex
  obtain⟨j,h1,h2⟩:=hmin j0 ⟨j0,vP _,hj0⟩
  refine⟨j,?_,h1,h2⟩
  rw[<-h.len]
  exact Nat.lt_of_not_le fun e=>h2 (zEc e)
 obtain⟨s,hs⟩:=vL (lm l j) oA
 obtain⟨m,hm⟩:=hs
 obtain⟨htz,hs32⟩:=zUG ht (s:=s) (x:=2*m+1) (by rw[h.len];exact hjn) hjz hm oA
 refine⟨j,s,htz,by omega,hjn,?_⟩
 have hb:=qR ht j
 have hle:=h.le;have hcap:=h.cap
 have HJZ:=hid hjz;have HM:=hid hm;have HB:=hid hb
 obtain⟨d,hd⟩:∃d:Nat->Nat,d=fun i=>2^(s-i)*(2*m+1):=⟨_,rfl⟩
 have hd0:d 0=lm l j:=by rw[hd,hm];rfl
 have hds:d s%2=1:=by rw[hd];simp
 have hdi:∀i,i<s->d i%2=0/\d i/2=d (i+1):=fun i hi=>by
  rw[hd]
  show 2^(s-i)*(2*m+1)%2=0/\2^(s-i)*(2*m+1)/2=2^(s-(i+1))*(2*m+1)
  rw[show s-i=(s-(i+1))+1 from by omega,gQ,vX]
  omega
 have hdl:∀i,d i<=d 0:=fun i=>by
  rw[hd]
  exact uE _ (vZ oA oA)
 have HD0:=hid hd0;have HDS:=hid hds;have HDI:=hid hdi;have HDL:=hid hdl
 clear hd hd0 hds hdi hdl
 have HL:Hid (∀i,lm l i<4294967296):=hid fun i=>qR ht i
 clear hjz hm htz hb h0
 go_enter func112,ntmps112
 go_wp2
 go_loopw [3,4] (fun t i wr=>∃k:Nat,k<=j/\i=.int .i64 k/\t=.int .i64 ((32*k:Nat):Int)/\wr=w) (fun _ i _=>j-(intOf i).toNat)
 case atStart=>exact⟨0,vR _,rfl,rfl,rfl⟩
 case round=>
  obtain⟨k,hk,rfl,rfl,rfl⟩:=hrel
  obtain⟨b,o,rfl,hc⟩:=h.cells k oA
  by_cases hkj:k<j
  .have hz:=HJZ.out k hkj
   rw[hz]at hc
   clear hz
   go_wp2
   go_roundw
   case rel=>exact⟨k+1,by omega,by go_num,by go_num,trivial⟩
   case measure=>simp[intOf];omega
  .obtain rfl:k=j:=by omega
   have hlk:=HL.out k
   obtain⟨x,hx⟩:∃x,lm l k=x:=⟨_,rfl⟩
   rw[hx]at hc hj0 hlk
   have HX:=hid hx
   clear hx
   have e1:((32*k:Nat):Int).tdiv 32=(k:Int):=by rw[sU oA];omega
   have e2:(((32*k:Nat):Int)/32)=(k:Int):=by omega
   have hx2:((x:Int)==0)=false:=by simpa using hj0
   go_wp2
   go_loopw [3,5] (fun t y wr2=>∃i:Nat,i<=s/\t=.int .i64 ((32*k+i:Nat):Int)/\y=.int .u32 (d i:Nat)/\wr2=wr) (fun t _ _=>32*k+s-(intOf t).toNat)
   case atStart=>exact⟨0,vR _,rfl,by rw[HD0.out,HX.out],rfl⟩
   case round=>
    obtain⟨i,hi,rfl,rfl,rfl⟩:=hrel
    have hdx:=HDL.out i
    rw[HD0.out,HX.out]at hdx
    by_cases his:i<s
    .obtain⟨q1,q2⟩:=HDI.out i his
     obtain⟨y,hy⟩:∃y,d i=y:=⟨_,rfl⟩
     rw[hy]at q1 q2 hdx ⊢
     have HY:=hid q2
     clear q2 hy
     go_wp2
     go_roundw
     case rel=>exact⟨i+1,by omega,by go_num,by rw[<-HY.out];go_num,trivial⟩
     case measure=>simp[intOf];omega
    .obtain rfl:i=s:=by omega
     have q1:=HDS.out
     obtain⟨y,hy⟩:∃y,d i=y:=⟨_,rfl⟩
     rw[hy]at q1 hdx ⊢
     clear hy
     go_wp2
     go_ret
     exact⟨rfl,rfl⟩
theorem zM0{v':WE}{b:Nat}(h:LV W m v a)(U:LV W m v' b)(hm:m<=100000):Calls prog 57 #[v,v'] W (zO3 W (a*b)):=by
 obtain⟨A,n,c,l,rfl,O,h2,h3,rfl⟩:=h
 obtain⟨A',n',c',l',rfl,J,I,h3',rfl⟩:=U
 exact(zKC A n c l A' n' c' l' W O J h2 I oA oA).mono fun _ _=>jK.v
theorem zEx(h:LV W m v a)(hm:m<=100000):Calls prog 40 #[v] W (zO3 W a):=by
 obtain⟨A,n,c,l,rfl,I,h2,h3,rfl⟩:=h
 exact(jR A n c l W I h2 oA).mono fun _ _=>jK.v
theorem qQ.open{x:Nat}(h:qQ W v x):∃A n c,v=.slice A n c/\(x=0->n=0)/\(0<x->0<n)/\n<=c/\c<=9223372036854775807/\qQ W (.slice A n c) x:=by
 obtain⟨A,n,c,l,rfl,I,h2⟩:=h
 have h3:=I.zero_iff;have J:=I.pos_iff
 rw[h2.len]at h3 J
 exact⟨A,n,c,rfl,h3.1,J.1,h2.le,h2.cap,⟨A,n,c,l,rfl,I,h2⟩⟩
end Go.Proofs.Wd

namespace Lb
set_option maxHeartbeats 2000000
theorem zRM{x k:Nat}(h:TZ x k):x/2^k%2=1/\x/2^k<=x/\0<x/2^k:=by
 have:=h.part.2
 exact⟨this,rP _ _,Nat.pos_of_ne_zero fun e=>by rw[e]at this;simp at this⟩
def Bin(G x y:Nat):Prop:=0<y/\(x=0->y=G)/\∀i j,TZ x i->TZ y j->Nat.gcd (x/2^i) (y/2^j)=G
theorem Bin.start{a b i j:Nat}(hi:TZ a i)(I:TZ b j):Bin (Nat.gcd (a/2^i) (b/2^j)) a b:=
 ⟨I.pos,fun e=>by have:=hi.pos;omega,fun i' j' J h2=>by rw[J.unique hi,h2.unique I]⟩
theorem Bin.turn{G x y:Nat}(hx:x%2=1)(O:y%2=1)(J:Nat.gcd x y=G)(I:y<=x):Bin G (x-y) y:=by
 refine⟨by omega,fun e=>?_,fun i j U h2=>?_⟩
 .have:x=y:=by omega
  rw[<-J,this,Nat.gcd_self]
 .have hj:j=0:=h2.unique (wX O)
  rw[hj,Nat.pow_zero,Nat.div_one,uP,vD O U,uP,zHT I,J]
end Lb
namespace Go.Proofs.Wd
open Tryz
open Go.RowKit Lb
variable {W W0 w0:WB}{M N c d i k m n z:Nat}{A:WG Addr}{hi lo x y:WL}{e e' t t' ty:WF}{l l0 v v':WE}{a r:V2}{F:Fence}{P:WH}{ops:Array Oper}{G:Nat->SF}{pos:String}{aft:Array Edge}{cs:List WE}{qs:List Rat}{f g:UF}{ps:List V2}{Cs:List CU}{L:List Int}{ie:TypeInfo}
theorem zM4{x q t:Nat}(h:qQ W (.slice A n c) x)(U:x<BB^m)(hm:m<=2000)(J:t<=31)(hq:q<n):Calls prog 113 #[.slice A n c,.int .i64 ((32*q+t:Nat):Int)] W (zO3 W (x/2^(32*q+t))):=by
 obtain⟨A1,n1,c1,O,e1,I,h2⟩:=h
 cases e1
 have hn:n<=m:=zIZ I h2 U
 have:=zM5 A n c O q t W h2 I.lt J oA oA oA
 rw[I.val]at this
 exact this.mono fun _ _=>jK.v
theorem zW7{x q t:Nat}(h:LV W m (.slice A n c) x)(hm:m<=2000)(I:t<=31)(hq:q<=2000):Calls prog 116 #[.slice A n c,.int .i64 ((32*q+t:Nat):Int)] W (zO3 W (x*2^(32*q+t))):=by
 obtain⟨A1,n1,c1,U,J,O,h2,h3,rfl⟩:=h
 cases J
 exact(zMV A n c U q t W O h2 I oA oA).mono fun _ _=>jK.v
def zYe(w:WB)(x:Nat):Ending->WB->Prop:=fun e w'=>∃v,e=.returned (.tuple #[v,.int .i64 0])/\qQ w' v x/\bW w w'
theorem zRz{a b:Nat}(h:LV W m v a)(h':LV W m v' b)(hm:m<=2000)(I:b<=a):Calls prog 115 #[v,v'] W (zYe W (a-b)):=by
 obtain⟨A,n,c,l,rfl,h1,h2,h3,rfl⟩:=h
 obtain⟨A',n',c',l',rfl,O,J,h3',rfl⟩:=h'
 refine(zHe A n c l A' n' c' l' W h1 O h2 J I oA).mono ?_
 rintro e w' ⟨U,n1,c1,l1,rfl,i1,r1,hb⟩
 exact⟨_,rfl,⟨U,n1,c1,l1,rfl,i1,r1⟩,hb⟩
theorem zKf{x:Nat}(h:qQ W (.slice A n c) x)(U:x<BB^m)(hm:m<=2000)(h0:0<x):
  ∃q t:Nat,TZ x (32*q+t)/\t<=31/\q<n/\n<=m/\Calls prog 112 #[.slice A n c] W fun e w'=>e=.returned (.int .i64 ((32*q+t:Nat):Int))/\w'=W:=by
 obtain⟨A1,n1,c1,O,e1,I,h2⟩:=h
 cases e1
 have hn:n<=m:=zIZ I h2 U
 obtain⟨q,t,J,k2,k3,k4⟩:=zPg A n c O W h2 I.lt (by rw[I.val];exact h0) oA
 rw[I.val]at J
 exact⟨q,t,J,k2,k3,hn,k4⟩
theorem qQ.rdv{x:Nat}(h:qQ W v x):rdv W v=x:=by
 obtain⟨A1,n1,c1,l1,rfl,I,h2⟩:=h
 exact h2.rdv I
def RgI(w:WB)(m G:Nat)(u v:WE)(W:WB):Prop:=∃A n c A' n' c' x y,u=.slice A n c/\v=.slice A' n' c'/\qQ W (.slice A n c) x/\qQ W (.slice A' n' c') y/\x<BB^m/\y<BB^m/\Bin G x y/\bW w W
theorem zTo{a b:Nat}(h:LV W m v a)(h':LV W m v' b)(hm:m<=2000):Calls prog 84 #[v,v'] W (zO3 W (Nat.gcd a b)):=by
 have hla:=h.bound;have hlb:=h'.bound
 obtain⟨A0,n0,c0,rfl,-,k1,k2,h⟩:=h.open
 obtain⟨B0,m0,d0,rfl,-,k3,k4,h'⟩:=h'.open
 go_enter func84,ntmps84
 go_wp2_with fail
 refine(zEx h oA).mono ?_
 rintro e w1 ⟨va,rfl,ha,b1⟩
 obtain⟨A,n,c,rfl,za,pa,ia,ja,ha⟩:=ha.open
 go_wp2_with fail
 refine(zEx (h'.below b1) oA).mono ?_
 rintro e w2 ⟨vb,rfl,hb,b2⟩
 obtain⟨A',n',c',rfl,zb,pb,ib,jb,hb⟩:=hb.open
 have b02:=b1.trans (b2.mono b1.size)
 have ha2:=ha.below b2
 clear h h' ha b1 b2 k1 k2 k3 k4
 by_cases h0:a=0∨b=0
 .have hg:Nat.gcd a b=a+b:=by
   rcases h0 with e|e
   .rw[e];simp
   .rw[e];simp
  have h00:n=0∨(0<n/\n'=0):=by
   rcases uH n with e|e
   .exact .inl e
   .refine .inr ⟨e,zb (h0.resolve_left fun e'=>?_)⟩
    have:=za e';omega
  have HG:=hid hg
  clear za pa zb pb h0 hg
  have ad:=zTa (ha2.lv hla) (hb.lv hlb) oA 24
  have bS:bW w2 (w2.alloc (.cells #[.slice A n c,.slice A' n' c'] 24)):=(xF _ w2).alloc (vP _) _
  have HLA:=hid hla;have HLB:=hid hlb
  clear hla hlb
  rcases h00 with rfl|⟨e1,rfl⟩
  all_goals
   go_wp2_with fail
   refine ad.mono ?_
   rintro e w4 ⟨vs,rfl,hs,b4⟩
   go_wp2_with fail
   go_ret
   exact⟨vs,rfl,by rw[HG.out];exact hs,b02.trans ((bS.trans (b4.mono bS.size)).mono b02.size)⟩
 .have hn0:0<n:=pa oA
  have hn0':0<n':=pb oA
  have hnb:((n:Int)==0)=false:=by simp;omega
  have hnb':((n':Int)==0)=false:=by simp;omega
  obtain⟨q,t,hz,ht,hq,hnm,htw⟩:=zKf ha2 hla hm oA
  obtain⟨q',t',hz',ht',hq',hnm',htw'⟩:=zKf hb hlb hm oA
  have hgcd:=hz.gcd hz'
  have hbin:=Bin.start hz hz'
  have hG0:Nat.gcd (a/2^(32*q+t)) (b/2^(32*q'+t'))<BB^m:=zRW (mY (rP _ _) hla) (mY (rP _ _) hlb)
  obtain⟨G,hG⟩:∃G,Nat.gcd (a/2^(32*q+t)) (b/2^(32*q'+t'))=G:=⟨_,rfl⟩
  rw[hG]at hgcd hbin hG0
  obtain⟨p,s,hs,hps,hpq⟩:∃p s:Nat,s<=31/\p<=2000/\min (32*q+t) (32*q'+t')=32*p+s:=by
   rcases gR (32*q+t) (32*q'+t')with e|e
   .exact⟨q,t,ht,by omega,by omega⟩
   .exact⟨q',t',ht',by omega,by omega⟩
  rw[hpq]at hgcd
  have hmin:min ((32*q+t:Nat):Int) ((32*q'+t':Nat):Int)=((32*p+s:Nat):Int):=by omega
  have HGC:=hid hgcd;have HBI:=hid hbin;have HG0:=hid hG0
  obtain⟨k,hk⟩:∃k,32*q+t=k:=⟨_,rfl⟩
  obtain⟨k',hk'⟩:∃k,32*q'+t'=k:=⟨_,rfl⟩
  rw[hk]at htw hmin
  rw[hk']at htw' hmin
  obtain⟨K,hK⟩:∃K,32*p+s=K:=⟨_,rfl⟩
  rw[hK]at hmin
  have HK:=hid hK
  have hK2:K<=64500:=by omega
  have hk2:k<=64500:=by omega
  have hk2':k'<=64500:=by omega
  have HLA:=hid hla;have HLB:=hid hlb
  clear hgcd hbin hG0 hz hz' hG hpq hk hk' hK za pa zb pb hq hq' ht ht' hnm hnm' h0 hla hlb
  go_wp2_with fail
  refine htw.mono ?_
  rintro e w3 ⟨rfl,rfl⟩
  go_wp2_with fail
  refine htw'.mono ?_
  rintro e w3 ⟨rfl,rfl⟩
  go_wp2
  go_loopw [0,1] (RgI W m G) (fun u v wr=>rdv wr u+rdv wr v)
  case atStart=>exact⟨A,n,c,A',n',c',a,b,rfl,rfl,ha2,hb,HLA.out,HLB.out,HBI.out,b02⟩
  case round=>
   clear ha2 hb b02 hn0 hn0' hnb hnb' htw htw' ia ja ib jb hmin
   obtain⟨A1,n1,c1,A2,n2,c2,x,y,rfl,rfl,hx,hy,hxl,hyl,hbn,hB⟩:=hrel
   obtain⟨_,_,_,e1,zx,px,ix,jx,_⟩:=hx.open
   cases e1
   obtain⟨_,_,_,e1,zy,py,iy,jy,_⟩:=hy.open
   cases e1
   have hy0:=hbn.1
   have HBN:=hid hbn
   have HXL:=hid hxl;have HYL:=hid hyl
   rcases uH n1 with h0|h0
   .have hx0:x=0:=by
     rcases uH x with e|e
     .exact e
     .have:=px e;omega
    have hyG:=hbn.2.1 hx0
    have HYG:=hid hyG
    have hup:=zW7 (q:=p) (t:=s) (hy.lv hyl) hm hs hps
    rw[HK.out]at hup
    subst h0
    clear hbn hxl hyl hx0 hyG zx px zy py
    go_wp2_with fail
    refine hup.mono ?_
    rintro e w5 ⟨v5,rfl,hv5,hb5⟩
    go_wp2_with fail
    go_ret
    exact⟨v5,rfl,by rw[HGC.out,HK.out,<-HYG.out,vS];exact hv5,hB.trans (hb5.mono hB.size)⟩
   .have hx0:0<x:=Nat.pos_of_ne_zero fun e=>by have:=zx e;omega
    obtain⟨q1,t1,z1,ht1,hq1,hnm1,htw1⟩:=zKf hx hxl hm hx0
    have hd1:=zM4 hx hxl hm ht1 hq1
    obtain⟨o1,o2,o3⟩:=zRM z1
    obtain⟨k1,hk1⟩:∃k,32*q1+t1=k:=⟨_,rfl⟩
    have hk1l:k1<=64500:=by omega
    rw[hk1]at htw1 hd1 z1 o1 o2 o3
    have Z1:=hid z1
    obtain⟨X,hX⟩:∃X,x/2^k1=X:=⟨_,rfl⟩
    have HX:=hid hX
    rw[hX]at hd1 o1 o2 o3
    clear z1 hX hk1 ht1 hq1 hnm1 hbn zx px zy py
    have HO1:=hid o1
    have hrx:=hx.rdv;have hry:=hy.rdv
    have HRX:=hid hrx;have HRY:=hid hry
    clear hrx hry o1
    go_wp2_with fail
    refine htw1.mono ?_
    rintro e w5 ⟨rfl,rfl⟩
    go_wp2_with fail
    refine hd1.mono ?_
    rintro e w6 ⟨v6,rfl,h6,b6⟩
    obtain⟨A6,n6,c6,rfl,z6,p6,i6,j6,h6⟩:=h6.open
    have hy6:=hy.below b6
    obtain⟨q2,t2,z2,ht2,hq2,hnm2,htw2⟩:=zKf hy6 hyl hm hy0
    have hd2:=zM4 hy6 hyl hm ht2 hq2
    obtain⟨o4,o5,o6⟩:=zRM z2
    obtain⟨k2,hk2⟩:∃k,32*q2+t2=k:=⟨_,rfl⟩
    have hk2l:k2<=64500:=by omega
    rw[hk2]at htw2 hd2 z2 o4 o5 o6
    have Z2:=hid z2
    obtain⟨Y,hY⟩:∃Y,y/2^k2=Y:=⟨_,rfl⟩
    have HY:=hid hY
    rw[hY]at hd2 o4 o5 o6
    clear z2 hY hk2 ht2 hq2 hnm2 htw1 hd1 z6 p6
    have HO4:=hid o4
    clear o4
    go_wp2_with fail
    refine htw2.mono ?_
    rintro e w7 ⟨rfl,rfl⟩
    go_wp2_with fail
    refine hd2.mono ?_
    rintro e w8 ⟨v8,rfl,h8,b8⟩
    obtain⟨A8,n8,c8,rfl,z8,p8,i8,j8,h8⟩:=h8.open
    have h68:=h6.below b8
    have b68:=b6.trans (b8.mono b6.size)
    have hB8:=hB.trans (b68.mono hB.size)
    have hXl:X<BB^m:=mY o2 HXL.out
    have hYl:Y<BB^m:=mY o5 HYL.out
    have hXY:Nat.gcd X Y=G:=by rw[<-HX.out,<-HY.out];exact HBN.out.2.2 _ _ Z1.out Z2.out
    have HXY:=hid hXY
    obtain⟨cz,hcz⟩:∃cz,zAP X Y=cz:=⟨_,rfl⟩
    have hc1:=zU7 (h68.lv hXl) (h8.lv hYl)
    have hcl:cz<0↔X<Y:=by
     rw[<-hcz]
     unfold zAP
     split
     .exact⟨fun _=>by assumption,fun _=>by omega⟩
     .split
      .exact⟨fun h=>by omega,fun h=>by omega⟩
      .exact⟨fun h=>by omega,fun h=>by omega⟩
    rw[hcz]at hc1
    clear htw2 hd2 z8 p8 h6 hy6 hx hy hXY hcz hxl hyl
    have HXl:=hid hXl;have HYl:=hid hYl
    clear hXl hYl
    rcases bF X Y with hlt|hge
    .have hcz:cz<0:=hcl.2 hlt
     have hsb:=zRz (h8.lv HYl.out) (h68.lv HXl.out) hm (nL hlt)
     have hbt:=Bin.turn (G:=G) HO4.out HO1.out (by rw[uP];exact HXY.out) (nL hlt)
     have HBT:=hid hbt
     clear hbt hcl
     go_wp2_with fail
     refine hc1.mono ?_
     rintro e w9 ⟨rfl,rfl⟩
     go_wp2_with fail
     refine hsb.mono ?_
     rintro e w10 ⟨v10,rfl,h10,b10⟩
     obtain⟨A10,n10,c10,rfl,z10,p10,i10,j10,h10⟩:=h10.open
     clear z10 p10
     go_wp2_with fail
     refine⟨⟨A10,n10,c10,A6,n6,c6,Y-X,X,rfl,rfl,h10,h68.below b10,mY (nT _ _) HYl.out,HXl.out,HBT.out,hB8.trans (b10.mono hB8.size)⟩,?_⟩
     show rdv _ _+rdv _ _<rdv _ _+rdv _ _
     rw[h10.rdv,(h68.below b10).rdv,HRX.out,HRY.out]
     omega
    .have hcz: ¬cz<0:=fun e=>by have:=hcl.1 e;omega
     have hsb:=zRz (h68.lv HXl.out) (h8.lv HYl.out) hm hge
     have hbt:=Bin.turn (G:=G) HO1.out HO4.out HXY.out hge
     have HBT:=hid hbt
     clear hbt hcl
     go_wp2_with fail
     refine hc1.mono ?_
     rintro e w9 ⟨rfl,rfl⟩
     go_wp2_with fail
     refine hsb.mono ?_
     rintro e w10 ⟨v10,rfl,h10,b10⟩
     obtain⟨A10,n10,c10,rfl,z10,p10,i10,j10,h10⟩:=h10.open
     clear z10 p10
     go_wp2_with fail
     refine⟨⟨A10,n10,c10,A8,n8,c8,X-Y,Y,rfl,rfl,h10,h8.below b10,mY (nT _ _) HXl.out,HYl.out,HBT.out,hB8.trans (b10.mono hB8.size)⟩,?_⟩
     show rdv _ _+rdv _ _<rdv _ _+rdv _ _
     rw[h10.rdv,(h8.below b10).rdv,HRX.out,HRY.out]
     omega
theorem zVb{u:WE}(k:Int)(I:u=.int .i64 k)(h: -9223372036854775808<=k/\k<=9223372036854775807):Calls prog 38 #[u] W (zH8 W k):=by
 subst I
 exact zVc k h
set_option maxRecDepth 100000
def zOu:Nat:=10000
theorem zVB{x:Nat}(h:x<18446744073709551616)(m:Nat)(I:2<=m):x<BB^m:=vU h (xQ (show 18446744073709551616<=BB^2 by decide) (vZ qC I))
theorem zIz{x:Nat}(h:LV W m v x)(hm:m<=100000):Calls prog 82 #[v] W (Ret W (zBC (UF.eq (.int .u64 ((zJ x:Nat):Int))) (fB (yW x))).tS):=by
 obtain⟨A,n,c,l,rfl,I,h2,h3,rfl⟩:=h
 refine(zLJ A n c l W I h2 oA).mono ?_
 rintro e w' ⟨rfl,hb⟩
 exact⟨_,rfl,⟨_,_,rfl,rfl,rfl⟩,hb⟩
theorem zRD(x:Nat)(J:x<18446744073709551616)(I:v=.int .u64 (x:Int)):Calls prog 68 #[v] W (Ret W (jB x).tS):=by
 subst I
 exact(zJx x J W).mono fun _ _ h=>jK.v h
theorem zA0(x:Nat):zJ x<18446744073709551616:=by unfold zJ;split<;>omega
theorem zNK{d:Tmp}(k:IntKind)(u v r:Int)(O:∀q W,(fct G x).p q W->q=.int k u)(U:∀q W,(fct G y).p q W->q=.int k v)(hv:v≠0)(J:k.wrap (u.tdiv v)=r)(I:∀W,(G d).p (.int k r) W:=by exact fun _=>rfl):qO F m P w0 ops G ⟨some d,.binOp .quo t x y t',ty,pos,aft,none⟩:=
 zD8 (.int k u) (.int k v) (.int k r) O U (fun W=>by simp[eqGuard]) (fun W=>by simp[binOp,Op.intDiv,hv,J]) I
theorem zUC(u:Int)(r:Nat)(h:u=r)(hr:r<18446744073709551616):IntKind.u64.wrap u=r:=by
 subst h
 rw[nA]
 omega
theorem zKR{x:Nat}(h:qQ W v x):Calls prog 71 #[v] W (Ret W (fNV (x:Int)).tS):=by
 exact z5 [(jB x).tS] func71 rfl kA ⟨h,trivial⟩ fun a s=>lQ<|rgK 0 [] s
  zB fun a w1 s=>z9 (CU.len 2) (cs:=[.bool false, sN]) kA rfl s kA (fun W=>rfl) rfl fun b2 a w s=>zD rfl<|lQ<|rgK 2 ((3,.Z (jB x))::(4,.u (fNV (x:Int)))::[]) s
  (oc zA<|oc (zFV (fun u W (I:qQ W u x)=>zOS I))<|zB) fun a w2 s=>zR (CU.agg (fNV (x:Int))) ((fNV (x:Int)).tS) rfl s kA rfl rfl rfl iiz iiz zHz fun a w s=>zD rfl<|pU<|wI s (CU.agg (fNV (x:Int))) rfl kA rfl rfl (zRN _) (fun cs W h=>h)
theorem zGx(z:Int)(J:v=.int .i64 z)(hz: -9223372036854775808<=z/\z<=9223372036854775807):Calls prog 10 #[v] W (Ret W (fQN (z:Rat)).tS):=by
 exact z5 [(fI z).tS] func10 rfl kA ⟨J,trivial⟩ fun a s=>lQ<|rgK 0 [] s
  zB fun a w1 s=>z9 (CU.len 3) (cs:=zR3) kA rfl s kA (fun W=>rfl) rfl fun b2 a w s=>zD rfl<|lQ<|rgK 4 ((3,.Z (uI z))::(4,.Z (fNV z))::(5,.Z (jB 1))::(6,.u (fQN (z:Rat)))::[]) s
  (oc zA<|oc (zG zC zXT (fun O W hb (U:O=.int .i64 z)=>zVb z U hz))<|oc (jX (fun u W (I:u=.int .u32 1)=>zRw I))<|oc (jF (fun u v W (I:NV W u z) (J:qQ W v 1)=>zJb (q:=(z:Rat)) I J))<|zB) fun a w2 s=>zR (CU.agg (fQN (z:Rat))) ((fQN (z:Rat)).tS) rfl s kA rfl rfl rfl iiz iiz yJ fun a w s=>zD rfl<|pU<|wI s (CU.agg (fQN (z:Rat))) rfl kA rfl rfl (qW _) (fun cs W h=>h)
theorem zER(k:Int)(d:Nat)(h:0<d):(if decide (k<0)then -((k.natAbs/Nat.gcd k.natAbs d:Nat):Int)else((k.natAbs/Nat.gcd k.natAbs d:Nat):Int))=(mkRat k d).num:=by
 have I:=zEb k d h
 have h2:=zCJ k d h
 rw[<-I,<-h2]
 by_cases hs:(mkRat k d).num<0
 .rw[lI hs,if_pos rfl]
  omega
 .rw[xY hs,if_neg dA]
  omega
theorem zTf{k:Int}(h:UV W m v k)(h':LV W m v' d)(hm:m<=2000)(U:d=0):Calls prog 55 #[v,v'] W (Ret W (zBC (fQN (mkRat k d)) (fI 30)).tS):=by
 have bk:k.natAbs<BB^m:=h.bound
 have hz:true=decide (d=0):=(lI U).symm
 have J:mkRat k d=((0:Int):Rat):=by rw[U,rZ];rfl
 refine z5 [(fUV m k).tS,(fLV m d).tS] func55 rfl kA ⟨h,h',trivial⟩ fun a s=>lQ<|rgK 0 [] s
  zB fun a w1 s=>yN (CU.agg (fUV m k)) rfl s kA (fun v W h=>zRi h) fun b2 a w s=>z9 (CU.len 3) (cs:=zR3) kA rfl s kA (fun W=>rfl) rfl fun b4 a w s=>yO (uI 0) rfl s kA iiz fun a w s=>zD rfl<|lQ<|rgQ ((18,.Z (fLV m d))::(19,.Z (jB d))::(20,.s (zRZ d))::(21,.u (uB true))::[]) s
  (oc zA<|oc (zG zC zQY (fun I W hb (O:LV W m I d)=>(zEx O oA)))<|oc (zED kA iiz)<|oc (zEE hz)<|zB) fun a w2 s=>StS.cond s true iiz (fun e=>?_) (fun e=>by cases e)
 refine lQ ?_
 replace s:=s.drop [5]
 exact rgK 1 ((22,.u (fQN ((0:Int):Rat)))::[]) s
  (oc (zG zC zL6 (fun I W hb (O:I=.int .i64 0)=>zGx 0 O dA))<|zB) fun a w3 s=>zR (CU.agg (fQN ((0:Int):Rat))) ((fQN ((0:Int):Rat)).tS) rfl s kA rfl rfl rfl iiz iiz yJ fun a w s=>yO (uI 30) rfl s kA iiz fun a w s=>zD rfl<|pU<|wW s (CU.agg (fQN ((0:Int):Rat))) rfl kA rfl rfl (qW _) (fun cs v W h1 h2=>⟨_,_,rfl,by rw[J];exact h1,h2⟩)
theorem zNf{k:Int}(h:UV W m v k)(h':LV W m v' d)(hm:m<=2000)(O:0<d):Calls prog 55 #[v,v'] W (Ret W (zBC (fQN (mkRat k d)) (fI 0)).tS):=by
 have bk:k.natAbs<BB^m:=h.bound
 have hz:false=decide (d=0):=(xY oA).symm
 have h9:∀W I U x,LV W m I x->qQ W U (Nat.gcd k.natAbs d)->Calls prog 85 #[I,U] W (Ret W (zGh (jB (x/(Nat.gcd k.natAbs d))) (jB (x%(Nat.gcd k.natAbs d))) (fI 0)).tS):=fun W I U x h1 h2=>by
  refine(zU6 h1 (qQ.lv (m:=m) h2 (mY (Nat.gcd_le_right _ O) h'.bound)) oA (Nat.gcd_pos_of_pos_right _ O)).mono ?_
  rintro e w' ⟨v1,v2,rfl,h3,h4,hb⟩
  exact⟨_,rfl,⟨v1,v2,_,rfl,h3,h4,rfl⟩,hb⟩
 refine z5 [(fUV m k).tS,(fLV m d).tS] func55 rfl kA ⟨h,h',trivial⟩ fun a s=>lQ<|rgK 0 [] s
  zB fun a w1 s=>yN (CU.agg (fUV m k)) rfl s kA (fun v W h=>zRi h) fun b2 a w s=>z9 (CU.len 3) (cs:=zR3) kA rfl s kA (fun W=>rfl) rfl fun b4 a w s=>yO (uI 0) rfl s kA iiz fun a w s=>zD rfl<|lQ<|rgQ ((18,.Z (fLV m d))::(19,.Z (jB d))::(20,.s (zRZ d))::(21,.u (uB false))::[]) s
  (oc zA<|oc (zG zC zQY (fun I W hb (J:LV W m I d)=>(zEx J oA)))<|oc (zED kA iiz)<|oc (zEE hz)<|zB) fun a w2 s=>StS.cond s false iiz (fun e=>by cases e) (fun e=>?_)
 refine pV<|lQ<|rgK 2 ((23,.Z (fUV m k))::(24,.u (fNV k))::[]) s
  (oc (zH (f:=fUV m k) 2 kA (hz:=zRh _ _))<|oc (zG zC zT3 (fun I W hb (J:UV W m I k)=>zHn J oA))<|zB) fun a w3 s=>zR (CU.agg (fNV k)) ((fNV k).tS) rfl s kA rfl rfl rfl (zRh _ _) iiz zHz fun a w s=>zD rfl<|rgQ ((26,.X (fNV k) 1)::(27,.Z (jB ((k).natAbs)))::(28,.Z (zBC (UF.eq (.int .u64 ((zJ ((k).natAbs):Nat):Int))) (uB (yW ((k).natAbs)))))::(25,.Z (zBC (UF.eq (.int .u64 ((zJ ((k).natAbs):Nat):Int))) (uB (yW ((k).natAbs)))))::(29,.Z (UF.eq (.int .u64 ((zJ ((k).natAbs):Nat):Int))))::(30,.Z (uB (yW ((k).natAbs))))::(6,.u (UF.eq (.int .u64 ((zJ ((k).natAbs):Nat):Int))))::(7,.u (uB (yW ((k).natAbs))))::[]) s
  (oc (zN (C:=cg (fNV k)) 1 kA)<|oc (jU (C:=cg (fNV k)) (k:=1) kA (h:=zIP))<|oc (zG zC zVT (fun I W hb (J:qQ W I ((k).natAbs))=>zIz (qQ.lv (m:=m) J bk) oA))<|oc zA<|oc (zBR (A:=(UF.eq (.int .u64 ((zJ ((k).natAbs):Nat):Int))).tS) (B:=(uB (yW ((k).natAbs))).tS) iiz)<|oc (zBQ (A:=(UF.eq (.int .u64 ((zJ ((k).natAbs):Nat):Int))).tS) (B:=(uB (yW ((k).natAbs))).tS) iiz)<|oc zE<|oc zE<|zB) fun a w4 s=>rgQ ((32,.Z (fLV m d))::(33,.Z (zBC (UF.eq (.int .u64 ((zJ d:Nat):Int))) (uB (yW d))))::(31,.Z (zBC (UF.eq (.int .u64 ((zJ d:Nat):Int))) (uB (yW d))))::(34,.Z (UF.eq (.int .u64 ((zJ d:Nat):Int))))::(35,.Z (uB (yW d)))::(8,.u (UF.eq (.int .u64 ((zJ d:Nat):Int))))::(9,.u (uB (yW d)))::[]) s
  (oc zA<|oc (zG zC zVT (fun I W hb (J:LV W m I d)=>zIz J oA))<|oc zA<|oc (zBR (A:=(UF.eq (.int .u64 ((zJ d:Nat):Int))).tS) (B:=(uB (yW d)).tS) iiz)<|oc (zBQ (A:=(UF.eq (.int .u64 ((zJ d:Nat):Int))).tS) (B:=(uB (yW d)).tS) iiz)<|oc zE<|oc zE<|zB) fun a w5 s=>lQ<|rgQ ((36,.Z (uB (yW ((k).natAbs))))::(37,.Z (uB (yW ((k).natAbs))))::(38,.s (SF.imp ((yW ((k).natAbs))=true) ((uB (yW d)).tS)))::(39,.u (uB ((yW ((k).natAbs))&&(yW d))))::[]) s
  (oc zA<|oc zA<|oc (zF 37 (yW ((k).natAbs)) kA iiz (fun e=>yU [] ((uB (yW d)).tS) fnz fO kA zA) fN)<|oc (yS (yW ((k).natAbs)) iiz (fun e v W h=>zCE (yE e h) e) (fun e v W h=>zBZ h e))<|zB) fun a w6 s=>StS.cond s ((yW ((k).natAbs))&&(yW d)) iiz (fun e=>?_) (fun e=>?_)
 .rw[xV]at e
  have hd:zJ k.natAbs=k.natAbs:=by have:=e.1;unfold yW at this;unfold zJ;rw[if_pos (xW this)]
  have ha:zJ d=d:=by have:=e.2;unfold yW at this;unfold zJ;rw[if_pos (xW this)]
  have he:((Nat.gcd (zJ k.natAbs) (zJ d):Nat):Int)≠0:=by rw[hd,ha];have:=Nat.gcd_pos_of_pos_right k.natAbs O;omega
  have h6:(mkRat k d).den=zJ d/(Nat.gcd (zJ k.natAbs) (zJ d)):=by rw[hd,ha];exact zC5 k d O
  have hc:∀x,x<18446744073709551616->x<BB^zOu:=fun x hx=>zVB hx _ dA
  have h8:∀W u,UV W zOu u (if decide (k<0)then -(((zJ k.natAbs/(Nat.gcd (zJ k.natAbs) (zJ d))):Nat):Int)else(((zJ k.natAbs/(Nat.gcd (zJ k.natAbs) (zJ d))):Nat):Int))->Calls prog 69 #[u] W (zH8 W (mkRat k d).num):=fun W u hu=>by
   have:=zHn hu dA
   rw[hd,ha,zER k d O]at this
   exact this
  refine rgQ ((40,.Z (UF.eq (.int .u64 ((zJ ((k).natAbs):Nat):Int))))::(41,.Z (UF.eq (.int .u64 ((zJ d:Nat):Int))))::(42,.Z (UF.eq (.int .u64 ((Nat.gcd (zJ k.natAbs) (zJ d):Nat):Int))))::(10,.u (UF.eq (.int .u64 ((Nat.gcd (zJ k.natAbs) (zJ d):Nat):Int))))::[]) s
   (oc zA<|oc zA<|oc (zI zC zXE (fun I U W hb (J:I=.int .u64 ((zJ ((k).natAbs):Nat):Int)) (h1:U=.int .u64 ((zJ d:Nat):Int))=>zNe _ _ J h1 (zA0 _) (zA0 _)))<|oc zE<|zB) fun a w7 s=>lQ ?_
  replace s:=s.drop [5]
  refine yL [2,3,8,9] 13 ((43,.X (fNV k) 0)::(44,.Z (uB (decide (k<0))))::(45,.Z (UF.eq (.int .u64 ((zJ ((k).natAbs):Nat):Int))))::(46,.Z (UF.eq (.int .u64 ((Nat.gcd (zJ k.natAbs) (zJ d):Nat):Int))))::(47,.Z (UF.eq (.int .u64 ((zJ k.natAbs/(Nat.gcd (zJ k.natAbs) (zJ d)):Nat):Int))))::(48,.Z (jB (zJ k.natAbs/(Nat.gcd (zJ k.natAbs) (zJ d)))))::(49,.Z (fUV zOu (if decide (k<0)then -((zJ k.natAbs/(Nat.gcd (zJ k.natAbs) (zJ d)):Nat):Int)else((zJ k.natAbs/(Nat.gcd (zJ k.natAbs) (zJ d)):Nat):Int))))::(50,.Z (fNV ((mkRat k d).num)))::(51,.Z (UF.eq (.int .u64 ((zJ d:Nat):Int))))::(52,.Z (UF.eq (.int .u64 ((Nat.gcd (zJ k.natAbs) (zJ d):Nat):Int))))::(53,.Z (UF.eq (.int .u64 ((zJ d/(Nat.gcd (zJ k.natAbs) (zJ d)):Nat):Int))))::(54,.Z (jB (zJ d/(Nat.gcd (zJ k.natAbs) (zJ d)))))::(55,.u (fQN (mkRat k d)))::[]) hmix s kA
   (oc (zN (C:=cg (fNV k)) 0 kA)<|oc (jU (C:=cg (fNV k)) (k:=0) kA (h:=zNP))<|oc zA<|oc zA<|oc (zNK .u64 ((zJ ((k).natAbs):Nat):Int) ((Nat.gcd (zJ k.natAbs) (zJ d):Nat):Int) ((zJ k.natAbs/(Nat.gcd (zJ k.natAbs) (zJ d)):Nat):Int) iiz iiz he (zUC _ _ (by rw[sU oA,pH]) (mY (rP _ _) (zA0 _))))<|oc (zG zC zVW (fun I W hb (J:I=.int .u64 ((zJ k.natAbs/(Nat.gcd (zJ k.natAbs) (zJ d)):Nat):Int))=>zRD _ (mY (rP _ _) (zA0 _)) J))<|oc (jF (fun u v W (hu:u=.bool (decide (k<0))) (hv:qQ W v (zJ k.natAbs/(Nat.gcd (zJ k.natAbs) (zJ d))))=>zUl hu hv (hc _ (by first|exact mY (rP _ _) (zA0 _)|exact hk64|exact mY (rP _ _) (vU bk (vZ qC (xQ hm dA)))))))<|oc (zG zC zT3 (fun I W hb (J:UV W zOu I (if decide (k<0)then -((zJ k.natAbs/(Nat.gcd (zJ k.natAbs) (zJ d)):Nat):Int)else((zJ k.natAbs/(Nat.gcd (zJ k.natAbs) (zJ d)):Nat):Int)))=>h8 W I (J:UV W zOu I _)))<|oc zA<|oc zA<|oc (zNK .u64 ((zJ d:Nat):Int) ((Nat.gcd (zJ k.natAbs) (zJ d):Nat):Int) ((zJ d/(Nat.gcd (zJ k.natAbs) (zJ d)):Nat):Int) iiz iiz he (zUC _ _ (by rw[sU oA,pH]) (mY (rP _ _) (zA0 _))))<|oc (zG zC zVW (fun I W hb (J:I=.int .u64 ((zJ d/(Nat.gcd (zJ k.natAbs) (zJ d)):Nat):Int))=>zRD _ (mY (rP _ _) (zA0 _)) J))<|oc (jF (fun u v W (hu:NV W u ((mkRat k d).num)) (hv:qQ W v (zJ d/(Nat.gcd (zJ k.natAbs) (zJ d))))=>zJb (q:=mkRat k d) hu (by first|exact hv|(rw[h6];exact hv))))<|zB) fun Q' hQ a w8 s=>zR (CU.agg (fQN (mkRat k d))) ((fQN (mkRat k d)).tS) rfl s kA rfl rfl rfl iiz iiz yJ fun a w s=>yO (uI 0) rfl s kA iiz fun a w s=>zD rfl (hQ _ _ ?_)
  exact pU<|wW s (CU.agg (fQN (mkRat k d))) rfl kA rfl rfl (qW _) (fun cs v W h1 h2=>⟨_,_,rfl,h1,h2⟩)
 .have hc:∀x,x<BB^zOu->x<BB^zOu:=fun x hx=>hx
  have h6:(mkRat k d).den=d/(Nat.gcd k.natAbs d):=zC5 k d O
  have h8:∀W u,UV W zOu u (if decide (k<0)then -((((k).natAbs/(Nat.gcd k.natAbs d)):Nat):Int)else((((k).natAbs/(Nat.gcd k.natAbs d)):Nat):Int))->Calls prog 69 #[u] W (zH8 W (mkRat k d).num):=fun W u hu=>by
   have:=zHn hu dA
   rw[zER k d O]at this
   exact this
  refine pV<|rgQ ((56,.X (fNV k) 1)::(57,.Z (jB ((k).natAbs)))::(58,.Z (fLV m d))::(59,.Z (jB (Nat.gcd k.natAbs d)))::(11,.u (jB (Nat.gcd k.natAbs d)))::[]) s
   (oc (zN (C:=cg (fNV k)) 1 kA)<|oc (jU (C:=cg (fNV k)) (k:=1) kA (h:=zIP))<|oc zA<|oc (zI zC zXD (fun I U W hb (J:qQ W I ((k).natAbs)) (h1:LV W m U d)=>zTo (qQ.lv (m:=m) J bk) h1 oA))<|oc zE<|zB) fun a w9 s=>rgQ ((61,.X (fNV k) 1)::(62,.Z (jB ((k).natAbs)))::(63,.Z (jB (Nat.gcd k.natAbs d)))::(64,.Z (zGh (jB (((k).natAbs)/(Nat.gcd k.natAbs d))) (jB (((k).natAbs)%(Nat.gcd k.natAbs d))) (uI 0)))::(60,.Z (zGh (jB (((k).natAbs)/(Nat.gcd k.natAbs d))) (jB (((k).natAbs)%(Nat.gcd k.natAbs d))) (uI 0)))::(65,.Z (jB (((k).natAbs)/(Nat.gcd k.natAbs d))))::(66,.Z (jB (((k).natAbs)%(Nat.gcd k.natAbs d))))::(67,.Z (uI 0))::(12,.u (jB (((k).natAbs)/(Nat.gcd k.natAbs d))))::(13,.Z (jB (((k).natAbs)%(Nat.gcd k.natAbs d))))::(14,.Z (uI 0))::[]) s
   (oc (zN (C:=cg (fNV k)) 1 kA)<|oc (jU (C:=cg (fNV k)) (k:=1) kA (h:=zIP))<|oc zA<|oc (zI zC zVS (fun I U W hb (J:qQ W I ((k).natAbs)) (h1:qQ W U (Nat.gcd k.natAbs d))=>h9 W I U _ (qQ.lv (m:=m) J bk) h1))<|oc zA<|oc (zFb (A:=(jB (((k).natAbs)/(Nat.gcd k.natAbs d))).tS) (B:=(jB (((k).natAbs)%(Nat.gcd k.natAbs d))).tS) (C:=(uI 0).tS) iiz)<|oc (zFa (A:=(jB (((k).natAbs)/(Nat.gcd k.natAbs d))).tS) (B:=(jB (((k).natAbs)%(Nat.gcd k.natAbs d))).tS) (C:=(uI 0).tS) iiz)<|oc (zE9 (A:=(jB (((k).natAbs)/(Nat.gcd k.natAbs d))).tS) (B:=(jB (((k).natAbs)%(Nat.gcd k.natAbs d))).tS) (C:=(uI 0).tS) iiz)<|oc zE<|oc zE<|oc zE<|zB) fun a w10 s=>rgQ ((69,.Z (fLV m d))::(70,.Z (jB (Nat.gcd k.natAbs d)))::(71,.Z (zGh (jB (d/(Nat.gcd k.natAbs d))) (jB (d%(Nat.gcd k.natAbs d))) (uI 0)))::(68,.Z (zGh (jB (d/(Nat.gcd k.natAbs d))) (jB (d%(Nat.gcd k.natAbs d))) (uI 0)))::(72,.Z (jB (d/(Nat.gcd k.natAbs d))))::(73,.Z (jB (d%(Nat.gcd k.natAbs d))))::(74,.Z (uI 0))::(15,.u (jB (d/(Nat.gcd k.natAbs d))))::(16,.Z (jB (d%(Nat.gcd k.natAbs d))))::(17,.Z (uI 0))::[]) s
   (oc zA<|oc zA<|oc (zI zC zVS (fun I U W hb (J:LV W m I d) (h1:qQ W U (Nat.gcd k.natAbs d))=>h9 W I U _ J h1))<|oc zA<|oc (zFb (A:=(jB (d/(Nat.gcd k.natAbs d))).tS) (B:=(jB (d%(Nat.gcd k.natAbs d))).tS) (C:=(uI 0).tS) iiz)<|oc (zFa (A:=(jB (d/(Nat.gcd k.natAbs d))).tS) (B:=(jB (d%(Nat.gcd k.natAbs d))).tS) (C:=(uI 0).tS) iiz)<|oc (zE9 (A:=(jB (d/(Nat.gcd k.natAbs d))).tS) (B:=(jB (d%(Nat.gcd k.natAbs d))).tS) (C:=(uI 0).tS) iiz)<|oc zE<|oc zE<|oc zE<|zB) fun a w11 s=>lQ ?_
  replace s:=s.drop [5]
  exact rgK 7 ((75,.X (fNV k) 0)::(76,.Z (uB (decide (k<0))))::(77,.Z (jB (((k).natAbs)/(Nat.gcd k.natAbs d))))::(78,.Z (fUV zOu (if decide (k<0)then -((((k).natAbs)/(Nat.gcd k.natAbs d):Nat):Int)else((((k).natAbs)/(Nat.gcd k.natAbs d):Nat):Int))))::(79,.Z (fNV ((mkRat k d).num)))::(80,.Z (jB (d/(Nat.gcd k.natAbs d))))::(81,.u (fQN (mkRat k d)))::[]) s
   (oc (zN (C:=cg (fNV k)) 0 kA)<|oc (jU (C:=cg (fNV k)) (k:=0) kA (h:=zNP))<|oc zA<|oc (jF (fun u v W (hu:u=.bool (decide (k<0))) (hv:qQ W v (((k).natAbs)/(Nat.gcd k.natAbs d)))=>zUl hu hv (hc _ (by first|exact mY (rP _ _) (zA0 _)|exact hk64|exact mY (rP _ _) (vU bk (vZ qC (xQ hm dA)))))))<|oc (zG zC zT3 (fun I W hb (J:UV W zOu I (if decide (k<0)then -((((k).natAbs)/(Nat.gcd k.natAbs d):Nat):Int)else((((k).natAbs)/(Nat.gcd k.natAbs d):Nat):Int)))=>h8 W I (J:UV W zOu I _)))<|oc zA<|oc (jF (fun u v W (hu:NV W u ((mkRat k d).num)) (hv:qQ W v (d/(Nat.gcd k.natAbs d)))=>zJb (q:=mkRat k d) hu (by first|exact hv|(rw[h6];exact hv))))<|zB) fun a w12 s=>zR (CU.agg (fQN (mkRat k d))) ((fQN (mkRat k d)).tS) rfl s kA rfl rfl rfl iiz iiz yJ fun a w s=>yO (uI 0) rfl s kA iiz fun a w s=>zD rfl<|pU<|wW s (CU.agg (fQN (mkRat k d))) rfl kA rfl rfl (qW _) (fun cs v W h1 h2=>⟨_,_,rfl,h1,h2⟩)
theorem zJA{k:Int}(h:UV W m v k)(J:LV W m v' d)(I:m<=2000):Calls prog 55 #[v,v'] W (Ret W (zBC (fQN (mkRat k d)) (fI (if d=0 then 30 else 0))).tS):=by
 by_cases hd:d=0
 .rw[if_pos hd]
  exact zTf h J I hd
 .rw[if_neg hd]
  exact zNf h J I oA
theorem zP0{k:Int}(h:QVp m k d v W)(I:m<=2000):Calls prog 43 #[v] W (Ret W (fQN (mkRat k d)).tS):=by
 exact z5 [(fQV m k d).tS] func43 rfl kA ⟨h,trivial⟩ fun a s=>lQ<|rgK 0 [] s
  zB fun a w1 s=>yN (CU.agg (fQV m k d)) rfl s kA (fun v W h=>zFJ h) fun b1 a w s=>z9 (CU.len 3) (cs:=zR3) kA rfl s kA (fun W=>rfl) rfl fun b2 a w s=>zD rfl<|lQ<|rgK 8 ((6,.X (fQV m k d) 0)::(7,.Z (fUV m k))::(8,.X (fQV m k d) 2)::(9,.Z (fLV m d))::(10,.Z (zBC (fQN (mkRat k d)) (uI (if d=0 then 30 else 0))))::(5,.Z (zBC (fQN (mkRat k d)) (uI (if d=0 then 30 else 0))))::(11,.u (fQN (mkRat k d)))::(12,.u (uI (if d=0 then 30 else 0)))::[]) s
  (oc (zN (C:=cg (fQV m k d)) 0 kA)<|oc (zV (C:=cg (fQV m k d)) (k:=0) 2 kA (h:=zNm))<|oc (zN (C:=cg (fQV m k d)) 2 kA)<|oc (jU (C:=cg (fQV m k d)) (k:=2) kA (h:=zIB))<|oc (zI zC zQW (fun J O W hb (U:UV W m J k) (h1:LV W m O d)=>zJA U h1 I))<|oc zA<|oc (zBR (A:=(fQN (mkRat k d)).tS) (B:=(uI (if d=0 then 30 else 0)).tS) iiz)<|oc (zBQ (A:=(fQN (mkRat k d)).tS) (B:=(uI (if d=0 then 30 else 0)).tS) iiz)<|zB) fun a w2 s=>z9 (CU.len 3) (cs:=zR3) kA rfl s kA (fun W=>rfl) rfl fun b3 a w s=>zR (CU.agg (fQN (mkRat k d))) ((fQN (mkRat k d)).tS) rfl s kA rfl rfl rfl iiz iiz yJ fun a w s=>yO (uI (if d=0 then 30 else 0)) rfl s kA iiz fun a w s=>zD rfl<|lQ<|rgK 1 ((13,.u (fQN (mkRat k d)))::[]) s
  (oc (zH (f:=fQN (mkRat k d)) 3 kA (hz:=qW _))<|zB) fun a w3 s=>zR (CU.agg (fQN (mkRat k d))) ((fQN (mkRat k d)).tS) rfl s kA rfl rfl rfl iiz iiz yJ fun a w s=>zD rfl<|pU<|wI s (CU.agg (fQN (mkRat k d))) rfl kA rfl rfl (qW _) (fun cs W h=>h)
theorem zBO{q:Rat}(h:RVp m q v W)(I:m<=2000):Calls prog 43 #[v] W (Ret W (fQN q).tS):=by
 obtain⟨k,d,J,rfl⟩:=h
 exact zP0 J I
theorem zNd(n:Int)(d:Nat)(J:0<d):(mkRat n d).num.sign=n.sign:=by
 have I:=rS.1 (zCJ n d J)
 have h2:(mkRat n d).num=0↔n=0:=by rw[tV,Rat.mkRat_eq_zero oA]
 rcases nV n 0 with h|h|h
 .rw[nU h,nU (I.2 h)]
 .rw[h2.2 h,h]
 .rw[nW h,nW (by have:=mt I.1 oA;have:=mt h2.1 oA;omega)]
theorem zPX{k:Int}(h:QVp m k d v W)(hm:m<=2000)(I:d=0):Calls prog 12 #[v] W (Ret W (fI 0).tS):=by
 have J:true=decide (d=0):=(lI I).symm
 refine z5 [(fQV m k d).tS] func12 rfl kA ⟨h,trivial⟩ fun a s=>lQ<|rgK 0 [] s
  zB fun a w1 s=>yN (CU.agg (fQV m k d)) rfl s kA (fun v W h=>zFJ h) fun b1 a w s=>yO (uI 0) rfl s kA iiz fun a w s=>zD rfl<|lQ<|rgQ ((3,.X (fQV m k d) 2)::(4,.Z (fLV m d))::(5,.Z (jB d))::(6,.s (zRZ d))::(7,.u (uB true))::[]) s
  (oc (zN (C:=cg (fQV m k d)) 2 kA)<|oc (jU (C:=cg (fQV m k d)) (k:=2) kA (h:=zIB))<|oc (zG zC zQY (fun O W hb (U:LV W m O d)=>(zEx U oA)))<|oc (zED kA iiz)<|oc (zEE J)<|zB) fun a w2 s=>StS.cond s true iiz (fun e=>?_) (fun e=>by cases e)
 refine lQ ?_
 replace s:=s.drop [2]
 exact rgE ((2,.u (uI 0))::[]) s
  (oc zE<|zB) fun a w3 s=>pU<|wF s (t:=2) rfl iiz
theorem zPY{k:Int}(h:QVp m k d v W)(hm:m<=2000)(hd:0<d):Calls prog 12 #[v] W (Ret W (fI k.sign).tS):=by
 have O:false=decide (d=0):=(xY oA).symm
 refine z5 [(fQV m k d).tS] func12 rfl kA ⟨h,trivial⟩ fun a s=>lQ<|rgK 0 [] s
  zB fun a w1 s=>yN (CU.agg (fQV m k d)) rfl s kA (fun v W h=>zFJ h) fun b1 a w s=>yO (uI 0) rfl s kA iiz fun a w s=>zD rfl<|lQ<|rgQ ((3,.X (fQV m k d) 2)::(4,.Z (fLV m d))::(5,.Z (jB d))::(6,.s (zRZ d))::(7,.u (uB false))::[]) s
  (oc (zN (C:=cg (fQV m k d)) 2 kA)<|oc (jU (C:=cg (fQV m k d)) (k:=2) kA (h:=zIB))<|oc (zG zC zQY (fun I W hb (J:LV W m I d)=>(zEx J oA)))<|oc (zED kA iiz)<|oc (zEE O)<|zB) fun a w2 s=>StS.cond s false iiz (fun e=>by cases e) (fun e=>?_)
 refine pV<|lQ ?_
 replace s:=s.drop [2]
 exact rgE ((8,.X (fQV m k d) 0)::(9,.Z (fUV m k))::(10,.Z (uI (k.sign)))::(2,.u (uI (k.sign)))::[]) s
  (oc (zN (C:=cg (fQV m k d)) 0 kA)<|oc (zV (C:=cg (fQV m k d)) (k:=0) 2 kA (h:=zNm))<|oc (zG zC zV3 (fun I W hb (J:UV W m I k)=>zFj (zKF J oA)))<|oc zE<|zB) fun a w3 s=>pU<|wF s (t:=2) rfl iiz
theorem zHm{q:Rat}(h:RVp m q v W)(I:m<=2000):Calls prog 12 #[v] W (Ret W (fI q.num.sign).tS):=by
 obtain⟨k,d,J,rfl⟩:=h
 by_cases hd:d=0
 .have:=zPX J I hd
  rw[hd,rZ]
  exact this
 .rw[zNd k d oA]
  exact zPY J I oA
theorem zTd{u:WE}{p q:Rat}(h:QNp p u W)(h':QNp q v W)(U:QB p m)(hq:QB q m)(hm:m<=990):Calls prog 42 #[u,v] W (Ret W (fQN (p+q)).tS):=by
 have h6:∀W I O,NV W I (((p).num*((q).den:Int))+((q).num*((p).den:Int)))->qQ W O ((p).den*(q).den)->Calls prog 55 #[I,O] W (Ret W (zBC (fQN (p+q)) UF.any).tS):=fun W I O J h1=>by
  have:=zJA (m:=m+m+1) (J.uv' (U.num_add hq)) (h1.lv (vU (U.den_mul hq) (vZ qC oA))) oA
  rw[<-Rat.add_def' p q]at this
  exact this.mono fun e w' ⟨v,e1,⟨x,y,e2,h2,_⟩,hb⟩=>⟨v,e1,⟨x,y,e2,h2,trivial⟩,hb⟩
 refine z5 [(fQN p).tS,(fQN q).tS] func42 rfl kA ⟨h,h',trivial⟩ fun a s=>lQ<|rgK 0 [] s
  zB fun a w1 s=>yN (CU.agg (fQN p)) rfl s kA (fun v W h=>zKK h) fun b2 a w s=>yN (CU.agg (fQN q)) rfl s kA (fun v W h=>zKK h) fun b3 a w s=>z9 (CU.len 3) (cs:=zR3) kA rfl s kA (fun W=>rfl) rfl fun b4 a w s=>zD rfl<|lQ ?_
 have so:=s.old;have sg:=s.gr
 refine zBr (fun i=> [24].contains i) [⟨25,5,28, [.bool false, sN, sN],wK w 28 (CU.len 3)⟩] 26 ((8,.X (fQN p) 0)::(9,.Z (fNV ((p).num)))::(10,.X (fQN q) 2)::(11,.Z (jB ((q).den)))::(12,.Z (fNV ((q).den:Int)))::(13,.s (zL4 (m+m) [(p).num,((q).den:Int)]))::(14,.Z (fNV ((p).num*((q).den:Int))))::(15,.X (fQN q) 0)::(16,.Z (fNV ((q).num)))::(17,.X (fQN p) 2)::(18,.Z (jB ((p).den)))::(19,.Z (fNV ((p).den:Int)))::(20,.s (zL4 (m+m) [(q).num,((p).den:Int)]))::(21,.Z (fNV ((q).num*((p).den:Int))))::(22,.s (zL4 (m+m) [((p).num*((q).den:Int)),((q).num*((p).den:Int))]))::(23,.Z (fNV (((p).num*((q).den:Int))+((q).num*((p).den:Int)))))::(24,.X (fQN p) 2)::(25,.Z (jB ((p).den)))::(26,.X (fQN q) 2)::(27,.Z (jB ((q).den)))::(28,.Z (jB ((p).den*(q).den)))::(29,.Z (zBC (fQN (p+q)) (UF.any)))::(7,.Z (zBC (fQN (p+q)) (UF.any)))::(30,.u (fQN (p+q)))::(5,.s (wK w 28 (CU.len 3)))::[]) hmix s (fmz ⟨⟨by show 25<26;decide,.tail _ (.tail _ (.tail _ (.tail _ (.tail _ (.tail _ (.tail _ (.tail _ (.tail _ zXi)))))))),⟨_,_,_,rfl⟩,by kernel_rfl,zBH (fun _=>rfl) rfl⟩,fnz⟩) kA
  (oc (zN (C:=cg (fQN p)) 0 kA)<|oc (zV (C:=cg (fQN p)) (k:=0) 2 kA (h:=zBk))<|oc (zN (C:=cg (fQN q)) 2 kA)<|oc (jU (C:=cg (fQN q)) (k:=2) kA (h:=zA2))<|oc (zG zC zQV (fun I W hb (J:qQ W I ((q).den))=>zKR J))<|oc (yH (fun u v W (hu:NV W u ((p).num)) (hv:NV W v ((q).den:Int))=>zBo (NV.uv' hu (Bd.mono (U).1 (m':=(m+m)) (by first|omega|decide))) (NV.uv' hv (Bd.mono (jI hq.2) (m':=(m+m)) (by first|omega|decide)))))<|oc (zG zC zL5 (fun I W hb (J:ISV W (m+m) I [(p).num,((q).den:Int)])=>zEz J (by show(m+m)*2+(m+m)+1<=40000;omega) fC fC))<|oc (zN (C:=cg (fQN q)) 0 kA)<|oc (zV (C:=cg (fQN q)) (k:=0) 2 kA (h:=zBk))<|oc (zN (C:=cg (fQN p)) 2 kA)<|oc (jU (C:=cg (fQN p)) (k:=2) kA (h:=zA2))<|oc (zG zC zQV (fun I W hb (J:qQ W I ((p).den))=>zKR J))<|oc (yH (fun u v W (hu:NV W u ((q).num)) (hv:NV W v ((p).den:Int))=>zBo (NV.uv' hu (Bd.mono (hq).1 (m':=(m+m)) (by first|omega|decide))) (NV.uv' hv (Bd.mono (jI U.2) (m':=(m+m)) (by first|omega|decide)))))<|oc (zG zC zL5 (fun I W hb (J:ISV W (m+m) I [(q).num,((p).den:Int)])=>zEz J (by show(m+m)*2+(m+m)+1<=40000;omega) fC fC))<|oc (yH (fun u v W (hu:NV W u ((p).num*((q).den:Int))) (hv:NV W v ((q).num*((p).den:Int)))=>zBo (NV.uv' hu (Bd.mul (U).1 (jI hq.2))) (NV.uv' hv (Bd.mul (hq).1 (jI U.2)))))<|oc (zG zC zXK (fun I W hb (J:ISV W (m+m) I [((p).num*((q).den:Int)),((q).num*((p).den:Int))])=>zTm J oA fC fC))<|oc (zN (C:=cg (fQN p)) 2 kA)<|oc (jU (C:=cg (fQN p)) (k:=2) kA (h:=zA2))<|oc (zN (C:=cg (fQN q)) 2 kA)<|oc (jU (C:=cg (fQN q)) (k:=2) kA (h:=zA2))<|oc (zI zC zT4 (fun I O W hb (J:qQ W I ((p).den)) (h1:qQ W O ((q).den))=>zM0 (qQ.lv (m:=m) J U.2) (qQ.lv (m:=m) h1 hq.2) oA))<|oc (zI zC zQW (fun I O W hb (J:NV W I (((p).num*((q).den:Int))+((q).num*((p).den:Int)))) (h1:qQ W O ((p).den*(q).den))=>h6 W I O J h1))<|oc zA<|oc (zBR (A:=(fQN (p+q)).tS) (B:=(UF.any).tS) iiz)<|oc (zBQ (A:=(fQN (p+q)).tS) (B:=(UF.any).tS) iiz)<|oc (zCH (cs:=zR3) kA (zBH (fun _=>rfl) rfl))<|zB) fun Q' hQ a w2 s hr hd=>?_
 obtain⟨b5,_,e5,s⟩:=s.adoptA false 5 (hr (_,_) (.tail _ (.tail _ (.tail _ (.tail _ (.tail _ (.tail _ (.tail _ (.tail _ (.tail _ zXi)))))))))) sg (fun y hy=>.inl (so y hy))
 refine zR (CU.agg (fQN (p+q))) ((fQN (p+q)).tS) rfl s kA rfl rfl rfl iiz iiz yJ fun a w s=>yO UF.any rfl s kA (fun _ _ _=>trivial) fun a w s=>zD rfl (hQ _ _ ?_)
 exact lQ<|rgK 1 ((32,.u (fQN (p+q)))::[]) s
  (oc (zH (f:=fQN (p+q)) 3 kA (hz:=qW _))<|zB) fun a w3 s=>zR (CU.agg (fQN (p+q))) ((fQN (p+q)).tS) rfl s kA rfl rfl rfl iiz iiz yJ fun a w s=>zD rfl<|pU<|wI s (CU.agg (fQN (p+q))) rfl kA rfl rfl (qW _) (fun cs W h=>h)
theorem zTg{q:Rat}(h:RVp m q v W)(hm:m<=990)(O:0<m):Calls prog 45 #[v] W (Ret W (fQN (-q)).tS):=by
 have hq:QB q m:=h.qb O
 refine z5 [(fRV m q).tS] func45 rfl kA ⟨h,trivial⟩ fun a s=>lQ<|rgK 0 [] s
  zB fun a w1 s=>yN (CU.agg (fRV m q)) rfl s kA (fun v W h=>zBj h) fun b1 a w s=>z9 (CU.len 3) (cs:=zR3) kA rfl s kA (fun W=>rfl) rfl fun b2 a w s=>zD rfl<|lQ<|rgK 2 ((3,.Z (fRV m q))::(4,.u (fQN q))::[]) s
  (oc (zH (f:=fRV m q) 3 kA (hz:=j7 _ _))<|oc (zG zC zH0 (fun I W hb (J:RVp m q I W)=>zBO J oA))<|zB) fun a w2 s=>zR (CU.agg (fQN q)) ((fQN q).tS) rfl s kA rfl rfl rfl (j7 _ _) iiz yJ fun a w s=>zD rfl<|lQ<|yL [] 6 ((5,.X (fQN q) 0)::(6,.Z (fNV ((q).num)))::(7,.Z (fNV (-(q).num)))::(8,.X (fQN q) 2)::(9,.Z (jB ((q).den)))::(10,.u (fQN (-q)))::[]) hmix s kA
  (oc (zN (C:=cg (fQN q)) 0 kA)<|oc (zV (C:=cg (fQN q)) (k:=0) 2 kA (h:=zBk))<|oc (zG zC zXJ (fun I W hb (J:NV W I ((q).num))=>zTk (NV.uv' J (hq).1) oA))<|oc (zN (C:=cg (fQN q)) 2 kA)<|oc (jU (C:=cg (fQN q)) (k:=2) kA (h:=zA2))<|oc (jF (fun u v W (U:NV W u (-(q).num)) (hv:qQ W v ((q).den))=>zJb (q:= -q) U hv))<|zB) fun Q' hQ a w3 s=>zR (CU.agg (fQN (-q))) ((fQN (-q)).tS) rfl s kA rfl rfl rfl iiz iiz yJ fun a w s=>zD rfl (hQ _ _ ?_)
 exact pU<|wI s (CU.agg (fQN (-q))) rfl kA rfl rfl (qW _) (fun cs W h=>h)
theorem zJB{u:WE}{p q:Rat}(h:RVp m p u W)(h':RVp m q v W)(hm:m<=990)(h4:0<m):Calls prog 46 #[u,v] W (Ret W (fI (qsg p q)).tS):=by
 have U:QB p m:=h.qb h4
 have O:QB q m:=h'.qb h4
 refine z5 [(fRV m p).tS,(fRV m q).tS] func46 rfl kA ⟨h,h',trivial⟩ fun a s=>lQ<|rgK 0 [] s
  zB fun a w1 s=>yN (CU.agg (fRV m p)) rfl s kA (fun v W h=>zBj h) fun b2 a w s=>yN (CU.agg (fRV m q)) rfl s kA (fun v W h=>zBj h) fun b3 a w s=>yO (uI 0) rfl s kA iiz fun a w s=>zD rfl<|lQ<|yL [] 4 ((5,.Z (fRV m p))::(6,.u (fQN p))::(7,.Z (fRV m q))::(8,.u (fQN q))::[]) hmix s kA
  (oc (zH (f:=fRV m p) 3 kA (hz:=j7 _ _))<|oc (zG zC zH0 (fun I W hb (J:RVp m p I W)=>zBO J oA))<|oc (zH (f:=fRV m q) 3 kA (hz:=j7 _ _))<|oc (zG zC zH0 (fun I W hb (J:RVp m q I W)=>zBO J oA))<|zB) fun Q' hQ a w2 s=>zR (CU.agg (fQN p)) ((fQN p).tS) rfl s kA rfl rfl rfl (j7 _ _) iiz yJ fun a w s=>zR (CU.agg (fQN q)) ((fQN q).tS) rfl s kA rfl rfl rfl (j7 _ _) iiz yJ fun a w s=>zD rfl (hQ _ _ ?_)
 refine lQ ?_
 replace s:=s.drop [4]
 exact rgE ((9,.X (fQN p) 0)::(10,.Z (fNV ((p).num)))::(11,.X (fQN q) 2)::(12,.Z (jB ((q).den)))::(13,.Z (fNV ((q).den:Int)))::(14,.s (zL4 (m+m) [(p).num,((q).den:Int)]))::(15,.Z (fNV ((p).num*((q).den:Int))))::(16,.X (fQN q) 0)::(17,.Z (fNV ((q).num)))::(18,.X (fQN p) 2)::(19,.Z (jB ((p).den)))::(20,.Z (fNV ((p).den:Int)))::(21,.s (zL4 (m+m) [(q).num,((p).den:Int)]))::(22,.Z (fNV ((q).num*((p).den:Int))))::(23,.Z (fNV (((p).num*((q).den:Int))-((q).num*((p).den:Int)))))::(24,.Z (uI (qsg p q)))::(4,.u (uI (qsg p q)))::[]) s
  (oc (zN (C:=cg (fQN p)) 0 kA)<|oc (zV (C:=cg (fQN p)) (k:=0) 2 kA (h:=zBk))<|oc (zN (C:=cg (fQN q)) 2 kA)<|oc (jU (C:=cg (fQN q)) (k:=2) kA (h:=zA2))<|oc (zG zC zQV (fun I W hb (J:qQ W I ((q).den))=>zKR J))<|oc (yH (fun u v W (hu:NV W u ((p).num)) (hv:NV W v ((q).den:Int))=>zBo (NV.uv' hu (Bd.mono (U).1 (m':=(m+m)) (by first|omega|decide))) (NV.uv' hv (Bd.mono (jI O.2) (m':=(m+m)) (by first|omega|decide)))))<|oc (zG zC zL5 (fun I W hb (J:ISV W (m+m) I [(p).num,((q).den:Int)])=>zEz J (by show(m+m)*2+(m+m)+1<=40000;omega) fC fC))<|oc (zN (C:=cg (fQN q)) 0 kA)<|oc (zV (C:=cg (fQN q)) (k:=0) 2 kA (h:=zBk))<|oc (zN (C:=cg (fQN p)) 2 kA)<|oc (jU (C:=cg (fQN p)) (k:=2) kA (h:=zA2))<|oc (zG zC zQV (fun I W hb (J:qQ W I ((p).den))=>zKR J))<|oc (yH (fun u v W (hu:NV W u ((q).num)) (hv:NV W v ((p).den:Int))=>zBo (NV.uv' hu (Bd.mono (O).1 (m':=(m+m)) (by first|omega|decide))) (NV.uv' hv (Bd.mono (jI U.2) (m':=(m+m)) (by first|omega|decide)))))<|oc (zG zC zL5 (fun I W hb (J:ISV W (m+m) I [(q).num,((p).den:Int)])=>zEz J (by show(m+m)*2+(m+m)+1<=40000;omega) fC fC))<|oc (zI zC zXI (fun I u1 W hb (J:NV W I ((p).num*((q).den:Int))) (h1:NV W u1 ((q).num*((p).den:Int)))=>zTj (NV.uv' J (Bd.mul (U).1 (jI O.2))) (NV.uv' h1 (Bd.mul (O).1 (jI U.2))) oA))<|oc (zG zC zV3 (fun I W hb (J:NV W I (((p).num*((q).den:Int))-((q).num*((p).den:Int))))=>zFj (zKF (NV.uv' J (Bd.sub (Bd.mul (U).1 (jI O.2)) (Bd.mul (O).1 (jI U.2)))) oA)))<|oc zE<|zB) fun a w3 s=>pU<|wF s (t:=4) rfl iiz
theorem zPZ{u:WE}{p q:Rat}(h:RVp m p u W)(O:RVp m q v W)(U:m<=990)(I:0<m):Calls prog 17 #[u,v] W (Ret W (fB (qsg p q==0)).tS):=by
 refine z5 [(fRV m p).tS,(fRV m q).tS] func17 rfl kA ⟨h,O,trivial⟩ fun a s=>lQ<|rgK 0 [] s
  zB fun a w1 s=>yN (CU.agg (fRV m p)) rfl s kA (fun v W h=>zBj h) fun b2 a w s=>yN (CU.agg (fRV m q)) rfl s kA (fun v W h=>zBj h) fun b3 a w s=>yO (uB false) rfl s kA iiz fun a w s=>zD rfl<|lQ ?_
 replace s:=s.drop [4]
 exact rgE ((5,.Z (fRV m p))::(6,.Z (fRV m q))::(7,.Z (uI (qsg p q)))::(8,.Z (uB ((qsg p q)==0)))::(4,.u (uB ((qsg p q)==0)))::[]) s
  (oc (zH (f:=fRV m p) 3 kA (hz:=j7 _ _))<|oc (zH (f:=fRV m q) 3 kA (hz:=j7 _ _))<|oc (zI zC zT8 (fun J u1 W hb (h0:RVp m p J W) (h1:RVp m q u1 W)=>zJB h0 h1 U I))<|oc (zM .i64 (qsg p q) 0 ((qsg p q)==0) iiz iiz rfl rfl)<|oc zE<|zB) fun a w2 s=>pU<|wF s (t:=4) rfl iiz
theorem zTe{u:WE}{p q:Rat}(h:RVp m p u W)(h':RVp m q v W)(hm:m<=990)(h7:0<m):Calls prog 25 #[u,v] W (Ret W (zBC (fQN (p/q)) (fI (if q=0 then 30 else 0))).tS):=by
 have hp:QB p m:=h.qb h7
 have hq:QB q m:=h'.qb h7
 have hd:Bd (if decide ((q).num<0)then -((q).den:Int)else((q).den:Int)) m:=by split;exact(jI hq.2).neg;exact jI hq.2
 have h4:mkRat ((p).num*(if decide ((q).num<0)then -((q).den:Int)else((q).den:Int))) ((p).den*(q).num.natAbs)=p/q:=zS8 p q
 have h6:((p).den*(q).num.natAbs=0)=(q=0):=by rw[Nat.mul_eq_zero,Int.natAbs_eq_zero,tV];have:=p.den_pos;simp;omega
 have h5:∀W I O,NV W I ((p).num*(if decide ((q).num<0)then -((q).den:Int)else((q).den:Int)))->qQ W O ((p).den*(q).num.natAbs)->Calls prog 55 #[I,O] W (Ret W (zBC (fQN (p/q)) (fI (if q=0 then 30 else 0))).tS):=fun W I O J U=>by
  have:=zJA (m:=m+m) (J.uv' (Bd.mul hp.1 hd)) (U.lv (zEB hp.2 hq.1)) oA
  simp only[h4,h6]at this
  exact this
 refine z5 [(fRV m p).tS,(fRV m q).tS] func25 rfl kA ⟨h,h',trivial⟩ fun a s=>lQ<|rgK 0 [] s
  zB fun a w1 s=>yN (CU.agg (fRV m p)) rfl s kA (fun v W h=>zBj h) fun b2 a w s=>yN (CU.agg (fRV m q)) rfl s kA (fun v W h=>zBj h) fun b3 a w s=>z9 (CU.len 3) (cs:=zR3) kA rfl s kA (fun W=>rfl) rfl fun b4 a w s=>yO (uI 0) rfl s kA iiz fun a w s=>zD rfl<|lQ<|yL [] 4 ((6,.Z (fRV m p))::(7,.u (fQN p))::(8,.Z (fRV m q))::(9,.u (fQN q))::[]) hmix s kA
  (oc (zH (f:=fRV m p) 3 kA (hz:=j7 _ _))<|oc (zG zC zH0 (fun I W hb (J:RVp m p I W)=>zBO J oA))<|oc (zH (f:=fRV m q) 3 kA (hz:=j7 _ _))<|oc (zG zC zH0 (fun I W hb (J:RVp m q I W)=>zBO J oA))<|zB) fun Q' hQ a w2 s=>zR (CU.agg (fQN p)) ((fQN p).tS) rfl s kA rfl rfl rfl (j7 _ _) iiz yJ fun a w s=>zR (CU.agg (fQN q)) ((fQN q).tS) rfl s kA rfl rfl rfl (j7 _ _) iiz yJ fun a w s=>zD rfl (hQ _ _ ?_)
 refine lQ ?_
 replace s:=s.drop [5]
 refine yL [] 19 ((10,.X (fQN p) 0)::(11,.Z (fNV ((p).num)))::(12,.X (fQN q) 0)::(13,.X (fQN q) 0)::(14,.Z (uB (decide ((q).num<0))))::(15,.X (fQN q) 2)::(16,.Z (jB ((q).den)))::(17,.Z (fUV m (if decide ((q).num<0)then -((q).den:Int)else((q).den:Int))))::(18,.s (zL4 (m+m) [(p).num,(if decide ((q).num<0)then -((q).den:Int)else((q).den:Int))]))::(19,.Z (fNV ((p).num*(if decide ((q).num<0)then -((q).den:Int)else((q).den:Int)))))::(20,.X (fQN p) 2)::(21,.Z (jB ((p).den)))::(22,.X (fQN q) 0)::(23,.X (fQN q) 1)::(24,.Z (jB ((q).num.natAbs)))::(25,.Z (jB ((p).den*(q).num.natAbs)))::(26,.Z (zBC (fQN (p/q)) (uI (if q=0 then 30 else 0))))::(27,.u (fQN (p/q)))::(28,.u (uI (if q=0 then 30 else 0)))::[]) hmix s kA
  (oc (zN (C:=cg (fQN p)) 0 kA)<|oc (zV (C:=cg (fQN p)) (k:=0) 2 kA (h:=zBk))<|oc (zN (C:=cg (fQN q)) 0 kA)<|oc (qJ (C:=cg (fQN q)) 0 0 kA)<|oc (jU (C:=cg (fQN q)) (k:=0) kA (h:=zVe))<|oc (zN (C:=cg (fQN q)) 2 kA)<|oc (jU (C:=cg (fQN q)) (k:=2) kA (h:=zA2))<|oc (jF (fun u v W (hu:u=.bool (decide ((q).num<0))) (hv:qQ W v ((q).den))=>zUl hu hv hq.2))<|oc (yH (fun u v W (hu:NV W u ((p).num)) (hv:UV W m v (if decide ((q).num<0)then -((q).den:Int)else((q).den:Int)))=>zBo (NV.uv' hu (Bd.mono (hp).1 (m':=(m+m)) (by first|omega|decide))) (UV.mono hv (m':=(m+m)) (by first|omega|decide))))<|oc (zG zC zL5 (fun I W hb (J:ISV W (m+m) I [(p).num,(if decide ((q).num<0)then -((q).den:Int)else((q).den:Int))])=>zEz J (by show(m+m)*2+(m+m)+1<=40000;omega) fC fC))<|oc (zN (C:=cg (fQN p)) 2 kA)<|oc (jU (C:=cg (fQN p)) (k:=2) kA (h:=zA2))<|oc (zN (C:=cg (fQN q)) 0 kA)<|oc (qJ (C:=cg (fQN q)) 0 1 kA)<|oc (jU (C:=cg (fQN q)) (k:=1) kA (h:=zVf))<|oc (zI zC zT4 (fun I O W hb (J:qQ W I ((p).den)) (U:qQ W O ((q).num.natAbs))=>zM0 (qQ.lv (m:=m) J hp.2) (qQ.lv (m:=m) U hq.1) oA))<|oc (zI zC zQW (fun I O W hb (J:NV W I ((p).num*(if decide ((q).num<0)then -((q).den:Int)else((q).den:Int)))) (U:qQ W O ((p).den*(q).num.natAbs))=>h5 W I O J U))<|oc (zBR (A:=(fQN (p/q)).tS) (B:=(uI (if q=0 then 30 else 0)).tS) iiz)<|oc (zBQ (A:=(fQN (p/q)).tS) (B:=(uI (if q=0 then 30 else 0)).tS) iiz)<|zB) fun Q' hQ a w3 s=>zR (CU.agg (fQN (p/q))) ((fQN (p/q)).tS) rfl s kA rfl rfl rfl iiz iiz yJ fun a w s=>yO (uI (if q=0 then 30 else 0)) rfl s kA iiz fun a w s=>zD rfl (hQ _ _ ?_)
 exact pU<|wW s (CU.agg (fQN (p/q))) rfl kA rfl rfl (qW _) (fun cs v W U h2=>⟨_,_,rfl,U,h2⟩)
theorem zNZ{b o:Nat}{ds:List WE}(k:Nat)(h:Mem W b o cs)(J:∀j u,ds[j]?=some u->cs[k+j]?=some u):Mem W b (o+k) ds:=fun j u I=>by
 have:=h (k+j) u (J j u I)
 rwa [<-uS]at this
abbrev rvs(m:Nat)(qs:List Rat):List CU:=qs.map fun q=>CU.agg (fRV m q)
theorem zMT(h:k<qs.length):(rvs m qs)[k]?=some (CU.agg (fRV m (qAt qs k))):=by
 rw[tJ,nG h]
 simp[qAt,h]
theorem zNp(h:k<qs.length):qAt qs k∈qs:=by
 simp[qAt,h]
theorem zKy{q:Rat}(h:RVp m q v W):∃s A n c D i j,v=.agg #[.bool s,.slice A n c,.slice D i j]:=by
 obtain⟨k,d,I,_⟩:=h
 exact zEA I
theorem zCP{u:WE}{p q:Rat}(hu:RVp m p u W)(hv:RVp m q v W):∃e cs,yD prog 73 2 [(0,u),(1,v)]=some (e,cs)/\(SF.row 3 (rvs m [p,q])).p (.slice (some ⟨W.heap.size,0,none⟩) 2 2) (W.alloc (.cells cs e)):=by
 obtain⟨s,A,n,c,D,i,j,rfl⟩:=zKy hu
 obtain⟨s',A',n',c',U,J,O,rfl⟩:=zKy hv
 refine⟨_,_,zRy s s' A A' D U n n' c c' i J j O,some ⟨W.heap.size,0,none⟩,2,rfl,vP _,by decide,fun e=>(by cases e),fun x C hx=>?_⟩
 have hb:=zCO W (.cells #[.bool s,.slice A n c,.slice D i j,.bool s',.slice A' n' c',.slice U J O] 28)
 have hm:=zBt W #[.bool s,.slice A n c,.slice D i j,.bool s',.slice A' n' c',.slice U J O] 28
 rcases(by have:=(bE.1 hx).1;simp at this;omega:x=0∨x=1)with rfl|rfl
 .obtain rfl:CU.agg (fRV m p)=C:=by simpa using hx
  exact⟨W.heap.size,0, [.bool s,.slice A n c,.slice D i j],rfl,zNZ 0 hm (fun j u I=>by match j with|0=>exact I|1=>exact I|2=>exact I|j+3=>simp at I),(fRV m p).tS.st _ _ _ hu hb⟩
 .obtain rfl:CU.agg (fRV m q)=C:=by simpa using hx
  exact⟨W.heap.size,0, [.bool s',.slice A' n' c',.slice U J O],rfl,zNZ 3 hm (fun j u I=>by match j with|0=>exact I|1=>exact I|2=>exact I|j+3=>simp at I),(fRV m q).tS.st _ _ _ hv hb⟩
theorem zTi(M:Nat)(h:(SF.row 3 (rvs m qs)).p v W)(_hm0:0<m)(hmM:m<=M)(hM:M<=990)(hl:qs.length<=1000000)(hq:∀q,q∈qs->QB q m)(hp:∀k,k<qs.length->QB (zDS qs k) M):Calls prog 13 #[v] W (Ret W (fQN (zDS qs qs.length)).tS):=by
 refine z5 [SF.row 3 (rvs m qs)] func13 rfl kA ⟨h,trivial⟩ fun a s=>lQ<|rgK 0 [] s
  zB fun a w1 s=>z9 (CU.len 3) (cs:=zR3) kA rfl s kA (fun W=>rfl) rfl fun b2 a w s=>zD rfl<|lQ<|rgK 1 ((5,.u (fQN ((0:Int):Rat)))::[]) s
  (oc (zG zC zL6 (fun J W hb (O:J=.int .i64 0)=>zGx 0 O dA))<|zB) fun a w2 s=>z9 (CU.len 3) (cs:=zR3) kA rfl s kA (fun W=>rfl) rfl fun b3 a w s=>zR (CU.agg (fQN ((0:Int):Rat))) ((fQN ((0:Int):Rat)).tS) rfl s kA rfl rfl rfl iiz iiz yJ fun a w s=>zD rfl<|lQ<|rgQ ((4,.u (uI 0))::[]) s
  (oc zE<|zB) fun a w3 s=>tQ<|zDY 3 (fun p=>CU.agg (fQN (zDS qs p))) (fun p=>p<=qs.length) (fun p=> [(0,.o (SF.row 3 (rvs m qs))),(4,.u (fI ((p:Nat):Int)))]) (fun p=>qs.length-p) (0:Nat) (vR _) (s.keepK _ (fmz ⟨mz2,fmz ⟨.head _,fnz⟩⟩)) rfl fun p a w hx s=>lQ<|rgQ ((6,.Z (fI (p:Int)))::(7,.s (SF.row 3 (rvs m qs)))::(8,.Z (uI ((rvs m qs).length:Int)))::(9,.u (uB (ltz p ((rvs m qs).length))))::[]) s
  (oc zA<|oc zA<|oc (zEC (z:=3) (Cs:=rvs m qs) kA iiz (fun _=>rfl))<|oc (zM .i64 (p:Int) ((rvs m qs).length:Int) (ltz p ((rvs m qs).length)) iiz iiz rfl rfl)<|zB) fun a w4 s=>StS.cond s (ltz p ((rvs m qs).length)) iiz (fun e=>?_) (fun e=>?_)
 .have I:p+1<=qs.length:=by have:=xW e;rw[bC]at this;omega
  have U:=zMT (m:=m) (k:=p) I
  have h4:=hq _ (zNp (k:=p) I)
  refine pV<|lQ<|tQ<|yL [1,2] 7 ((12,.Z (fQN (zDS qs p)))::(13,.s (SF.row 3 (rvs m qs)))::(14,.Z (fI (p:Int)))::(15,.Y (fRV m (qAt qs p)))::(16,.Z (fRV m (qAt qs p)))::(17,.Z (fQN (qAt qs p)))::(18,.u (fQN (zDS qs p+qAt qs p)))::[]) hmix s kA
   (oc (zH (f:=fQN (zDS qs p)) 3 kA (hz:=qW _))<|oc zA<|oc zA<|oc (zCe (z:=3) (Cs:=rvs m qs) (i:=p) (C:=CU.agg (fRV m (qAt qs p))) kA U iiz iiz)<|oc (zH (f:=fRV m (qAt qs p)) 3 kA (hz:=j7 _ _))<|oc (zG zC zH0 (fun J W hb (O:RVp m (qAt qs p) J W)=>zBO O oA))<|oc (zI zC zXS (fun J u1 W hb (O:QNp (zDS qs p) J W) (h1:QNp (qAt qs p) u1 W)=>zTd O h1 (hp p I) (h4.mono oA) oA))<|zB) fun Q' hQ a w5 s=>zR (CU.agg (fQN (zDS qs p+qAt qs p))) ((fQN (zDS qs p+qAt qs p)).tS) rfl s kA rfl rfl rfl (qW _) iiz yJ fun a w s=>zD rfl (hQ _ _ ?_)
  refine zW 2 ((10,.Z (fI (p:Int)))::(11,.u (fI ((p+1:Nat):Int)))::[]) s kA
   (oc zA<|oc (yI .i64 (p:Int) 1 ((p+1:Nat):Int) iiz iiz (wrap64 _ _ oA oA))<|zB) fun a w6 s=>?_
  replace s:=s.drop [4]
  exact yO (fI ((p+1:Nat):Int)) rfl s kA iiz fun a w s=>zD rfl<|⟨p+1,I,(by show qs.length-(p+1)<qs.length-p;omega),s.keepK _ (fmz ⟨mz4,fmz ⟨.head _,fnz⟩⟩)⟩
 .have I:p=qs.length:=by have:=nH e;rw[bC]at this;omega
  exact tR<|lQ<|rgK 1 ((19,.u (fQN (zDS qs p)))::[]) s
   (oc (zH (f:=fQN (zDS qs p)) 3 kA (hz:=qW _))<|zB) fun a w7 s=>zR (CU.agg (fQN (zDS qs p))) ((fQN (zDS qs p)).tS) rfl s kA rfl rfl rfl iiz iiz yJ fun a w s=>zD rfl<|pU<|wI s (CU.agg (fQN (zDS qs p))) rfl kA rfl rfl (qW _) (fun cs W h=>by rw[I]at h;exact h)
theorem zTh(M:Nat)(h:(SF.row 3 (rvs m qs)).p v W)(_hm0:0<m)(hmM:m<=M)(hM:M<=990)(hl:qs.length<=1000000)(hq:∀q,q∈qs->QB q m)(hp:∀k,k<qs.length->QB (jE qs k) M):Calls prog 58 #[v] W (Ret W (fQN (jE qs qs.length)).tS):=by
 refine z5 [SF.row 3 (rvs m qs)] func58 rfl kA ⟨h,trivial⟩ fun a s=>lQ<|rgK 0 [] s
  zB fun a w1 s=>z9 (CU.len 3) (cs:=zR3) kA rfl s kA (fun W=>rfl) rfl fun b2 a w s=>zD rfl<|lQ<|rgK 1 ((6,.u (fQN ((1:Int):Rat)))::[]) s
  (oc (zG zC zL6 (fun J W hb (O:J=.int .i64 1)=>zGx 1 O dA))<|zB) fun a w2 s=>z9 (CU.len 3) (cs:=zR3) kA rfl s kA (fun W=>rfl) rfl fun b3 a w s=>zR (CU.agg (fQN ((1:Int):Rat))) ((fQN ((1:Int):Rat)).tS) rfl s kA rfl rfl rfl iiz iiz yJ fun a w s=>zD rfl<|lQ<|rgQ ((4,.u (uI 0))::[]) s
  (oc zE<|zB) fun a w3 s=>tQ<|zDY 3 (fun p=>CU.agg (fQN (jE qs p))) (fun p=>p<=qs.length) (fun p=> [(0,.o (SF.row 3 (rvs m qs))),(4,.u (fI ((p:Nat):Int)))]) (fun p=>qs.length-p) (0:Nat) (vR _) (s.keepK _ (fmz ⟨mz2,fmz ⟨.head _,fnz⟩⟩)) rfl fun p a w hx s=>lQ<|rgQ ((7,.Z (fI (p:Int)))::(8,.s (SF.row 3 (rvs m qs)))::(9,.Z (uI ((rvs m qs).length:Int)))::(10,.u (uB (ltz p ((rvs m qs).length))))::[]) s
  (oc zA<|oc zA<|oc (zEC (z:=3) (Cs:=rvs m qs) kA iiz (fun _=>rfl))<|oc (zM .i64 (p:Int) ((rvs m qs).length:Int) (ltz p ((rvs m qs).length)) iiz iiz rfl rfl)<|zB) fun a w4 s=>StS.cond s (ltz p ((rvs m qs).length)) iiz (fun e=>?_) (fun e=>?_)
 .have I:p+1<=qs.length:=by have:=xW e;rw[bC]at this;omega
  have h8:=zMT (m:=m) (k:=p) I
  have U:=hq _ (zNp (k:=p) I)
  have h6:∀W J u1,NV W J ((jE qs p).num*(qAt qs p).num)->qQ W u1 ((jE qs p).den*(qAt qs p).den)->Calls prog 55 #[J,u1] W (Ret W (zBC (fQN (jE qs p*qAt qs p)) (fI 0)).tS):=fun W J u1 O h1=>by
   have:=zNf (m:=M+m) (O.uv' (Bd.mul (hp p I).1 U.1)) (h1.lv (zEB (hp p I).2 U.2)) oA (gP (Rat.den_pos _) (Rat.den_pos _))
   rw[<-Rat.mul_def']at this
   exact this
  refine pV<|lQ<|tQ<|lQ<|rgK 5 ((13,.s (SF.row 3 (rvs m qs)))::(14,.Z (fI (p:Int)))::(15,.Y (fRV m (qAt qs p)))::(16,.Z (fRV m (qAt qs p)))::(17,.u (fQN (qAt qs p)))::[]) s
   (oc zA<|oc zA<|oc (zCe (z:=3) (Cs:=rvs m qs) (i:=p) (C:=CU.agg (fRV m (qAt qs p))) kA h8 iiz iiz)<|oc (zH (f:=fRV m (qAt qs p)) 3 kA (hz:=j7 _ _))<|oc (zG zC zH0 (fun J W hb (O:RVp m (qAt qs p) J W)=>zBO O oA))<|zB) fun a w5 s=>z9 (CU.len 3) (cs:=zR3) kA rfl s kA (fun W=>rfl) rfl fun b5 a w s=>zR (CU.agg (fQN (qAt qs p))) ((fQN (qAt qs p)).tS) rfl s kA rfl rfl rfl iiz iiz yJ fun a w s=>zD rfl<|zBr (fun i=> [14].contains i) [] 15 ((19,.X (fQN (jE qs p)) 0)::(20,.Z (fNV ((jE qs p).num)))::(21,.X (fQN (qAt qs p)) 0)::(22,.Z (fNV ((qAt qs p).num)))::(23,.s (zL4 (M+m) [(jE qs p).num,(qAt qs p).num]))::(24,.Z (fNV ((jE qs p).num*(qAt qs p).num)))::(25,.X (fQN (jE qs p)) 2)::(26,.Z (jB ((jE qs p).den)))::(27,.X (fQN (qAt qs p)) 2)::(28,.Z (jB ((qAt qs p).den)))::(29,.Z (jB ((jE qs p).den*(qAt qs p).den)))::(30,.Z (zBC (fQN (jE qs p*qAt qs p)) (uI 0)))::(18,.Z (zBC (fQN (jE qs p*qAt qs p)) (uI 0)))::(31,.u (fQN (jE qs p*qAt qs p)))::(32,.Z (uI 0))::[]) hmix s fnz kA
   (oc (zN (C:=cg (fQN (jE qs p))) 0 kA)<|oc (zV (C:=cg (fQN (jE qs p))) (k:=0) 2 kA (h:=zBk))<|oc (zN (C:=cg (fQN (qAt qs p))) 0 kA)<|oc (zV (C:=cg (fQN (qAt qs p))) (k:=0) 2 kA (h:=zBk))<|oc (yH (fun u v W (hu:NV W u ((jE qs p).num)) (hv:NV W v ((qAt qs p).num))=>zBo (NV.uv' hu (Bd.mono (hp p I).1 (m':=(M+m)) (by first|omega|decide))) (NV.uv' hv (Bd.mono (U).1 (m':=(M+m)) (by first|omega|decide)))))<|oc (zG zC zL5 (fun J W hb (O:ISV W (M+m) J [(jE qs p).num,(qAt qs p).num])=>zEz O (by show(M+m)*2+(M+m)+1<=40000;omega) fC fC))<|oc (zN (C:=cg (fQN (jE qs p))) 2 kA)<|oc (jU (C:=cg (fQN (jE qs p))) (k:=2) kA (h:=zA2))<|oc (zN (C:=cg (fQN (qAt qs p))) 2 kA)<|oc (jU (C:=cg (fQN (qAt qs p))) (k:=2) kA (h:=zA2))<|oc (zI zC zT4 (fun J u1 W hb (O:qQ W J ((jE qs p).den)) (h1:qQ W u1 ((qAt qs p).den))=>zM0 (qQ.lv (m:=M+m) O (vU (hp p I).2 (vZ qC oA))) (qQ.lv (m:=M+m) h1 (vU U.2 (vZ qC oA))) oA))<|oc (zI zC zQW (fun J u1 W hb (O:NV W J ((jE qs p).num*(qAt qs p).num)) (h1:qQ W u1 ((jE qs p).den*(qAt qs p).den))=>h6 W J u1 O h1))<|oc zA<|oc (zBR (A:=(fQN (jE qs p*qAt qs p)).tS) (B:=(uI 0).tS) iiz)<|oc (zBQ (A:=(fQN (jE qs p*qAt qs p)).tS) (B:=(uI 0).tS) iiz)<|zB) fun Q' hQ a w6 s hr hd=>zR (CU.agg (fQN (jE qs p*qAt qs p))) ((fQN (jE qs p*qAt qs p)).tS) rfl s kA rfl rfl rfl (qW _) iiz yJ fun a w s=>zD rfl (hQ _ _ ?_)
  refine zW 2 ((11,.Z (fI (p:Int)))::(12,.u (fI ((p+1:Nat):Int)))::[]) s kA
   (oc zA<|oc (yI .i64 (p:Int) 1 ((p+1:Nat):Int) iiz iiz (wrap64 _ _ oA oA))<|zB) fun a w7 s=>?_
  replace s:=s.drop [4]
  refine yO (fI ((p+1:Nat):Int)) rfl s kA iiz fun a w s=>zD rfl ?_
  replace s:=s.popB
  exact⟨p+1,I,(by show qs.length-(p+1)<qs.length-p;omega),s.keepK _ (fmz ⟨mz5,fmz ⟨.head _,fnz⟩⟩)⟩
 .have I:p=qs.length:=by have:=nH e;rw[bC]at this;omega
  exact tR<|lQ<|rgK 1 ((33,.u (fQN (jE qs p)))::[]) s
   (oc (zH (f:=fQN (jE qs p)) 3 kA (hz:=qW _))<|zB) fun a w8 s=>zR (CU.agg (fQN (jE qs p))) ((fQN (jE qs p)).tS) rfl s kA rfl rfl rfl iiz iiz yJ fun a w s=>zD rfl<|pU<|wI s (CU.agg (fQN (jE qs p))) rfl kA rfl rfl (qW _) (fun cs W h=>by rw[I]at h;exact h)
theorem zE5{p q:Rat}(h:(SF.row 3 (rvs m [p,q])).p v W)(I:QB p m)(hq:QB q m)(U:m<=990):Calls prog 13 #[v] W (Ret W (fQN (p+q)).tS):=by
 have:=zTi m h I.pos lr U fC (fun x J=>by simp at J;rcases J with rfl|rfl;exact I;exact hq) (fun k O=>by
  rcases(by simp at O;omega:k=0∨k=1)with rfl|rfl
  .exact QB.zero I.pos
  .show QB (0+p) _
   rw[Rat.zero_add]
   exact I)
 rw[show([p,q]:List Rat).length=2 from rfl,zTq]at this
 exact this
theorem zCb{p q:Rat}(h:(SF.row 3 (rvs m [p,q])).p v W)(I:QB p m)(hq:QB q m)(hm:m<=990):Calls prog 58 #[v] W (Ret W (fQN (p*q)).tS):=by
 have J:=I.pos
 have:=zTh m h J lr hm fC (fun x O=>by simp at O;rcases O with rfl|rfl;exact I;exact hq) (fun k U=>by
  rcases(by simp at U;omega:k=0∨k=1)with rfl|rfl
  .exact QB.one I.pos
  .show QB (1*p) _
   rw[tW]
   exact I)
 rw[show([p,q]:List Rat).length=2 from rfl,zNn]at this
 exact this
theorem zCF{d:Tmp}(k:IntKind)(u v r:Int)(U:∀q W,(fct G x).p q W->q=.int k u)(J:∀q W,(fct G y).p q W->q=.int k v)(O:k.wrap (u-v)=r)(I:∀W,(G d).p (.int k r) W:=by exact fun _=>rfl):qO F m P w0 ops G ⟨some d,.binOp .sub t x y t',ty,pos,aft,none⟩:=
 zD8 (.int k u) (.int k v) (.int k r) U J (fun W=>by simp[eqGuard]) (fun W=>by simp[binOp,Op.intArith,O]) I
theorem zHl{u:WE}{p q:Rat}(h:RVp m p u W)(U:RVp m q v W)(hm:m<=990)(I:0<m):Calls prog 16 #[u,v] W (Ret W (fQN (p-q)).tS):=by
 have hp:QB p m:=h.qb I
 have hq:QB q m:=U.qb I
 refine z5 [(fRV m p).tS,(fRV m q).tS] func16 rfl kA ⟨h,U,trivial⟩ fun a s=>lQ<|rgK 0 [] s
  zB fun a w1 s=>yN (CU.agg (fRV m p)) rfl s kA (fun v W h=>zBj h) fun b2 a w s=>yN (CU.agg (fRV m q)) rfl s kA (fun v W h=>zBj h) fun b3 a w s=>z9 (CU.len 3) (cs:=zR3) kA rfl s kA (fun W=>rfl) rfl fun b4 a w s=>zD rfl<|lQ<|yL [] 5 ((5,.Z (fRV m p))::(6,.Z (fRV m q))::(7,.Z (fQN (-q)))::(8,.s (SF.row 3 (rvs m [p,(-q)])))::(9,.u (fQN (p+ -q)))::[]) hmix s kA
  (oc (zH (f:=fRV m p) 3 kA (hz:=j7 _ _))<|oc (zH (f:=fRV m q) 3 kA (hz:=j7 _ _))<|oc (zG zC zXQ (fun J W hb (O:RVp m q J W)=>zTg O oA I))<|oc (yH (fun u v W (hu:RVp m p u W) (hv:QNp (-q) v W)=>zCP hu (wL hv hq.neg)))<|oc (zG zC zQ2 (fun J W hb (O:(SF.row 3 (rvs m [p,(-q)])).p J W)=>zE5 O hp hq.neg oA))<|zB) fun Q' hQ a w2 s=>zR (CU.agg (fQN (p+ -q))) ((fQN (p+ -q)).tS) rfl s kA rfl rfl rfl iiz iiz yJ fun a w s=>zD rfl (hQ _ _ ?_)
 exact pU<|wI s (CU.agg (fQN (p+ -q))) rfl kA rfl rfl (qW _) (fun cs W h=>by rw[sK];exact h)
abbrev QX.q(x:QX):Rat:=mkRat x.k x.d
theorem zYp{n':Nat}{k:Int}(h:QXp n n' k d v W)(h1:n<=m)(h2:n'<=m):RVp m (mkRat k d) v W:=⟨k,d,zXc h h1 h2,rfl⟩
theorem zU3(z:Int)(I:v=.int .i64 z)(hz: -9223372036854775808<=z/\z<=9223372036854775807):Calls prog 51 #[v] W (Ret W (fQN (z:Rat)).tS):=by
 subst I
 exact zPN z hz
set_option maxHeartbeats 2000000
theorem zIw{u:WE}{x y:Int}(J:u=.int .i64 x)(O:v=.int .i64 y)(hx: -9223372036854775808<=x/\x<=9223372036854775807)(hy: -9223372036854775808<=y/\y<=9223372036854775807):Calls prog 32 #[u,v] W (Ret W (fPN (((x:Int):Rat),((y:Int):Rat))).tS):=by
 exact z5 [(uI x).tS,(uI y).tS] func32 rfl kA ⟨J,O,trivial⟩ fun a s=>lQ<|rgK 0 [] s
  zB fun a w1 s=>z9 (CU.len 6) (cs:=zP6) kA rfl s kA (fun W=>rfl) rfl fun b4 a w s=>zD rfl<|lQ<|rgK 5 ((5,.Z (uI x))::(6,.Z (fQN ((x:Int):Rat)))::(7,.Z (uI y))::(8,.Z (fQN ((y:Int):Rat)))::(9,.u (fPN (((x:Int):Rat),((y:Int):Rat))))::[]) s
  (oc zA<|oc (zG zC zL6 (fun I W hb (U:I=.int .i64 x)=>zGx x U hx))<|oc zA<|oc (zG zC zL6 (fun I W hb (U:I=.int .i64 y)=>zGx y U hy))<|oc (jF (fun u v W (J:QNp ((x:Int):Rat) u W) (O:QNp ((y:Int):Rat) v W)=>zUj (zBa _) (zBa _) J O))<|zB) fun a w2 s=>zR (CU.agg (fPN (((x:Int):Rat),((y:Int):Rat)))) ((fPN (((x:Int):Rat),((y:Int):Rat))).tS) rfl s kA rfl rfl rfl iiz iiz y7 fun a w s=>zD rfl<|pU<|wI s (CU.agg (fPN (((x:Int):Rat),((y:Int):Rat)))) rfl kA rfl rfl (zL _ _) (fun cs W h=>h)
theorem zTc{u:WE}{p q:V2}(h1:(fPV m p).p u W)(h2:(fPV m q).p v W)(hp:QB p.1 m/\QB p.2 m)(U:QB q.1 m/\QB q.2 m)(hm:m<=990):Calls prog 27 #[u,v] W (Ret W (fPN (p.1+q.1,p.2+q.2)).tS):=by
 refine z5 [(fPV m p).tS,(fPV m q).tS] func27 rfl kA ⟨h1,h2,trivial⟩ fun a s=>lQ<|rgK 0 [] s
  zB fun a w1 s=>yN (CU.agg (fPV m p)) rfl s kA (fun v W h=>yY h) fun b2 a w s=>yN (CU.agg (fPV m q)) rfl s kA (fun v W h=>yY h) fun b3 a w s=>z9 (CU.len 6) (cs:=zP6) kA rfl s kA (fun W=>rfl) rfl fun b4 a w s=>zD rfl<|lQ<|yL [] 13 ((5,.X (fPV m p) 0)::(6,.Z (fRV m ((p).1)))::(7,.X (fPV m q) 0)::(8,.Z (fRV m ((q).1)))::(9,.s (SF.row 3 (rvs m [(p).1,(q).1])))::(10,.Z (fQN ((p).1+(q).1)))::(11,.X (fPV m p) 3)::(12,.Z (fRV m ((p).2)))::(13,.X (fPV m q) 3)::(14,.Z (fRV m ((q).2)))::(15,.s (SF.row 3 (rvs m [(p).2,(q).2])))::(16,.Z (fQN ((p).2+(q).2)))::(17,.u (fPN (p.1+q.1,p.2+q.2)))::[]) hmix s kA
  (oc (zN (C:=cg (fPV m p)) 0 kA)<|oc (zV (C:=cg (fPV m p)) (k:=0) 3 kA (h:=zFO))<|oc (zN (C:=cg (fPV m q)) 0 kA)<|oc (zV (C:=cg (fPV m q)) (k:=0) 3 kA (h:=zFO))<|oc (yH (fun u v W (I:RVp m ((p).1) u W) (hv:RVp m ((q).1) v W)=>zCP I hv))<|oc (zG zC zQ2 (fun J W hb (O:(SF.row 3 (rvs m [(p).1,(q).1])).p J W)=>zE5 O hp.1 U.1 hm))<|oc (zN (C:=cg (fPV m p)) 3 kA)<|oc (zV (C:=cg (fPV m p)) (k:=3) 3 kA (h:=zFN))<|oc (zN (C:=cg (fPV m q)) 3 kA)<|oc (zV (C:=cg (fPV m q)) (k:=3) 3 kA (h:=zFN))<|oc (yH (fun u v W (I:RVp m ((p).2) u W) (hv:RVp m ((q).2) v W)=>zCP I hv))<|oc (zG zC zQ2 (fun J W hb (O:(SF.row 3 (rvs m [(p).2,(q).2])).p J W)=>zE5 O hp.2 U.2 hm))<|oc (jF (fun u v W (I:QNp ((p).1+(q).1) u W) (hv:QNp ((p).2+(q).2) v W)=>zUj (zBa _) (zBa _) I hv))<|zB) fun Q' hQ a w2 s=>zR (CU.agg (fPN (p.1+q.1,p.2+q.2))) ((fPN (p.1+q.1,p.2+q.2)).tS) rfl s kA rfl rfl rfl iiz iiz y7 fun a w s=>zD rfl (hQ _ _ ?_)
 exact pU<|wI s (CU.agg (fPN (p.1+q.1,p.2+q.2))) rfl kA rfl rfl (zL _ _) (fun cs W h=>h)
theorem zCj{u:WE}{p q:V2}(h1:(fPV m p).p u W)(h2:(fPV m q).p v W)(hm:m<=990)(I:0<m):Calls prog 29 #[u,v] W (Ret W (fPN (p.1-q.1,p.2-q.2)).tS):=by
 refine z5 [(fPV m p).tS,(fPV m q).tS] func29 rfl kA ⟨h1,h2,trivial⟩ fun a s=>lQ<|rgK 0 [] s
  zB fun a w1 s=>yN (CU.agg (fPV m p)) rfl s kA (fun v W h=>yY h) fun b2 a w s=>yN (CU.agg (fPV m q)) rfl s kA (fun v W h=>yY h) fun b3 a w s=>z9 (CU.len 6) (cs:=zP6) kA rfl s kA (fun W=>rfl) rfl fun b4 a w s=>zD rfl<|lQ<|yL [] 11 ((5,.X (fPV m p) 0)::(6,.Z (fRV m ((p).1)))::(7,.X (fPV m q) 0)::(8,.Z (fRV m ((q).1)))::(9,.Z (fQN ((p).1-(q).1)))::(10,.X (fPV m p) 3)::(11,.Z (fRV m ((p).2)))::(12,.X (fPV m q) 3)::(13,.Z (fRV m ((q).2)))::(14,.Z (fQN ((p).2-(q).2)))::(15,.u (fPN (p.1-q.1,p.2-q.2)))::[]) hmix s kA
  (oc (zN (C:=cg (fPV m p)) 0 kA)<|oc (zV (C:=cg (fPV m p)) (k:=0) 3 kA (h:=zFO))<|oc (zN (C:=cg (fPV m q)) 0 kA)<|oc (zV (C:=cg (fPV m q)) (k:=0) 3 kA (h:=zFO))<|oc (zI zC zQ1 (fun J O W hb (U:RVp m ((p).1) J W) (h1:RVp m ((q).1) O W)=>zHl U h1 hm I))<|oc (zN (C:=cg (fPV m p)) 3 kA)<|oc (zV (C:=cg (fPV m p)) (k:=3) 3 kA (h:=zFN))<|oc (zN (C:=cg (fPV m q)) 3 kA)<|oc (zV (C:=cg (fPV m q)) (k:=3) 3 kA (h:=zFN))<|oc (zI zC zQ1 (fun J O W hb (U:RVp m ((p).2) J W) (h1:RVp m ((q).2) O W)=>zHl U h1 hm I))<|oc (jF (fun u v W (hu:QNp ((p).1-(q).1) u W) (hv:QNp ((p).2-(q).2) v W)=>zUj (zBa _) (zBa _) hu hv))<|zB) fun Q' hQ a w2 s=>zR (CU.agg (fPN (p.1-q.1,p.2-q.2))) ((fPN (p.1-q.1,p.2-q.2)).tS) rfl s kA rfl rfl rfl iiz iiz y7 fun a w s=>zD rfl (hQ _ _ ?_)
 exact pU<|wI s (CU.agg (fPN (p.1-q.1,p.2-q.2))) rfl kA rfl rfl (zL _ _) (fun cs W h=>h)
theorem zNa{u:WE}{p:V2}{t:Rat}(h1:(fPV m p).p u W)(h2:RVp m t v W)(U:QB p.1 m/\QB p.2 m)(ht:QB t m)(hm:m<=990):Calls prog 26 #[u,v] W (Ret W (fPN (p.1*t,p.2*t)).tS):=by
 refine z5 [(fPV m p).tS,(fRV m t).tS] func26 rfl kA ⟨h1,h2,trivial⟩ fun a s=>lQ<|rgK 0 [] s
  zB fun a w1 s=>yN (CU.agg (fPV m p)) rfl s kA (fun v W h=>yY h) fun b2 a w s=>yN (CU.agg (fRV m t)) rfl s kA (fun v W h=>zBj h) fun b3 a w s=>z9 (CU.len 6) (cs:=zP6) kA rfl s kA (fun W=>rfl) rfl fun b4 a w s=>zD rfl<|lQ<|yL [] 11 ((5,.X (fPV m p) 0)::(6,.Z (fRV m ((p).1)))::(7,.Z (fRV m t))::(8,.s (SF.row 3 (rvs m [(p).1,t])))::(9,.Z (fQN ((p).1*t)))::(10,.X (fPV m p) 3)::(11,.Z (fRV m ((p).2)))::(12,.Z (fRV m t))::(13,.s (SF.row 3 (rvs m [(p).2,t])))::(14,.Z (fQN ((p).2*t)))::(15,.u (fPN (p.1*t,p.2*t)))::[]) hmix s kA
  (oc (zN (C:=cg (fPV m p)) 0 kA)<|oc (zV (C:=cg (fPV m p)) (k:=0) 3 kA (h:=zFO))<|oc (zH (f:=fRV m t) 3 kA (hz:=j7 _ _))<|oc (yH (fun u v W (I:RVp m ((p).1) u W) (hv:RVp m t v W)=>zCP I hv))<|oc (zG zC zI3 (fun J W hb (O:(SF.row 3 (rvs m [(p).1,t])).p J W)=>zCb O U.1 ht oA))<|oc (zN (C:=cg (fPV m p)) 3 kA)<|oc (zV (C:=cg (fPV m p)) (k:=3) 3 kA (h:=zFN))<|oc (zH (f:=fRV m t) 3 kA (hz:=j7 _ _))<|oc (yH (fun u v W (I:RVp m ((p).2) u W) (hv:RVp m t v W)=>zCP I hv))<|oc (zG zC zI3 (fun J W hb (O:(SF.row 3 (rvs m [(p).2,t])).p J W)=>zCb O U.2 ht oA))<|oc (jF (fun u v W (I:QNp ((p).1*t) u W) (hv:QNp ((p).2*t) v W)=>zUj (zBa _) (zBa _) I hv))<|zB) fun Q' hQ a w2 s=>zR (CU.agg (fPN (p.1*t,p.2*t))) ((fPN (p.1*t,p.2*t)).tS) rfl s kA rfl rfl rfl iiz iiz y7 fun a w s=>zD rfl (hQ _ _ ?_)
 exact pU<|wI s (CU.agg (fPN (p.1*t,p.2*t))) rfl kA rfl rfl (zL _ _) (fun cs W h=>h)
theorem zFI{u:WE}{p q:V2}(h1:(fPV m p).p u W)(h2:(fPV m q).p v W)(U:QB p.1 m/\QB p.2 m)(O:QB q.1 m/\QB q.2 m)(hm:m<=495)(hm0:0<m):Calls prog 39 #[u,v] W (Ret W (fQN (p.1*q.2-p.2*q.1)).tS):=by
 refine z5 [(fPV m p).tS,(fPV m q).tS] func39 rfl kA ⟨h1,h2,trivial⟩ fun a s=>lQ<|rgK 0 [] s
  zB fun a w1 s=>yN (CU.agg (fPV m p)) rfl s kA (fun v W h=>yY h) fun b2 a w s=>yN (CU.agg (fPV m q)) rfl s kA (fun v W h=>yY h) fun b3 a w s=>z9 (CU.len 3) (cs:=zR3) kA rfl s kA (fun W=>rfl) rfl fun b4 a w s=>zD rfl<|lQ<|yL [] 13 ((5,.X (fPV m p) 0)::(6,.Z (fRV m ((p).1)))::(7,.X (fPV m q) 3)::(8,.Z (fRV m ((q).2)))::(9,.s (SF.row 3 (rvs m [(p).1,(q).2])))::(10,.Z (fQN ((p).1*(q).2)))::(11,.X (fPV m p) 3)::(12,.Z (fRV m ((p).2)))::(13,.X (fPV m q) 0)::(14,.Z (fRV m ((q).1)))::(15,.s (SF.row 3 (rvs m [(p).2,(q).1])))::(16,.Z (fQN ((p).2*(q).1)))::(17,.u (fQN (((p).1*(q).2)-((p).2*(q).1))))::[]) hmix s kA
  (oc (zN (C:=cg (fPV m p)) 0 kA)<|oc (zV (C:=cg (fPV m p)) (k:=0) 3 kA (h:=zFO))<|oc (zN (C:=cg (fPV m q)) 3 kA)<|oc (zV (C:=cg (fPV m q)) (k:=3) 3 kA (h:=zFN))<|oc (yH (fun u v W (hu:RVp m ((p).1) u W) (hv:RVp m ((q).2) v W)=>zCP hu hv))<|oc (zG zC zI3 (fun I W hb (J:(SF.row 3 (rvs m [(p).1,(q).2])).p I W)=>zCb J U.1 O.2 oA))<|oc (zN (C:=cg (fPV m p)) 3 kA)<|oc (zV (C:=cg (fPV m p)) (k:=3) 3 kA (h:=zFN))<|oc (zN (C:=cg (fPV m q)) 0 kA)<|oc (zV (C:=cg (fPV m q)) (k:=0) 3 kA (h:=zFO))<|oc (yH (fun u v W (hu:RVp m ((p).2) u W) (hv:RVp m ((q).1) v W)=>zCP hu hv))<|oc (zG zC zI3 (fun I W hb (J:(SF.row 3 (rvs m [(p).2,(q).1])).p I W)=>zCb J U.2 O.1 oA))<|oc (zI zC zQ1 (fun I u1 W hb (J:QNp ((p).1*(q).2) I W) (h1:QNp ((p).2*(q).1) u1 W)=>zHl (wL J (U.1.mul O.2)) (wL h1 (U.2.mul O.1)) oA oA))<|zB) fun Q' hQ a w2 s=>zR (CU.agg (fQN (((p).1*(q).2)-((p).2*(q).1)))) ((fQN (((p).1*(q).2)-((p).2*(q).1))).tS) rfl s kA rfl rfl rfl iiz iiz yJ fun a w s=>zD rfl (hQ _ _ ?_)
 exact pU<|wI s (CU.agg (fQN (p.1*q.2-p.2*q.1))) rfl kA rfl rfl (qW _) (fun cs W h=>h)
theorem zVa(M:Nat){W:WB}{u v x:WE}{p q:V2}{t:Rat}(h1:(fPV m p).p u W)(h2:(fPV m q).p v W)(h3:RVp k t x W)(I:QB p.1 m/\QB p.2 m)(J:QB q.1 m/\QB q.2 m)(ht:QB t k)(h5:0<m)(hM:m+m+1+k<=M)(hM2:M<=990):Calls prog 118 #[u,v,x] W (Ret W (fPN (seg p q t)).tS):=by
 refine z5 [(fPV m p).tS,(fPV m q).tS,(fRV k t).tS] func118 rfl kA ⟨h1,h2,h3,trivial⟩ fun a s=>lQ<|rgK 0 [] s
  zB fun a w1 s=>yN (CU.agg (fPV m p)) rfl s kA (fun v W h=>yY h) fun b3 a w s=>yN (CU.agg (fPV m q)) rfl s kA (fun v W h=>yY h) fun b4 a w s=>yN (CU.agg (fRV k t)) rfl s kA (fun v W h=>zBj h) fun b5 a w s=>z9 (CU.len 6) (cs:=zP6) kA rfl s kA (fun W=>rfl) rfl fun b6 a w s=>zD rfl<|lQ<|yL [] 7 ((7,.Z (fPV m p))::(8,.Z (fPV m q))::(9,.Z (fPV m p))::(10,.Z (fPN ((q).1-(p).1,(q).2-(p).2)))::(11,.Z (fRV k t))::(12,.Z (fPN (((q).1-(p).1)*t,((q).2-(p).2)*t)))::(13,.u (fPN (seg p q t)))::[]) hmix s kA
  (oc (zH (f:=fPV m p) 6 kA (hz:=zL _ _))<|oc (zH (f:=fPV m q) 6 kA (hz:=zL _ _))<|oc (zH (f:=fPV m p) 6 kA (hz:=zL _ _))<|oc (zI zC zGi (fun O u1 W hb (U:(fPV m q).p O W) (h1:(fPV m p).p u1 W)=>zCj (p:=q) (q:=p) U h1 oA h5))<|oc (zH (f:=fRV k t) 3 kA (hz:=j7 _ _))<|oc (zI zC zXX (fun O u1 W hb (U:(fPN ((q).1-(p).1,(q).2-(p).2)).p O W) (h1:RVp k t u1 W)=>zNa (p:=((q).1-(p).1,(q).2-(p).2)) (zBz (p:=((q).1-(p).1,(q).2-(p).2)) (m:=M) ((show QB _ _/\QB _ _ from⟨J.1.sub I.1,J.2.sub I.2⟩).1.mono (by first|omega|decide)) ((show QB _ _/\QB _ _ from⟨J.1.sub I.1,J.2.sub I.2⟩).2.mono (by first|omega|decide)) U) (RVp.mono h1 oA) ⟨(show QB _ _/\QB _ _ from⟨J.1.sub I.1,J.2.sub I.2⟩).1.mono oA,(show QB _ _/\QB _ _ from⟨J.1.sub I.1,J.2.sub I.2⟩).2.mono oA⟩ (ht.mono oA) oA))<|oc (zI zC zXW (fun O u1 W hb (U:(fPV m p).p O W) (h1:(fPN (((q).1-(p).1)*t,((q).2-(p).2)*t)).p u1 W)=>zTc (p:=p) (q:=(((q).1-(p).1)*t,((q).2-(p).2)*t)) (zFK (m':=M) oA U) (zBz (p:=(((q).1-(p).1)*t,((q).2-(p).2)*t)) (m:=M) ((show QB _ _/\QB _ _ from⟨(J.1.sub I.1).mul ht,(J.2.sub I.2).mul ht⟩).1.mono (by first|omega|decide)) ((show QB _ _/\QB _ _ from⟨(J.1.sub I.1).mul ht,(J.2.sub I.2).mul ht⟩).2.mono (by first|omega|decide)) h1) ⟨I.1.mono oA,I.2.mono oA⟩ ⟨(show QB _ _/\QB _ _ from⟨(J.1.sub I.1).mul ht,(J.2.sub I.2).mul ht⟩).1.mono oA,(show QB _ _/\QB _ _ from⟨(J.1.sub I.1).mul ht,(J.2.sub I.2).mul ht⟩).2.mono oA⟩ oA))<|zB) fun Q' hQ a w2 s=>zR (CU.agg (fPN (seg p q t))) ((fPN (seg p q t)).tS) rfl s kA rfl rfl rfl iiz iiz y7 fun a w s=>zD rfl (hQ _ _ ?_)
 exact pU<|wI s (CU.agg (fPN (seg p q t))) rfl kA rfl rfl (zL _ _) (fun cs W h=>h)
theorem zNc{u:WE}{p:V2}(h1:(fPN p).p u W)(h2:(fPN p).p v W):Calls prog 48 #[u,v] W (Ret W (fB true).tS):=by
 refine z5 [(fPN p).tS,(fPN p).tS] func48 rfl kA ⟨h1,h2,trivial⟩ fun a s=>lQ<|rgK 0 [] s
  zB fun a w1 s=>yN (CU.agg (fPN p)) rfl s kA (fun v W h=>yY h) fun b2 a w s=>yN (CU.agg (fPN p)) rfl s kA (fun v W h=>yY h) fun b3 a w s=>yO (uB false) rfl s kA iiz fun a w s=>zD rfl<|lQ ?_
 replace s:=s.drop [4]
 exact rgE ((5,.X (fPN p) 0)::(6,.Z (fQN ((p).1)))::(7,.X (fPN p) 0)::(8,.Z (fQN ((p).1)))::(9,.Z (uB true))::(10,.Z (uB true))::(11,.X (fPN p) 3)::(12,.Z (fQN ((p).2)))::(13,.X (fPN p) 3)::(14,.Z (fQN ((p).2)))::(15,.Z (uB true))::(16,.Z (uB true))::(4,.u (uB true))::[]) s
  (oc (zN (C:=cg (fPN p)) 0 kA)<|oc (zV (C:=cg (fPN p)) (k:=0) 3 kA (h:=zFO))<|oc (zN (C:=cg (fPN p)) 0 kA)<|oc (zV (C:=cg (fPN p)) (k:=0) 3 kA (h:=zFO))<|oc (zI zC zVV (fun I J W hb (O:QNp ((p).1) I W) (h1:QNp ((p).1) J W)=>zKE O h1))<|oc zA<|oc (zF 10 true kA iiz (fun _=>zN (C:=cg (fPN p)) 3 kA) arf)<|oc (zF 10 true kA iiz (fun _=>zV (C:=cg (fPN p)) (k:=3) 3 kA (h:=zFN)) arf)<|oc (zF 10 true kA iiz (fun _=>zN (C:=cg (fPN p)) 3 kA) arf)<|oc (zF 10 true kA iiz (fun _=>zV (C:=cg (fPN p)) (k:=3) 3 kA (h:=zFN)) arf)<|oc (zF 10 true kA iiz (fun _=>zI zC zVV (fun I J W hb (O:QNp ((p).2) I W) (h1:QNp ((p).2) J W)=>zKE O h1)) arf)<|oc (yS true iiz (fun _ _ _ h=>h) (fun e=>by cases e))<|oc zE<|zB) fun a w2 s=>pU<|wF s (t:=4) rfl iiz
theorem zYE(s:Bool)(A A':WG Addr)(n n' c c':Nat)(I:Bool)(B B':WG Addr)(k k' d d':Nat):yD prog 22 1 [(0,.agg #[.bool s,.slice A n c,.slice A' n' c',.bool I,.slice B k d,.slice B' k' d'])]=some (30,#[.bool s,.slice A n c,.slice A' n' c',.bool I,.slice B k d,.slice B' k' d']):=by kernel_rfl
theorem zGp{u:WE}(h:(fPT f g).p u W):∃e cs,yD prog 22 1 [(0,u)]=some (e,cs)/\(SF.row 6 [CU.agg (fPT f g)]).p (.slice (some ⟨W.heap.size,0,none⟩) 1 1) (W.alloc (.cells cs e)):=by
 obtain⟨s,A,n,c,A',n',c',I,B,k,d,B',k',d',rfl,O,h2⟩:=h
 refine⟨_,_,zYE s A A' n n' c c' I B B' k k' d d',some ⟨W.heap.size,0,none⟩,1,rfl,vP _,by decide,fun e=>(by cases e),fun i C hi=>?_⟩
 have hb:=zCO W (.cells #[.bool s,.slice A n c,.slice A' n' c',.bool I,.slice B k d,.slice B' k' d'] 30)
 have J:=zBt W #[.bool s,.slice A n c,.slice A' n' c',.bool I,.slice B k d,.slice B' k' d'] 30
 obtain rfl:i=0:=by have:=(bE.1 hi).1;simp at this;omega
 obtain rfl:CU.agg (fPT f g)=C:=by simpa using hi
 refine⟨W.heap.size,0, [.bool s,.slice A n c,.slice A' n' c',.bool I,.slice B k d,.slice B' k' d'],rfl,?_,(CU.agg (fPT f g)).us _ _ _ ⟨s,A,n,c,A',n',c',I,B,k,d,B',k',d',rfl,O,h2⟩ (zO hb)⟩
 rw[show 0+0*6=0 from rfl]
 exact J
theorem zKT(f g:UF):∀C,C∈ [CU.agg (fPT f g)]->CU.ok 6 C:=fun C I=>by
 obtain rfl:C=CU.agg (fPT f g):=by simpa using I
 exact zBP f g
theorem zKP(h:k<ps.length):pns (ps.take (k+1))=pns (ps.take k)++ [CU.agg (fPN (at_ ps k))]:=by
 unfold pns at_
 rw[nY,rR,rH,nG h]
 rfl
theorem zPW(hl:(SF.row 6 (pvs m ps)).p l W)(hm:m<=2000)(hps:ps.length<=1000000):Calls prog 140 #[l] W (Ret W (wG W 30 6 (pns ps))):=by
 refine z5 [(UF.eq l).tS] func140 rfl kA ⟨rfl,trivial⟩ fun a s=>?_
 replace s:=s.renew [(0,.u (UF.eq l))] (fmz ⟨.inr ⟨_,rfl,.head _⟩,fnz⟩)
 refine rgQ ((2,.u (UF.eq (sN)))::[]) s
  (oc zE<|zB) fun a w1 s=>rgQ ((3,.u (UF.eq (sN)))::[]) s
  (oc zE<|zB) fun a w2 s=>lQ<|rgQ ((4,.u (uI 0))::[]) s
  (oc zE<|zB) fun a w3 s=>tQ<|zDE (fun(p:Nat×WE) w=>p.1<=ps.length/\W.heap.size<=w.heap.size/\zAk w W.heap.size 30 6 p.2 (pns (ps.take p.1))) (fun p=> [(0,.u (UF.eq l)),(3,.u (UF.eq (p.2))),(4,.u (uI (p.1:Int)))]) (fun p=>ps.length-p.1) (0, sN) (⟨vR _,s.gr.size,zAk.nil _ _ _ _⟩) (s.keepK _ (fmz ⟨mz3,fmz ⟨mz1,fmz ⟨.head _,fnz⟩⟩⟩)) fun p a w hI s=>?_
 have s0:=s
 replace s:=s.reb rfl [(0,.o (SF.row 6 (pvs m ps))),(0,.u (UF.eq l)),(3,.u (UF.eq (p.2))),(4,.u (uI (p.1:Int)))] (fmz ⟨.inr ⟨_,rfl,(SF.row 6 (pvs m ps)).st _ _ _ (by rw[show a.tmps.getD (0,KF.o (SF.row 6 (pvs m ps))).1 undef=l from s.val (.head _)];exact hl) s.below⟩,fmz ⟨.inl (.head _),fmz ⟨.inl mz1,fmz ⟨.inl mz2,fnz⟩⟩⟩⟩)
 refine lQ<|rgQ ((5,.Z (uI (p.1:Int)))::(6,.s (SF.row 6 (pvs m ps)))::(7,.Z (uI ((pvs m ps).length:Int)))::(8,.u (uB (ltz p.1 ((pvs m ps).length))))::[]) s
  (oc zA<|oc zA<|oc (zEC (z:=6) (Cs:=pvs m ps) kA iiz (fun _=>rfl))<|oc (zM .i64 (p.1:Int) ((pvs m ps).length:Int) (ltz p.1 ((pvs m ps).length)) iiz iiz rfl rfl)<|zB) fun a w4 s=>StS.cond s (ltz p.1 ((pvs m ps).length)) iiz (fun e=>?_) (fun e=>?_)
 .have I:p.1<ps.length:=by have:=xW e;simp at this;omega
  refine pV<|lQ<|tQ<|zBy (K:=[(8,.u (uB (ltz p.1 ((pvs m ps).length)))),(0,.o (SF.row 6 (pvs m ps))),(0,.u (UF.eq l)),(4,.u (uI (p.1:Int)))]) [(3,.u (UF.eq (p.2)))] [0,1,2,7,8] 15 ((11,.u (UF.eq (p.2)))::(12,.s (SF.row 6 (pvs m ps)))::(13,.Z (uI (p.1:Int)))::(14,.Y (fPV m (at_ ps p.1)))::(15,.X (fPV m (at_ ps p.1)) 0)::(16,.Z (fRV m ((at_ ps p.1).1)))::(17,.Z (fQN ((at_ ps p.1).1)))::(18,.s (SF.row 6 (pvs m ps)))::(19,.Z (uI (p.1:Int)))::(20,.Y (fPV m (at_ ps p.1)))::(21,.X (fPV m (at_ ps p.1)) 3)::(22,.Z (fRV m ((at_ ps p.1).2)))::(23,.Z (fQN ((at_ ps p.1).2)))::(24,.Z (fPN ((at_ ps p.1).1,(at_ ps p.1).2)))::(25,.s (SF.row 6 [CU.agg (fPN ((at_ ps p.1).1,(at_ ps p.1).2))]))::[]) hmix (s.keepK _ (fmz ⟨mz3,fmz ⟨.head _,fmz ⟨mz1,fmz ⟨mz2,fmz ⟨mz4,fnz⟩⟩⟩⟩⟩)) kA
   (oc zA<|oc zA<|oc zA<|oc (zCe (z:=6) (Cs:=pvs m ps) (i:=p.1) (C:=CU.agg (fPV m (at_ ps p.1))) kA (qI I) iiz iiz)<|oc (zN (C:=cg (fPV m (at_ ps p.1))) 0 kA)<|oc (zV (C:=cg (fPV m (at_ ps p.1))) (k:=0) 3 kA (h:=zFO))<|oc (zG zC zH0 (fun U W hb (h0:RVp m ((at_ ps p.1).1) U W)=>zBO h0 hm))<|oc zA<|oc zA<|oc (zCe (z:=6) (Cs:=pvs m ps) (i:=p.1) (C:=CU.agg (fPV m (at_ ps p.1))) kA (qI I) iiz iiz)<|oc (zN (C:=cg (fPV m (at_ ps p.1))) 3 kA)<|oc (zV (C:=cg (fPV m (at_ ps p.1))) (k:=3) 3 kA (h:=zFN))<|oc (zG zC zH0 (fun U W hb (h0:RVp m ((at_ ps p.1).2) U W)=>zBO h0 hm))<|oc (jF (fun u v W (hu:QNp ((at_ ps p.1).1) u W) (hv:QNp ((at_ ps p.1).2) v W)=>zUj (zBa _) (zBa _) hu hv))<|oc (jX (fun u W (hu:(fPN ((at_ ps p.1).1,(at_ ps p.1).2)).p u W)=>zGp hu))<|zB) fun Q' hQ a w5 s hr=>zLF ([CU.agg (fPN ((at_ ps p.1).1,(at_ ps p.1).2))]) s0 (s.keepK [(11,.u (UF.eq (p.2))),(8,.u (uB (ltz p.1 ((pvs m ps).length)))),(0,.u (UF.eq l)),(4,.u (uI (p.1:Int)))] (fmz ⟨.head _,fmz ⟨mz1,fmz ⟨mz3,fmz ⟨mz4,fnz⟩⟩⟩⟩)) lr hI.2 rfl kA kA kA (s.fct (.tmp 11)) (hr (_,_) zXj) (zKT _ _) (by simp;omega) (fun q hq=>by cases hq) fun v' a w J s=>?_
  have s1:=s
  replace s:=s.reb rfl [(26,.u (UF.eq v')),(11,.u (UF.eq (p.2))),(8,.u (uB (ltz p.1 ((pvs m ps).length)))),(0,.u (UF.eq l)),(4,.u (uI (p.1:Int)))] (fmz ⟨.inl (.head _),fmz ⟨.inl mz1,fmz ⟨.inl mz2,fmz ⟨.inl mz3,fmz ⟨.inl mz4,fnz⟩⟩⟩⟩⟩)
  refine yO (UF.eq v') rfl s kA iiz fun a w s=>zD rfl (hQ _ _ ?_)
  refine zW 2 ((9,.Z (uI (p.1:Int)))::(10,.u (uI ((p.1+1:Nat):Int)))::[]) s kA
   (oc zA<|oc (yI .i64 (p.1:Int) 1 ((p.1+1:Nat):Int) iiz iiz (wrap64 _ _ oA oA))<|zB) fun a w6 s=>?_
  replace s:=s.drop [4]
  refine yO (uI ((p.1+1:Nat):Int)) rfl s kA iiz fun a w s=>zD rfl ?_
  have O:=s.below
  replace s:=s1.back (s.keepK [(4,.u (uI ((p.1+1:Nat):Int))),(10,.u (uI ((p.1+1:Nat):Int))),(3,.u (UF.eq v')),(26,.u (UF.eq v')),(11,.u (UF.eq (p.2))),(8,.u (uB (ltz p.1 ((pvs m ps).length)))),(0,.u (UF.eq l))] (fmz ⟨.head _,fmz ⟨mz1,fmz ⟨mz2,fmz ⟨mz3,fmz ⟨mz4,fmz ⟨mz5,fmz ⟨mz6,fnz⟩⟩⟩⟩⟩⟩⟩)) rfl
  exact⟨(p.1+1,v'),(by show ps.length-(p.1+1)<ps.length-p.1;omega),⟨I,xQ J.1 O.size,by rw[zKP I];exact J.2.below O⟩,s.keepK _ (fmz ⟨mz6,fmz ⟨mz2,fmz ⟨.head _,fnz⟩⟩⟩)⟩
 .have I:p.1=ps.length:=by have:=nH e;simp at this;omega
  exact tR<|rgQ ((27,.Z (UF.eq (p.2)))::(2,.u (UF.eq (p.2)))::[]) s
   (oc zA<|oc zE<|zB) fun a w7 s=>pU<|StS.resN s s0.below rfl (by rw[s.val (.head _)];have:=hI.2.2.below s.below;rw[I,rU]at this;exact this)
theorem zC1(I:0<m){p:V2}{v:WE}{W:WB}(h:(fPV m p).p v W):QB p.1 m/\QB p.2 m:=by
 obtain⟨_,_,_,_,_,_,_,_,_,_,_,_,_,_,_,J,h2⟩:=h
 exact⟨J.qb I,h2.qb I⟩
theorem zD2(h:(SF.row z Cs).p v W):v.cells=#[v]/\zX v=true:=by
 obtain⟨A,c,rfl,_⟩:=h
 exact⟨rfl,rfl⟩
section
variable {F:Fence}{m:Nat}{P:WH}{w0:WB}{ops:Array Oper}{G:Nat->SF}{d:Tmp}{ty:WF}{pos:String}{aft:Array Edge}
def zGM(P:WH)(t:WF)(i:Nat):WG Nat:=match P.underlying t with
 |some (.array n e)=>match P.info? e with
  |some ie=>if i<n then some (i*ie.size)else none
  |none=>none
 |_=>none
theorem zB0{C:CF}(i k:Nat)(I:zGM P t i=some k)(hx:∀v W,(fct G x).p v W->(wD C).p v W)(hy:∀v W,(fct G y).p v W->v=.int .i64 (i:Int))(hd:∀v W,(wD (C.at k)).p v W->(G d).p v W:=by exact fun _ _ h=>h):qO F m P w0 ops G ⟨some d,.indexAddr t x y,ty,pos,aft,none⟩:=
 qG (fun _ e=>by cases e) (fun _ e=>by cases e) fun b W hb U=>by
  obtain⟨a,q,cs,e,h2,h3⟩:=hx _ _ (U x (by simp[Op.operands]))
  have e2:=hy _ _ (U y (by simp[Op.operands]))
  unfold zGM at I
  split at I<;>try cases I
  rename_i n el hu
  split at I<;>try cases I
  rename_i ie O
  split at I<;>try cases I
  rename_i J
  refine⟨.pointer (some ⟨a,q+i*ie.size,none⟩),?_,hd _ _ ⟨_,_,_,rfl,⟨cs,h2,rfl⟩,h3.drop _⟩⟩
  have h9: ¬n<=i:=by omega
  simp[execOp,Instr.indexAt,bK hu,e,e2,Instr.sureAddr,sizeOf,typeInfo,O,xH,asIntOf,J]
end
abbrev V6:=V2×V2×V2
abbrev tl(t:V6):List V2:=[t.1,t.2.1,t.2.2]
def at3(l:List V6)(i:Nat):V6:=l.getD i ((0,0),(0,0),(0,0))
def TRp(m:Nat)(t:V6)(v:WE)(w:WB):Prop:=∃a b c:List WE,v=.agg (a++b++c).toArray/\(CU.agg (fPV m t.1)).p a w/\(CU.agg (fPV m t.2.1)).p b w/\(CU.agg (fPV m t.2.2)).p c w
def fTR(m:Nat)(t:V6):UF:=.mk' (TRp m t) fun _ _ _ ⟨a,b,c,e,h1,h2,h3⟩ k=>⟨a,b,c,e,(CU.agg _).us _ _ _ h1 k,(CU.agg _).us _ _ _ h2 k,(CU.agg _).us _ _ _ h3 k⟩
theorem zDW{t:V6}(h:TRp m t (.agg cs.toArray) W):∃a b c:List WE,cs=a++b++c/\a.length=6/\b.length=6/\c.length=6/\(CU.agg (fPV m t.1)).p a W/\(CU.agg (fPV m t.2.1)).p b W/\(CU.agg (fPV m t.2.2)).p c W:=by
 obtain⟨a,b,c,e,I,h2,h3⟩:=h
 have:=vQ Array.toList (j5 e)
 simp only at this
 exact⟨a,b,c,this,(zBP _ _ a W I).1,(zBP _ _ b W h2).1,(zBP _ _ c W h3).1,I,h2,h3⟩
theorem zSF(m:Nat)(t:V6):CU.ok 18 (CU.agg (fTR m t)):=fun cs W h=>by
 obtain⟨a,b,c,rfl,l1,l2,l3,h1,h2,h3⟩:=zDW h
 have U:=zBP _ _ a W h1;have J:=zBP _ _ b W h2;have O:=zBP _ _ c W h3
 refine⟨by simp[l1,l2,l3],zDP U.2.1 J.2.1 O.2.1,fun u I=>?_⟩
 rcases vV.1 I with I|I
 .rcases vV.1 I with I|I
  .exact U.2.2 u I
  .exact J.2.2 u I
 .exact O.2.2 u I
theorem zKk(m:Nat)(t:V6):∀cs:List WE,∀W,(fTR m t).p (.agg cs.toArray) W->cs.length=18:=fun cs W h=>(zSF m t cs W h).1
theorem zRp{t:V6}(h:(fTR m t).p v W):(CU.agg (fTR m t)).p v.cells.toList W/\v.cells.toList.all zX=true:=by
 obtain⟨a,b,c,rfl,h1⟩:=id h
 exact⟨h,(zSF m t _ W h).2.1⟩
theorem zKh{t:V6}(v:WE)(W:WB)(h:(fTR m t).p v W):∃vs:List WE,v=.agg vs.toArray/\vs.length=18/\(∀u,u∈vs->u.oneCell'=true)/\vs.all zX=true/\(CU.agg (fTR m t)).p vs W:=by
 obtain⟨a,b,c,rfl,h1⟩:=id h
 have:=zSF m t _ W h
 exact⟨_,rfl,this.1,this.2.2,this.2.1,h⟩
theorem zKi{t:V6}(cs:List WE)(W:WB)(h:(CU.agg (fTR m t)).p cs W):0+6<=cs.length/\(fPV m t.1).p (.agg ((cs.drop 0).take 6).toArray) W:=by
 obtain⟨a,b,c,rfl,O,J,l3,I,_⟩:=zDW h
 refine⟨by simp[O,J,l3],?_⟩
 rw[nN,sY,tK oA,nK oA]
 exact I
theorem zMx{t:V6}(cs:List WE)(W:WB)(h:(CU.agg (fTR m t)).p cs W):6+6<=cs.length/\(fPV m t.2.1).p (.agg ((cs.drop 6).take 6).toArray) W:=by
 obtain⟨a,b,c,rfl,J,I,l3,_,h2,_⟩:=zDW h
 refine⟨by simp[J,I,l3],?_⟩
 rw[sY,tN oA,pC oA,lT,tK oA,nK oA]
 exact h2
theorem zJp{t:V6}(cs:List WE)(W:WB)(h:(CU.agg (fTR m t)).p cs W):12+6<=cs.length/\(fPV m t.2.2).p (.agg ((cs.drop 12).take 6).toArray) W:=by
 obtain⟨a,b,c,rfl,J,I,l3,_,_,h3⟩:=zDW h
 refine⟨by simp[J,I,l3],?_⟩
 rw[tN (by simp;omega),pC (by simp;omega),lT,nK oA]
 exact h3
abbrev trs(m:Nat)(ts:List V6):List CU:=ts.map fun t=>CU.agg (fTR m t)
theorem zJo{ts:List V6}(h:i<ts.length):(trs m ts)[i]?=some (CU.agg (fTR m (at3 ts i))):=by
 unfold trs at3;rw[tJ,rH,nG h];rfl
theorem zQd{m':Nat}(O:m<=m'){ps:List V2}(v:WE)(W:WB)(U:(SF.row 6 (pvs m ps)).p v W):(SF.row 6 (pvs m' ps)).p v W:=
 zHf fC (fun i C D I J cs W h=>by
  have hi:i<ps.length:=by have:=(bE.1 I).1;simpa using this
  rw[qI hi]at I
  rw[qI hi]at J
  cases I;cases J
  exact zFK O h) v W U
section
variable {F:Fence}{m:Nat}{P:WH}{w0:WB}{ops:Array Oper}{G:Nat->SF}{d:Tmp}{ty:WF}{pos:String}{aft:Array Edge}
end
theorem zUq{l:List V6}(h:i<l.length):at3 l i∈l:=by
 unfold at3;rw[rH,nG h];exact uY h
theorem jA{W':WB}(h:W.heap.size<=W'.heap.size)(v:WE)(w:WB)(I:(wG W' e z Cs).p v w):(wG W e z Cs).p v w:=zAk.mono I h
theorem zKN(I:0<m){ps:List V2}{v:WE}{W:WB}(h:(SF.row 6 (pvs m ps)).p v W):∀x,x∈ps->QB x.1 m/\QB x.2 m:=fun x U=>by
 obtain⟨i,hi,rfl⟩:=zFX U
 obtain⟨_,_,_,_,_,_,O⟩:=h
 obtain⟨b,o,cs,_,_,J⟩:=O i _ (qI hi)
 exact zC1 I (v:=.agg cs.toArray) J
abbrev zK3(L:List Nat):List CU:=L.map fun z=>wC [.int .i64 ((z:Nat):Int)]
theorem zNQ(L:List Nat)(k:Nat):zK3 (L++ [k])=zK3 L++ [wC [.int .i64 (k:Int)]]:=by simp[zK3]
theorem zRO(z:Int):∀C,C∈ [wC [.int .i64 z]]->CU.ok 1 C:=fun C J cs W h=>by
 obtain rfl:C=_:=by simpa using J
 obtain rfl:cs=_:=h
 exact⟨rfl,rfl,fun u I=>by obtain rfl:=tS.1 I;rfl⟩
theorem zW6(z:Int):yD prog 51 1 [(0,.int .i64 z)]=some (3,#[.int .i64 z]):=by kernel_rfl
theorem zMN{z:Int}{u:WE}(h:u=.int .i64 z):∃e cs,yD prog 51 1 [(0,u)]=some (e,cs)/\(SF.row 1 [wC [.int .i64 z]]).p (.slice (some ⟨W.heap.size,0,none⟩) 1 1) (W.alloc (.cells cs e)):=by
 subst h
 refine⟨_,_,zW6 z,some ⟨W.heap.size,0,none⟩,1,rfl,vP _,by decide,fun e=>(by cases e),fun i C hi=>?_⟩
 have I:=zBt W #[.int .i64 z] 3
 obtain rfl:i=0:=by have:=(bE.1 hi).1;simp at this;omega
 obtain rfl:wC [.int .i64 z]=C:=by simpa using hi
 exact⟨W.heap.size,0, [.int .i64 z],rfl,I,rfl⟩
abbrev PX:=QX×QX
abbrev PX.p(x:PX):V2:=(x.1.q,x.2.q)
abbrev PX.u(x:PX):UF:=fPT (fQX x.1.n x.1.n' x.1.k x.1.d) (fQX x.2.n x.2.n' x.2.k x.2.d)
abbrev PX.cu(x:PX):CU:=CU.agg x.u
abbrev pxs(L:List PX):List CU:=L.map PX.cu
abbrev pps(L:List PX):List V2:=L.map PX.p
theorem zYI{x:PX}(cs:List WE)(W:WB)(h:(PX.cu x).p cs W):∃u,cs[1]?=some u/\(fSl x.1.n).p u W:=by
 obtain⟨s,A,n,c,A',n',c',s2,B,k,d,B',k',d',e,I,h2⟩:=h
 rw[zEr e]
 have:=zRF _ W (show(QX.cu x.1).p [Value.bool s,.slice A n c,.slice A' n' c'] W from I)
 exact this
theorem zYH{x:PX}(cs:List WE)(W:WB)(h:(PX.cu x).p cs W):∃u,cs[2]?=some u/\(fSl x.1.n').p u W:=by
 obtain⟨s,A,n,c,A',n',c',s2,B,k,d,B',k',d',e,I,h2⟩:=h
 rw[zEr e]
 have:=zRE _ W (show(QX.cu x.1).p [Value.bool s,.slice A n c,.slice A' n' c'] W from I)
 exact this
theorem zYG{x:PX}(cs:List WE)(W:WB)(h:(PX.cu x).p cs W):∃u,cs[4]?=some u/\(fSl x.2.n).p u W:=by
 obtain⟨s,A,n,c,A',n',c',I,B,k,d,B',k',d',e,h1,h2⟩:=h
 rw[zEr e]
 have:=zRF _ W (show(QX.cu x.2).p [Value.bool I,.slice B k d,.slice B' k' d'] W from h2)
 exact this
theorem zYF{x:PX}(cs:List WE)(W:WB)(h:(PX.cu x).p cs W):∃u,cs[5]?=some u/\(fSl x.2.n').p u W:=by
 obtain⟨s,A,n,c,A',n',c',I,B,k,d,B',k',d',e,h1,h2⟩:=h
 rw[zEr e]
 have:=zRE _ W (show(QX.cu x.2).p [Value.bool I,.slice B k d,.slice B' k' d'] W from h2)
 exact this
section
variable {F:Fence}{m:Nat}{P:WH}{w0:WB}{ops:Array Oper}{G:Nat->SF}{d:Tmp}{ty:WF}{pos:String}{aft:Array Edge}
theorem zTH{z u:WL}{ats:Array WF}(a b c e:Nat)(hx:∀q W,(fct G x).p q W->q=.int .i64 (a:Nat))(hy:∀q W,(fct G y).p q W->q=.int .i64 (b:Nat))(hz:∀q W,(fct G z).p q W->q=.int .i64 (c:Nat))(hu:∀q W,(fct G u).p q W->q=.int .i64 (e:Nat))(hd:∀W,(G d).p (.int .i64 ((max (max (max a b) c) e:Nat):Int)) W:=by exact fun _=>rfl):qO F m P w0 ops G ⟨some d,.call ⟨.builtin .max,#[x,y,z,u],ats⟩,ty,pos,aft,none⟩:=by
 intro bb W K Q hb hr hK
 have e1:=hx _ _ (qA hr (x:=x) (by simp[Op.operands,Call.operands]))
 have e2:=hy _ _ (qA hr (x:=y) (by simp[Op.operands,Call.operands]))
 have e3:=hz _ _ (qA hr (x:=z) (by simp[Op.operands,Call.operands]))
 have e4:=hu _ _ (qA hr (x:=u) (by simp[Op.operands,Call.operands]))
 refine⟨fun f hf=>(by
  unfold Oper.about at hf
  simp[resolve,go_sem]at hf),?_⟩
 rw[bI _ _ _ (fun _ e=>by cases e)]
 have:(execOp bb.eval ⟨some d,.call ⟨.builtin .max,#[x,y,z,u],ats⟩,ty,pos,aft,none⟩).run P W=.ok (.value (.int .i64 ((max (max (max a b) c) e:Nat):Int))) W:=by
  have m2:∀p q:Nat,(if(p:Int)<(q:Int)then Value.int .i64 (q:Nat)else .int .i64 (p:Nat))=.int .i64 ((max p q:Nat):Int):=fun p q=>by
   split<;>(congr 1;omega)
  simp only[execOp,resolve,invoke,builtin,e1,e2,e3,e4,cD,cF,cL,cP,xX,bV]
  simp[Builtin.max_,Builtin.max2]
  have m3:∀p q:Nat,(if(p:Int)<(q:Int)then(q:Int)else(p:Int))=((max p q:Nat):Int):=fun p q=>by split<;>omega
  try simp only[m3]
  try (congr 1;omega)
 rw[this]
 exact hK _ _ (fun d' e'=>by cases e';exact hd _) (xF _ _)
end
def jZ(p q:V2):Int:=if qsg p.1 q.1=0 then qsg p.2 q.2 else qsg p.1 q.1
theorem zSd{p q:V2}(h:(qsg p.1 q.1 !=0)=true):jZ p q=qsg p.1 q.1:=by unfold jZ;rw[if_neg (by simpa using h)]
theorem zSc{p q:V2}(h:(qsg p.1 q.1 !=0)=false):jZ p q=qsg p.2 q.2:=by unfold jZ;rw[if_pos (by simpa using h)]
theorem zBY(a n:Nat):(a:Int).tmod (n:Int)=((a%n:Nat):Int):=rfl
theorem zBm{p q:V2}(I:QB p.1 m/\QB p.2 m)(J:QB q.1 m/\QB q.2 m):QB (p.1-q.1) (2*m+1)/\QB (p.2-q.2) (2*m+1):=⟨(I.1.sub J.1).mono oA,(I.2.sub J.2).mono oA⟩
theorem zNb{u:WE}{p q:V2}(h1:(fPV m p).p u W)(h2:(fPV m q).p v W)(hm:m<=990)(I:0<m):Calls prog 49 #[u,v] W (Ret W (fI (jZ p q)).tS):=by
 refine z5 [(fPV m p).tS,(fPV m q).tS] func49 rfl kA ⟨h1,h2,trivial⟩ fun a s=>lQ<|rgK 0 [] s
  zB fun a w1 s=>yN (CU.agg (fPV m p)) rfl s kA (fun v W h=>yY h) fun b2 a w s=>yN (CU.agg (fPV m q)) rfl s kA (fun v W h=>yY h) fun b3 a w s=>yO (uI 0) rfl s kA iiz fun a w s=>zD rfl<|rgQ ((6,.X (fPV m p) 0)::(7,.Z (fRV m ((p).1)))::(8,.X (fPV m q) 0)::(9,.Z (fRV m ((q).1)))::(10,.Z (uI (qsg (p).1 (q).1)))::(5,.u (uI (qsg (p).1 (q).1)))::[]) s
  (oc (zN (C:=cg (fPV m p)) 0 kA)<|oc (zV (C:=cg (fPV m p)) (k:=0) 3 kA (h:=zFO))<|oc (zN (C:=cg (fPV m q)) 0 kA)<|oc (zV (C:=cg (fPV m q)) (k:=0) 3 kA (h:=zFO))<|oc (zI zC zT8 (fun J O W hb (U:RVp m ((p).1) J W) (h1:RVp m ((q).1) O W)=>zJB U h1 hm I))<|oc zE<|zB) fun a w2 s=>lQ<|rgQ ((11,.Z (uI (qsg (p).1 (q).1)))::(12,.u (uB (qsg (p).1 (q).1 !=0)))::[]) s
  (oc zA<|oc (zM .i64 (qsg (p).1 (q).1) 0 (qsg (p).1 (q).1 !=0) iiz iiz rfl rfl)<|zB) fun a w3 s=>StS.cond s (qsg (p).1 (q).1 !=0) iiz (fun e=>?_) (fun e=>?_)
 .refine lQ ?_
  replace s:=s.drop [4]
  exact rgE ((13,.Z (uI (qsg (p).1 (q).1)))::(4,.u (uI (qsg (p).1 (q).1)))::[]) s
   (oc zA<|oc zE<|zB) fun a w4 s=>pU<|wF s (t:=4) rfl (fun v W h=>by rw[zSd e];exact h)
 .refine pV ?_
  refine lQ ?_
  replace s:=s.drop [4]
  exact rgE ((14,.X (fPV m p) 3)::(15,.Z (fRV m ((p).2)))::(16,.X (fPV m q) 3)::(17,.Z (fRV m ((q).2)))::(18,.Z (uI (qsg (p).2 (q).2)))::(4,.u (uI (qsg (p).2 (q).2)))::[]) s
   (oc (zN (C:=cg (fPV m p)) 3 kA)<|oc (zV (C:=cg (fPV m p)) (k:=3) 3 kA (h:=zFN))<|oc (zN (C:=cg (fPV m q)) 3 kA)<|oc (zV (C:=cg (fPV m q)) (k:=3) 3 kA (h:=zFN))<|oc (zI zC zT8 (fun J O W hb (U:RVp m ((p).2) J W) (h1:RVp m ((q).2) O W)=>zJB U h1 hm I))<|oc zE<|zB) fun a w5 s=>pU<|wF s (t:=4) rfl (fun v W h=>by rw[zSc e];exact h)
abbrev zEh(L:List Int):List CU:=L.map fun z=>wC [.int .i64 z]
def gI(L:List Int)(i:Nat):Int:=L.getD i 0
theorem zHQ(h:i<L.length):(zEh L)[i]?=some (wC [.int .i64 (gI L i)]):=by
 unfold zEh gI;rw[tJ,rH,nG h];rfl
def zDk(L:List Int)(k:Nat):List V2:=(List.range k).map fun j=>(((gI L (2*j):Int):Rat),((gI L (2*j+1):Int):Rat))
theorem zMw(L:List Int)(k:Nat):pns (zDk L (k+1))=pns (zDk L k)++ [CU.agg (fPN (((gI L (2*k):Int):Rat),((gI L (2*k+1):Int):Rat)))]:=by
 unfold zDk pns
 rw[cS,rR,rR]
 rfl
theorem zB7(L:List Int)(k:Nat):(zDk L k).length=k:=by simp[zDk]
def zYs(L:List Int):Prop:=∀i,-9223372036854775808<=gI L i/\gI L i<=9223372036854775807
theorem zW5(a b c d e f:Int):yD prog 51 6 [(0,.int .i64 a),(1,.int .i64 b),(2,.int .i64 c),(3,.int .i64 d),(4,.int .i64 e),(5,.int .i64 f)]=some (3,#[.int .i64 a,.int .i64 b,.int .i64 c,.int .i64 d,.int .i64 e,.int .i64 f]):=by kernel_rfl
theorem zKA{cs:Array WE}(O:L.length=n)(hc:cs.toList=L.map (.int .i64)):n<=1000->(SF.row 1 (zEh L)).p (.slice (some ⟨W.heap.size,0,none⟩) n n) (W.alloc (.cells cs e)):=by
 intro h
 refine⟨some ⟨W.heap.size,0,none⟩,n,by simp[O],by simp[O],by omega,fun e=>(by cases e),fun i C hi=>?_⟩
 have I:i<L.length:=by have:=(bE.1 hi).1;simpa using this
 rw[zHQ I]at hi
 cases hi
 refine⟨W.heap.size,0, [.int .i64 (gI L i)],rfl,fun j u J=>?_,rfl⟩
 obtain rfl:j=0:=by have:=(bE.1 J).1;simp at this;omega
 obtain rfl:Value.int .i64 (gI L i)=u:=by simpa using J
 have hm:=zBt W cs e
 have U:cs.toList[i]?=some (Value.int .i64 (gI L i)):=by
  rw[hc,tJ]
  unfold gI
  rw[rH,nG I];rfl
 have:=hm i _ U
 simpa using this
section
variable {F:Fence}{m:Nat}{P:WH}{w0:WB}{ops:Array Oper}{G:Nat->SF}{d:Tmp}{ty:WF}{pos:String}{aft:Array Edge}
theorem zAQ{j:Nat}{z:WL}(h:∀u v q W,(fct G x).p u W->(fct G y).p v W->(fct G z).p q W->∃cells,P.built t [(i,u),(j,v),(k,q)]=some cells/\(G d).p (.agg cells) W):qO F m P w0 ops G ⟨some d,.build t #[(i,x),(j,y),(k,z)],ty,pos,aft,none⟩:=
 zHx fun b W hb I=>by
  obtain⟨cells,J,h2⟩:=h _ _ _ W (I x fC) (I y fC) (I z fC)
  exact⟨cells,by simpa using J,h2⟩
end
theorem zFT{d:Tmp}(a b c e f g:Int)(I:∀v W,(SF.row 1 (zEh [a,b,c,e,f,g])).p v W->(G d).p v W):qO F m prog w0 ops G ⟨some d,.buildSlice 51 6 #[(0,.const (.int .i64 a)),(1,.const (.int .i64 b)),(2,.const (.int .i64 c)),(3,.const (.int .i64 e)),(4,.const (.int .i64 f)),(5,.const (.int .i64 g))],ty,pos,aft,none⟩:=
 zDs fun U W hb hh=>by
  have O:=zW5 a b c e f g
  have J:∀v:WE,U.eval (.const v)=v:=fun _=>rfl
  refine⟨3,#[.int .i64 a,.int .i64 b,.int .i64 c,.int .i64 e,.int .i64 f,.int .i64 g],by simpa[J]using O,I _ _ (zKA (L:=[a,b,c,e,f,g]) rfl rfl oA)⟩
theorem trB(s:Bool)(A A':WG Addr)(n n' c c':Nat)(s2:Bool)(B B':WG Addr)(k k' d d':Nat)(t:Bool)(C C':WG Addr)(i I j J:Nat)(t2:Bool)(D D':WG Addr)(x x' y y':Nat)(r:Bool)(E E':WG Addr)(p p' q q':Nat)(O:Bool)(F F':WG Addr)(g g' h U:Nat):prog.built 38 [(0,.agg #[.bool s,.slice A n c,.slice A' n' c',.bool s2,.slice B k d,.slice B' k' d']),(1,.agg #[.bool t,.slice C i j,.slice C' I J,.bool t2,.slice D x y,.slice D' x' y']),(2,.agg #[.bool r,.slice E p q,.slice E' p' q',.bool O,.slice F g h,.slice F' g' U])]=some #[.bool s,.slice A n c,.slice A' n' c',.bool s2,.slice B k d,.slice B' k' d',.bool t,.slice C i j,.slice C' I J,.bool t2,.slice D x y,.slice D' x' y',.bool r,.slice E p q,.slice E' p' q',.bool O,.slice F g h,.slice F' g' U]:=by kernel_rfl
theorem zYV{t:V6}{u q:WE}(hu:(fPV m t.1).p u W)(hv:(fPV m t.2.1).p v W)(hq:(fPV m t.2.2).p q W):∃cells,prog.built 38 [(0,u),(1,v),(2,q)]=some cells/\(fTR m t).p (.agg cells) W:=by
 obtain⟨s,A,n,c,A',n',c',s2,B,k,d,B',k',d',rfl,h1,h2⟩:=hu
 obtain⟨s3,A3,n3,c3,A4,U,I,s4,B3,k3,d3,B4,k4,J,rfl,h3,h4⟩:=hv
 obtain⟨s5,A5,n5,c5,A6,n6,c6,s6,B5,k5,d5,B6,O,d6,rfl,h5,h6⟩:=hq
 exact⟨_,trB ..,_,_,_,rfl,⟨s,A,n,c,A',n',c',s2,B,k,d,B',k',d',rfl,h1,h2⟩,⟨s3,A3,n3,c3,A4,U,I,s4,B3,k3,d3,B4,k4,J,rfl,h3,h4⟩,⟨s5,A5,n5,c5,A6,n6,c6,s6,B5,k5,d5,B6,O,d6,rfl,h5,h6⟩⟩
theorem zYC(u0 u1 u2 u3 u4 u5 u6 u7 u8 u9 h1 h5 I h4 U J h0 O:WE):yD prog 33 1 [(0,.agg #[u0,u1,u2,u3,u4,u5,u6,u7,u8,u9,h1,h5,I,h4,U,J,h0,O])]=some (38,#[u0,u1,u2,u3,u4,u5,u6,u7,u8,u9,h1,h5,I,h4,U,J,h0,O]):=by kernel_rfl
theorem zYB(u0 u1 u2 u3 u4 u5 u6 u7 u8 u9 h9 he J hd h4 U h8 h7 v0 v1 v2 v3 v4 v5 v6 v7 v8 v9 O h6 ha I hc h1 h0 h5:WE):yD prog 33 2 [(0,.agg #[u0,u1,u2,u3,u4,u5,u6,u7,u8,u9,h9,he,J,hd,h4,U,h8,h7]),(1,.agg #[v0,v1,v2,v3,v4,v5,v6,v7,v8,v9,O,h6,ha,I,hc,h1,h0,h5])]=some (38,#[u0,u1,u2,u3,u4,u5,u6,u7,u8,u9,h9,he,J,hd,h4,U,h8,h7,v0,v1,v2,v3,v4,v5,v6,v7,v8,v9,O,h6,ha,I,hc,h1,h0,h5]):=by kernel_rfl
theorem zN5(h:cs.length=18):∃u0 u1 u2 u3 u4 u5 u6 u7 u8 u9 u10 u11 u12 u13 u14 u15 u16 u17,cs=[u0,u1,u2,u3,u4,u5,u6,u7,u8,u9,u10,u11,u12,u13,u14,u15,u16,u17]:=by
 match cs,h with
 | [u0,u1,u2,u3,u4,u5,u6,u7,u8,u9,u10,u11,u12,u13,u14,u15,u16,u17],_=>exact⟨u0,u1,u2,u3,u4,u5,u6,u7,u8,u9,u10,u11,u12,u13,u14,u15,u16,u17,rfl⟩
def okS(L:List Int):Prop:=∀i,(gI L i).natAbs<100
theorem okS.ok(h:okS L):zYs L:=fun i=>by have:=h i;omega
theorem zGF(h:L.all (fun z=>decide (z.natAbs<100))=true):okS L:=fun i=>by
 unfold gI
 rw[rH]
 cases e:L[i]? with
 |none=>decide
 |some z=>
  have:=xR.1 h z (mJ e)
  exact xW this
theorem qbz{z:Int}(h:z.natAbs<100):QB ((z:Int):Rat) 1:=QB.int (pJ h dA) dA
theorem zSD(h:okS L)(k:Nat):∀p,p∈zDk L k->QB p.1 1/\QB p.2 1:=fun p I=>by
 obtain⟨j,_,rfl⟩:=xG.1 I
 exact⟨qbz (h _),qbz (h _)⟩
def TGp(u v q:UF)(x:WE)(w:WB):Prop:=∃a b c:List WE,x=.agg (a++b++c).toArray/\(CU.agg u).p a w/\(CU.agg v).p b w/\(CU.agg q).p c w
def fTG(u v q:UF):UF:=.mk' (TGp u v q) fun _ _ _ ⟨a,b,c,e,h1,h2,h3⟩ k=>⟨a,b,c,e,(CU.agg u).us _ _ _ h1 k,(CU.agg v).us _ _ _ h2 k,(CU.agg q).us _ _ _ h3 k⟩
section
variable {f g f' g' f'' g'':UF}
theorem zE1(h:(CU.agg (fTG (fPT f g) (fPT f' g') (fPT f'' g''))).p cs W):∃a b c:List WE,cs=a++b++c/\a.length=6/\b.length=6/\c.length=6/\(CU.agg (fPT f g)).p a W/\(CU.agg (fPT f' g')).p b W/\(CU.agg (fPT f'' g'')).p c W:=by
 obtain⟨a,b,c,e,I,h2,h3⟩:=h
 have:=vQ Array.toList (j5 e)
 have this:cs=a++b++c:=this
 exact⟨a,b,c,this,(zBP _ _ a W I).1,(zBP _ _ b W h2).1,(zBP _ _ c W h3).1,I,h2,h3⟩
theorem zWZ:CU.ok 18 (CU.agg (fTG (fPT f g) (fPT f' g') (fPT f'' g''))):=fun cs W h=>by
 obtain⟨a,b,c,rfl,l1,l2,l3,h1,h2,h3⟩:=zE1 h
 have U:=zBP _ _ a W h1;have J:=zBP _ _ b W h2;have O:=zBP _ _ c W h3
 refine⟨by simp[l1,l2,l3],zDP U.2.1 J.2.1 O.2.1,fun u I=>?_⟩
 rcases vV.1 I with I|I
 .rcases vV.1 I with I|I
  .exact U.2.2 u I
  .exact J.2.2 u I
 .exact O.2.2 u I
theorem zUN(h:(fTG (fPT f g) (fPT f' g') (fPT f'' g'')).p v W):(CU.agg (fTG (fPT f g) (fPT f' g') (fPT f'' g''))).p v.cells.toList W/\v.cells.toList.all zX=true:=by
 obtain⟨a,b,c,rfl,h1⟩:=id h
 exact⟨h,(zWZ _ W h).2.1⟩
theorem zRs(cs:List WE)(W:WB)(h:(CU.agg (fTG (fPT f g) (fPT f' g') (fPT f'' g''))).p cs W):0+6<=cs.length/\(fPT f g).p (.agg ((cs.drop 0).take 6).toArray) W:=by
 obtain⟨a,b,c,rfl,O,J,l3,I,_⟩:=zE1 h
 refine⟨by simp[O,J,l3],?_⟩
 rw[nN,sY,tK oA,nK oA]
 exact I
theorem zUM(cs:List WE)(W:WB)(h:(CU.agg (fTG (fPT f g) (fPT f' g') (fPT f'' g''))).p cs W):6+6<=cs.length/\(fPT f' g').p (.agg ((cs.drop 6).take 6).toArray) W:=by
 obtain⟨a,b,c,rfl,J,I,l3,_,h2,_⟩:=zE1 h
 refine⟨by simp[J,I,l3],?_⟩
 rw[sY,tN oA,pC oA,lT,tK oA,nK oA]
 exact h2
theorem zSI(cs:List WE)(W:WB)(h:(CU.agg (fTG (fPT f g) (fPT f' g') (fPT f'' g''))).p cs W):12+6<=cs.length/\(fPT f'' g'').p (.agg ((cs.drop 12).take 6).toArray) W:=by
 obtain⟨a,b,c,rfl,J,I,l3,_,_,h3⟩:=zE1 h
 refine⟨by simp[J,I,l3],?_⟩
 rw[tN (by simp;omega),pC (by simp;omega),lT,nK oA]
 exact h3
theorem zSV(I:Cs.length<=9223372036854775807)(h:∀(i:Nat) (C:CU),Cs[i]?=some C->∃p:List WE,(∀j u,p[j]?=some u->cs[i*z+j]?=some u)/\C.p p W):(SF.row z Cs).p (.slice (some ⟨W.heap.size,0,none⟩) Cs.length Cs.length) (W.alloc (.cells cs.toArray e)):=by
 refine⟨some ⟨W.heap.size,0,none⟩,Cs.length,rfl,vP _,I,fun e=>(by cases e),fun i C hi=>?_⟩
 obtain⟨p,O,h2⟩:=h i C hi
 refine⟨W.heap.size,0,p,rfl,fun j u J=>?_,C.us _ _ _ h2 (zO (zCO W _))⟩
 have:=zBt W cs.toArray e (i*z+j) u (by simpa using O j u J)
 rwa [<-uS]at this
end
def PX.b(x:PX):Nat:=x.1.n+x.1.n'+(x.2.n+x.2.n')
section
variable {F:Fence}{m:Nat}{P:WH}{w0:WB}{ops:Array Oper}{G:Nat->SF}{d:Tmp}{ty:WF}{pos:String}{aft:Array Edge}
end
theorem zRm(I:0<m){ts:List V6}{v:WE}{W:WB}(h:(SF.row 18 (trs m ts)).p v W){i:Nat}(hi:i<ts.length):∀p,p∈tl (at3 ts i)->QB p.1 m/\QB p.2 m:=by
 obtain⟨_,_,_,_,_,_,h5⟩:=h
 obtain⟨b,o,cs,_,_,U⟩:=h5 i _ (zJo hi)
 obtain⟨a,b,c,rfl,_,_,_,O,h2,h3⟩:=zDW U
 intro p J
 rcases xS.1 J with rfl|J
 .exact zC1 I (v:=.agg a.toArray) O
 .rcases xS.1 J with rfl|J
  .exact zC1 I (v:=.agg b.toArray) h2
  .obtain rfl:=tS.1 J
   exact zC1 I (v:=.agg c.toArray) h3
section
variable {F:Fence}{m:Nat}{P:WH}{w0:WB}{ops:Array Oper}{G:Nat->SF}{d:Tmp}{ty:WF}{pos:String}{aft:Array Edge}
theorem zTF(k:IntKind)(u v r:Int)(U:∀q W,(fct G x).p q W->q=.int k u)(J:∀q W,(fct G y).p q W->q=.int k v)(O:k.wrap (u*v)=r)(I:∀W,(G d).p (.int k r) W:=by exact fun _=>rfl):qO F m P w0 ops G ⟨some d,.binOp .mul t x y t',ty,pos,aft,none⟩:=
 zD8 (.int k u) (.int k v) (.int k r) U J (fun W=>by simp[eqGuard]) (fun W=>by subst O;simp[binOp,Op.intArith]) I
end
def zBX(a b p:V2):Int:=(crs a b p).num.sign
def zYr(a b r:Rat):Bool:=(!(qsg a b==0))||(qsg a r==0)
def zWP(a b r:Rat):Bool:=decide (qsg a r*qsg r b≥0)&&zYr a b r
def onB(a b p:V2):Bool:=((zBX a b p==0)&&zWP a.1 b.1 p.1)&&zWP a.2 b.2 p.2
abbrev QP(m:Nat)(p:V2):Prop:=QB p.1 m/\QB p.2 m
theorem QP.sub{p q:V2}(I:QP m p)(J:QP m q):QP (2*m+1) (p.1-q.1,p.2-q.2):=⟨(I.1.sub J.1).mono oA,(I.2.sub J.2).mono oA⟩
theorem zWY(I:0<m){a b c:V2}{x:WE}{W:WB}(h:(fTG (fPV m a) (fPV m b) (fPV m c)).p x W):QP m a/\QP m b/\QP m c:=by
 obtain⟨u,v,q,_,J,h2,h3⟩:=h
 exact⟨zC1 I (v:=.agg u.toArray) J,zC1 I (v:=.agg v.toArray) h2,zC1 I (v:=.agg q.toArray) h3⟩
theorem thB(s:Bool)(A A':WG Addr)(n n' c c':Nat)(s2:Bool)(B B':WG Addr)(k k' d d':Nat)(t:Bool)(C C':WG Addr)(i I j J:Nat)(t2:Bool)(D D':WG Addr)(x x' y y':Nat)(r:Bool)(E E':WG Addr)(p p' q q':Nat)(O:Bool)(F F':WG Addr)(g g' h U:Nat):prog.built 112 [(0,.agg #[.bool s,.slice A n c,.slice A' n' c',.bool s2,.slice B k d,.slice B' k' d']),(1,.agg #[.bool t,.slice C i j,.slice C' I J,.bool t2,.slice D x y,.slice D' x' y']),(2,.agg #[.bool r,.slice E p q,.slice E' p' q',.bool O,.slice F g h,.slice F' g' U])]=some #[.bool s,.slice A n c,.slice A' n' c',.bool s2,.slice B k d,.slice B' k' d',.bool t,.slice C i j,.slice C' I J,.bool t2,.slice D x y,.slice D' x' y',.bool r,.slice E p q,.slice E' p' q',.bool O,.slice F g h,.slice F' g' U]:=by kernel_rfl
theorem zYW{f' g' f'' g'':UF}{u q:WE}(hu:(fPT f g).p u W)(hv:(fPT f' g').p v W)(hq:(fPT f'' g'').p q W):∃cells,prog.built 112 [(0,u),(1,v),(2,q)]=some cells/\(fTG (fPT f g) (fPT f' g') (fPT f'' g'')).p (.agg cells) W:=by
 obtain⟨s,A,n,c,A',n',c',s2,B,k,d,B',k',d',rfl,h1,h2⟩:=hu
 obtain⟨s3,A3,n3,c3,A4,U,I,s4,B3,k3,d3,B4,k4,J,rfl,h3,h4⟩:=hv
 obtain⟨s5,A5,n5,c5,A6,n6,c6,s6,B5,k5,d5,B6,O,d6,rfl,h5,h6⟩:=hq
 exact⟨_,thB ..,_,_,_,rfl,⟨s,A,n,c,A',n',c',s2,B,k,d,B',k',d',rfl,h1,h2⟩,⟨s3,A3,n3,c3,A4,U,I,s4,B3,k3,d3,B4,k4,J,rfl,h3,h4⟩,⟨s5,A5,n5,c5,A6,n6,c6,s6,B5,k5,d5,B6,O,d6,rfl,h5,h6⟩⟩
theorem zSA{p q:V2}{x:WE}(hx:(fTG (fPV m p) (fPV m q) (fPV m r)).p x W)(hm:m<=159)(O:0<m)(hT:Tab W):Calls prog 86 #[x] W (Ret W (fI (zBX p q r)).tS):=by
 have I:=zWY O hx
 refine z5 [(fTG (fPV m p) (fPV m q) (fPV m r)).tS] func86 rfl kA ⟨hx,trivial⟩ fun a s=>?_
 replace s:=s.renew [(0,.u (fTG (fPV m p) (fPV m q) (fPV m r)))] (fmz ⟨.inr ⟨_,rfl,.head _⟩,fnz⟩)
 refine lQ<|rgK 0 [] s
  zB fun a w1 s=>yN (CU.agg (fTG (fPV m p) (fPV m q) (fPV m r))) rfl s kA (fun v W h=>zUN h) fun b1 a w s=>yO (uI 0) rfl s kA iiz fun a w s=>zD rfl<|lQ ?_
 replace s:=s.drop [2]
 exact rgE ((3,.X (fTG (fPV m p) (fPV m q) (fPV m r)) 6)::(4,.Z (fPV m q))::(5,.X (fTG (fPV m p) (fPV m q) (fPV m r)) 0)::(6,.Z (fPV m p))::(7,.Z (fPN ((q).1-(p).1,(q).2-(p).2)))::(8,.X (fTG (fPV m p) (fPV m q) (fPV m r)) 12)::(9,.Z (fPV m r))::(10,.X (fTG (fPV m p) (fPV m q) (fPV m r)) 0)::(11,.Z (fPV m p))::(12,.Z (fPN ((r).1-(p).1,(r).2-(p).2)))::(13,.Z (fQN (((q).1-(p).1,(q).2-(p).2).1*((r).1-(p).1,(r).2-(p).2).2-((q).1-(p).1,(q).2-(p).2).2*((r).1-(p).1,(r).2-(p).2).1)))::(14,.Z (uI (zBX p q r)))::(2,.u (uI (zBX p q r)))::[]) s
  (oc (zN (C:=cg (fTG (fPV m p) (fPV m q) (fPV m r))) 6 kA)<|oc (zV (C:=cg (fTG (fPV m p) (fPV m q) (fPV m r))) (k:=6) 6 kA (h:=zUM))<|oc (zN (C:=cg (fTG (fPV m p) (fPV m q) (fPV m r))) 0 kA)<|oc (zV (C:=cg (fTG (fPV m p) (fPV m q) (fPV m r))) (k:=0) 6 kA (h:=zRs))<|oc (zI zC zQX (fun J u1 W hb (U:(fPV m q).p J W) (h1:(fPV m p).p u1 W)=>zKc (p:=q) (q:=p) U h1 oA O (hT.below (s.up hb))))<|oc (zN (C:=cg (fTG (fPV m p) (fPV m q) (fPV m r))) 12 kA)<|oc (zV (C:=cg (fTG (fPV m p) (fPV m q) (fPV m r))) (k:=12) 6 kA (h:=zSI))<|oc (zN (C:=cg (fTG (fPV m p) (fPV m q) (fPV m r))) 0 kA)<|oc (zV (C:=cg (fTG (fPV m p) (fPV m q) (fPV m r))) (k:=0) 6 kA (h:=zRs))<|oc (zI zC zQX (fun J u1 W hb (U:(fPV m r).p J W) (h1:(fPV m p).p u1 W)=>zKc (p:=r) (q:=p) U h1 oA O (hT.below (s.up hb))))<|oc (zI zC zT5 (fun J u1 W hb (U:(fPN ((q).1-(p).1,(q).2-(p).2)).p J W) (h1:(fPN ((r).1-(p).1,(r).2-(p).2)).p u1 W)=>zGU (m:=(2*m+1)) (p:=((q).1-(p).1,(q).2-(p).2)) (q:=((r).1-(p).1,(r).2-(p).2)) (zBz (p:=((q).1-(p).1,(q).2-(p).2)) (m:=(2*m+1)) ((QP.sub I.2.1 I.1).1.mono (by first|omega|decide)) ((QP.sub I.2.1 I.1).2.mono (by first|omega|decide)) U) (zBz (p:=((r).1-(p).1,(r).2-(p).2)) (m:=(2*m+1)) ((QP.sub I.2.2 I.1).1.mono (by first|omega|decide)) ((QP.sub I.2.2 I.1).2.mono (by first|omega|decide)) h1) (QP.sub I.2.1 I.1) (QP.sub I.2.2 I.1) oA oA (hT.below (s.up hb))))<|oc (zG zC zVQ (fun J W hb (U:QNp (((q).1-(p).1,(q).2-(p).2).1*((r).1-(p).1,(r).2-(p).2).2-((q).1-(p).1,(q).2-(p).2).2*((r).1-(p).1,(r).2-(p).2).1) J W)=>zM7 (wL U (QB.mono (((QP.sub I.2.1 I.1).1.mul (QP.sub I.2.2 I.1).2).sub ((QP.sub I.2.1 I.1).2.mul (QP.sub I.2.2 I.1).1)) (m':=8*m+5) oA)) oA oA (hT.below (s.up hb))))<|oc zE<|zB) fun a w2 s=>pU<|wF s (t:=2) rfl iiz
theorem zMI{p q:V2}{u x:WE}(h1:(fPV m p).p u W)(h2:(fPV m q).p v W)(h3:(fPV m r).p x W)(hm:m<=159)(I:0<m)(O:Tab W):Calls prog 59 #[u,v,x] W (Ret W (fI (zBX p q r)).tS):=by
 refine z5 [(fPV m p).tS,(fPV m q).tS,(fPV m r).tS] func59 rfl kA ⟨h1,h2,h3,trivial⟩ fun a s=>?_
 replace s:=s.renew [(0,.u (fPV m p)),(1,.u (fPV m q)),(2,.u (fPV m r))] (fmz ⟨.inr ⟨_,rfl,.head _⟩,fmz ⟨.inr ⟨_,rfl,mz1⟩,fmz ⟨.inr ⟨_,rfl,mz2⟩,fnz⟩⟩⟩)
 refine lQ<|rgK 0 [] s
  zB fun a w1 s=>yN (CU.agg (fPV m p)) rfl s kA (fun v W h=>yY h) fun b3 a w s=>yN (CU.agg (fPV m q)) rfl s kA (fun v W h=>yY h) fun b4 a w s=>yN (CU.agg (fPV m r)) rfl s kA (fun v W h=>yY h) fun b5 a w s=>yO (uI 0) rfl s kA iiz fun a w s=>zD rfl<|lQ ?_
 replace s:=s.drop [6]
 exact rgE ((7,.Z (fPV m p))::(8,.Z (fPV m q))::(9,.Z (fPV m r))::(10,.Z (fTG (fPV m p) (fPV m q) (fPV m r)))::(11,.Z (uI (zBX p q r)))::(6,.u (uI (zBX p q r)))::[]) s
  (oc (zH (f:=fPV m p) 6 kA (hz:=zL _ _))<|oc (zH (f:=fPV m q) 6 kA (hz:=zL _ _))<|oc (zH (f:=fPV m r) 6 kA (hz:=zL _ _))<|oc (zAQ (fun u v z W (U:(fPV m p).p u W) (hv:(fPV m q).p v W) (hz:(fPV m r).p z W)=>zYW U hv hz))<|oc (zG zC zXC (fun J W hb (h0:(fTG (fPV m p) (fPV m q) (fPV m r)).p J W)=>zSA h0 hm I (O.below (s.up hb))))<|oc zE<|zB) fun a w2 s=>pU<|wF s (t:=6) rfl iiz
theorem zWp{b p:V2}(I:QB a.1 m/\QB a.2 m)(hb:QB b.1 m/\QB b.2 m)(J:QB p.1 M/\QB p.2 M):QB (crs a b p) ((2*m+1+(M+m+1))+(2*m+1+(M+m+1))+1):=
 ((((hb.1.sub I.1).mul (J.2.sub I.2)).sub ((hb.2.sub I.2).mul (J.1.sub I.1))).mono oA)
theorem zBn{p q:V2}(I:QB p.1 M/\QB p.2 M)(J:QB q.1 m/\QB q.2 m):QB (p.1-q.1) (M+m+1)/\QB (p.2-q.2) (M+m+1):=⟨I.1.sub J.1,I.2.sub J.2⟩
theorem zLO{u:WE}{p q:V2}(h1:(fPV M p).p u W)(h2:(fPV M q).p v W)(U:QB p.1 m/\QB p.2 m)(hq:QB q.1 M/\QB q.2 M)(J:m<=M)(hm0:0<m)(hM:m+M<=990):Calls prog 39 #[u,v] W (Ret W (fQN (p.1*q.2-p.2*q.1)).tS):=by
 refine z5 [(fPV M p).tS,(fPV M q).tS] func39 rfl kA ⟨h1,h2,trivial⟩ fun a s=>lQ<|rgK 0 [] s
  zB fun a w1 s=>yN (CU.agg (fPV M p)) rfl s kA (fun v W h=>yY h) fun b2 a w s=>yN (CU.agg (fPV M q)) rfl s kA (fun v W h=>yY h) fun b3 a w s=>z9 (CU.len 3) (cs:=zR3) kA rfl s kA (fun W=>rfl) rfl fun b4 a w s=>zD rfl<|lQ<|yL [] 13 ((5,.X (fPV M p) 0)::(6,.Z (fRV M ((p).1)))::(7,.X (fPV M q) 3)::(8,.Z (fRV M ((q).2)))::(9,.s (SF.row 3 (rvs M [(p).1,(q).2])))::(10,.Z (fQN ((p).1*(q).2)))::(11,.X (fPV M p) 3)::(12,.Z (fRV M ((p).2)))::(13,.X (fPV M q) 0)::(14,.Z (fRV M ((q).1)))::(15,.s (SF.row 3 (rvs M [(p).2,(q).1])))::(16,.Z (fQN ((p).2*(q).1)))::(17,.u (fQN (((p).1*(q).2)-((p).2*(q).1))))::[]) hmix s kA
  (oc (zN (C:=cg (fPV M p)) 0 kA)<|oc (zV (C:=cg (fPV M p)) (k:=0) 3 kA (h:=zFO))<|oc (zN (C:=cg (fPV M q)) 3 kA)<|oc (zV (C:=cg (fPV M q)) (k:=3) 3 kA (h:=zFN))<|oc (yH (fun u v W (hu:RVp M ((p).1) u W) (hv:RVp M ((q).2) v W)=>zCP hu hv))<|oc (zG zC zI3 (fun I W hb (O:(SF.row 3 (rvs M [(p).1,(q).2])).p I W)=>zCb O (U.1.mono J) hq.2 oA))<|oc (zN (C:=cg (fPV M p)) 3 kA)<|oc (zV (C:=cg (fPV M p)) (k:=3) 3 kA (h:=zFN))<|oc (zN (C:=cg (fPV M q)) 0 kA)<|oc (zV (C:=cg (fPV M q)) (k:=0) 3 kA (h:=zFO))<|oc (yH (fun u v W (hu:RVp M ((p).2) u W) (hv:RVp M ((q).1) v W)=>zCP hu hv))<|oc (zG zC zI3 (fun I W hb (O:(SF.row 3 (rvs M [(p).2,(q).1])).p I W)=>zCb O (U.2.mono J) hq.1 oA))<|oc (zI zC zQ1 (fun I u1 W hb (O:QNp ((p).1*(q).2) I W) (h1:QNp ((p).2*(q).1) u1 W)=>zHl (wL O (U.1.mul hq.2)) (wL h1 (U.2.mul hq.1)) oA oA))<|zB) fun Q' hQ a w2 s=>zR (CU.agg (fQN (((p).1*(q).2)-((p).2*(q).1)))) ((fQN (((p).1*(q).2)-((p).2*(q).1))).tS) rfl s kA rfl rfl rfl iiz iiz yJ fun a w s=>zD rfl (hQ _ _ ?_)
 exact pU<|wI s (CU.agg (fQN (p.1*q.2-p.2*q.1))) rfl kA rfl rfl (qW _) (fun cs W h=>h)
theorem QB.inv{q:Rat}(h:QB q m):QB q⁻¹ m:=by
 by_cases e:q=0
 .subst e
  rw[Rat.inv_zero];exact h
 .have J:q.num≠0:=fun I=>e (tV.1 I)
  refine vE h.pos (X:=(q.den:Int)) (D:=q.num) ?_ J (jI h.2) h.1
  have O:(q.num:Rat)=q*((q.den:Nat):Rat):=zK4 q
  rw[O,<-Rat.mul_assoc,Rat.inv_mul_cancel q e,tW]
  rfl
theorem QB.div{p q:Rat}(h:QB p m)(I:QB q n):QB (p/q) (m+n):=by
 rw[rW]
 exact h.mul I.inv
def zJZ(p q:V2):Rat:=p.1*q.1+p.2*q.2
def onS(a b p:V2):Bool:=if((crs a b p).num.sign !=0)=true then false else decide ((zJZ (p.1-a.1,p.2-a.2) (p.1-b.1,p.2-b.2)).num.sign<=0)
theorem zXe{b p:V2}(h:((crs a b p).num.sign !=0)=true):onS a b p=false:=if_pos h
theorem zXf{b p:V2}(h:((crs a b p).num.sign !=0)=false):onS a b p=decide ((zJZ (p.1-a.1,p.2-a.2) (p.1-b.1,p.2-b.2)).num.sign<=0):=if_neg (by rw[h];decide)
def zLG(f:Nat->Bool)(N:Nat):Nat:=match(List.range N).find? (fun k=> !(f k))with|some k=>k|none=>N
theorem zMG{f:Nat->Bool}(h:∀j,j<N->f j=true):zLG f N=N:=by
 unfold zLG
 rw[tX.2 (fun x I=>by rw[h x (xT.1 I)];simp)]
theorem zPp{f:Nat->Bool}(J:k<N)(h:∀j,j<k->f j=true)(e:f k=false):zLG f N=k:=by
 unfold zLG
 have:(List.range N).find? (fun k=> !(f k))=some k:=by
  rw[List.find?_range_eq_some]
  exact⟨by rw[e];rfl,xT.2 J,fun j I=>by rw[h j I];rfl⟩
 rw[this]
def zNu(L:List V2)(p:V2):Nat:=zLG (fun k=>decide (jZ (at_ L k) p<0)) L.length
def zFL(L:List V2)(p:V2):List V2:=if(decide (zNu L p<L.length)&&(jZ (at_ L (zNu L p)) p==0))=true then L else L.take (zNu L p)++ [p]++L.drop (zNu L p)
theorem zVl{L:List V2}{p:V2}(I:zNu L p=k)(h:(decide ((k:Int)<((pns L).length:Int))&&(jZ (at_ L k) p==0))=true):zFL L p=L:=by
 unfold zFL
 rw[I]
 refine if_pos ?_
 rw[xV]at h ⊢
 exact⟨lI (by have:=xW h.1;simp at this;omega),h.2⟩
theorem zVm{L:List V2}{p:V2}(J:zNu L p=k)(h:(decide ((k:Int)<((pns L).length:Int))&&(jZ (at_ L k) p==0))=false):zFL L p=L.take k++ [p]++L.drop k:=by
 unfold zFL
 rw[J]
 refine if_neg fun I=>?_
 rw[xV]at I
 rw[tY]at h
 rcases h with h|h
 .have:=nH h
  have:=xW I.1
  simp at*
  omega
 .rw[h]at I;exact absurd I.2 dA
theorem zTv(L:List V2)(p:V2):zNu L p<=L.length:=by
 unfold zNu zLG
 split
 .rename_i k h
  have:=xT.1 (tT h)
  omega
 .exact vP _
theorem zQi(L:List V2)(p:V2):(zFL L p).length<=L.length+1:=by
 unfold zFL
 split
 .omega
 .have:=zTv L p
  simp
  omega
theorem zQh{L:List V2}{p x:V2}(h:x∈zFL L p):x=p∨x∈L:=by
 unfold zFL at h
 split at h
 .exact .inr h
 .rw[vV,vV,tS]at h
  rcases h with(h|h)|h
  .exact .inr (uV h)
  .exact .inl h
  .exact .inr (uZ h)
def yM(a b c d:V2):Nat->List V2
 |0=> []
 |i+1=>if(onS a b (at_ [a,b,c,d] i)&&onS c d (at_ [a,b,c,d] i))=true then zFL (yM a b c d i) (at_ [a,b,c,d] i)else yM a b c d i
theorem zJY{b c d:V2}(h:(onS a b (at_ [a,b,c,d] i)&&onS c d (at_ [a,b,c,d] i))=true):yM a b c d (i+1)=zFL (yM a b c d i) (at_ [a,b,c,d] i):=if_pos h
theorem zOz{b c d:V2}(h:(onS a b (at_ [a,b,c,d] i)&&onS c d (at_ [a,b,c,d] i))=false):yM a b c d (i+1)=yM a b c d i:=if_neg (by rw[h];decide)
theorem zF3(a b c d:V2):∀i,(yM a b c d i).length<=i
 |0=>vP _
 | i+1=>by
  have ih:=zF3 a b c d i
  show(if _ then _ else _:List V2).length<=_
  split
  .have:=zQi (yM a b c d i) (at_ [a,b,c,d] i)
   omega
  .omega
theorem zLm{m:Nat}{a b c d:V2}(h:∀p,p∈ [a,b,c,d]->QB p.1 m/\QB p.2 m):∀i,i<=4->∀p,p∈yM a b c d i->QB p.1 m/\QB p.2 m
 |0,_,p,hp=>absurd hp rO
 | i+1,hi,p,hp=>by
  have J:=zLm h i oA
  have I:p∈(if(onS a b (at_ [a,b,c,d] i)&&onS c d (at_ [a,b,c,d] i))=true then zFL (yM a b c d i) (at_ [a,b,c,d] i)else yM a b c d i):=hp
  split at I
  .rcases zQh I with e|e
   .rw[e];exact h _ (zA7 (by simp;omega))
   .exact J p e
  .exact J p I
def fRW(W0:WB)(z:Nat)(Cs:List CU):UF:=⟨⟨fun v _=>(SF.row z Cs).p v W0,fun _ _ _ h _=>h⟩,fun _ _ _ h _=>h⟩
section
variable {F:Fence}{m:Nat}{P:WH}{w0:WB}{ops:Array Oper}{G:Nat->SF}{d:Tmp}{ty:WF}{pos:String}{aft:Array Edge}
theorem zDG(hu:P.underlying t=some (.slice e'))(hie:P.info? e'=some ie)(hsz:ie.size=z)(A:WG Addr)(n c k:Nat)(hk:k<=n)(w:WB):(Instr.sliceAt t (.slice A n c) (some (.int .i64 (k:Int))) none none).run P w=.ok (.slice (if c=k then A else A.map (·.add (k*z))) (n-k) (c-k)) w:=by
 simp[Instr.sliceAt,Instr.slice,Instr.sliceBounds,bK hu,sizeOf,typeInfo,hie,hsz,go_sem,hk]
theorem zIq(hu:P.underlying t=some (.slice e'))(hie:P.info? e'=some ie)(A:WG Addr)(n c k:Nat)(hk:k<=c)(w:WB):(Instr.sliceAt t (.slice A n c) none (some (.int .i64 (k:Int))) none).run P w=.ok (.slice A k c) w:=by
 simp[Instr.sliceAt,Instr.slice,Instr.sliceBounds,bK hu,sizeOf,typeInfo,hie,go_sem,hk]
theorem zGA(hz:qS P t=some z)(hk:k<=Cs.length)(hx:∀v W,bW w0 W->(fct G x).p v W->(SF.row z Cs).p v W)(hh:∀v W,(fct G lo).p v W->v=.int .i64 (k:Int))(hd:∀v W,(SF.row z (Cs.drop k)).p v W->(G d).p v W:=by exact fun _ _ h=>h):qO F m P w0 ops G ⟨some d,.slice t x (some lo) none none,ty,pos,aft,none⟩:=
 qG (fun _ e=>by cases e) (fun _ e=>by cases e) fun b W hb U=>by
  obtain⟨A,c,e,h2,h3,h4,h5⟩:=hx _ _ hb (U x (by simp[Op.operands]))
  have e2:=hh _ _ (U lo (by simp[Op.operands]))
  unfold qS at hz
  split at hz<;>try cases hz
  rename_i e' hu
  obtain⟨ie,I,J⟩:=lZ.1 hz
  refine⟨.slice (if c=k then A else A.map (·.add (k*z))) (Cs.length-k) (c-k),by simp[execOp,e,e2,zDG hu I J A Cs.length c k hk],hd _ _ ⟨_,c-k,by rw[uJ],by rw[uJ];omega,by omega,fun O=>?_,fun i C hi=>?_⟩⟩
  .split at O
   .omega
   .cases A with
    |none=>have:=h4 rfl;omega
    |some q=>cases O
  .rw[uW]at hi
   have hlt:=(bE.1 hi).1
   obtain⟨b',o,cs,rfl,h6,h7⟩:=h5 _ C hi
   rw[if_neg oA]
   refine⟨b',o+k*z,cs,by simp[xH],?_,h7⟩
   rwa [show o+(k+i)*z=o+k*z+i*z by rw[vT];omega]at h6
theorem zKV(hz:qS P t=some z)(O:k<=Cs.length)(hx:∀v W,bW w0 W->(fct G x).p v W->(SF.row z Cs).p v W)(hh:∀v W,(fct G hi).p v W->v=.int .i64 (k:Int))(hd:∀v W,(SF.row z (Cs.take k)).p v W->(G d).p v W:=by exact fun _ _ h=>h):qO F m P w0 ops G ⟨some d,.slice t x none (some hi) none,ty,pos,aft,none⟩:=
 qG (fun _ e=>by cases e) (fun _ e=>by cases e) fun b W hb U=>by
  obtain⟨A,c,e,h2,h3,h4,h5⟩:=hx _ _ hb (U x (by simp[Op.operands]))
  have e2:=hh _ _ (U hi (by simp[Op.operands]))
  unfold qS at hz
  split at hz<;>try cases hz
  rename_i e' hu
  obtain⟨ie,I,hsz⟩:=lZ.1 hz
  have J:k<=c:=xQ O h2
  refine⟨.slice A k c,by simp[execOp,e,e2,zIq hu I A Cs.length c k J],hd _ _ ⟨A,c,by rw[uD,uQ O],by rw[uD];omega,h3,h4,fun i C hi=>?_⟩⟩
  rw[uT]at hi
  split at hi
  .exact h5 i C hi
  .cases hi
theorem zJK(hz:qS P t=some z)(hk:k<=Cs.length)(hl:(SF.row z Cs).p l0 W0)(hx:∀v W,(fct G x).p v W->v=l0)(hh:∀v W,(fct G lo).p v W->v=.int .i64 (k:Int))(hd:∀v W,(SF.row z (Cs.drop k)).p v W0->(G d).p v W):qO F m P w0 ops G ⟨some d,.slice t x (some lo) none none,ty,pos,aft,none⟩:=
 qG (fun _ e=>by cases e) (fun _ e=>by cases e) fun b W hb hp=>by
  have O:=hx _ _ (hp x (by simp[Op.operands]))
  obtain⟨A,c,e,h2,h3,h4,h5⟩:=hl
  have e2:=hh _ _ (hp lo (by simp[Op.operands]))
  rw[e]at O
  unfold qS at hz
  split at hz<;>try cases hz
  rename_i e' hu
  obtain⟨ie,I,J⟩:=lZ.1 hz
  refine⟨.slice (if c=k then A else A.map (·.add (k*z))) (Cs.length-k) (c-k),by simp[execOp,O,e2,zDG hu I J A Cs.length c k hk],hd _ _ ⟨_,c-k,by rw[uJ],by rw[uJ];omega,by omega,fun U=>?_,fun i C hi=>?_⟩⟩
  .split at U
   .omega
   .cases A with
    |none=>have:=h4 rfl;omega
    |some q=>cases U
  .rw[uW]at hi
   have hlt:=(bE.1 hi).1
   obtain⟨b',o,cs,rfl,h6,h7⟩:=h5 _ C hi
   rw[if_neg oA]
   refine⟨b',o+k*z,cs,by simp[xH],?_,h7⟩
   rwa [show o+(k+i)*z=o+k*z+i*z by rw[vT];omega]at h6
end
theorem zJW{d:Tmp}(hz:qS P t=some z)(hk:k<=Cs.length)(hl:(SF.row z Cs).p l0 W0)(hx:∀v W,(fct G x).p v W->v=l0)(hh:∀v W,(fct G lo).p v W->v=.int .i64 (k:Int)):zGc P w0 ops G ⟨some d,.slice t x (some lo) none none,ty,pos,aft,none⟩:=
 zF1 (fun _ e=>by cases e) fun b W _ U=>by
  have O:=hx _ _ (U x (by simp[Op.operands]))
  obtain⟨A,c,e,h2,h3,h4,h5⟩:=hl
  have e2:=hh _ _ (U lo (by simp[Op.operands]))
  rw[e]at O
  unfold qS at hz
  split at hz<;>try cases hz
  rename_i e' hu
  obtain⟨ie,I,J⟩:=lZ.1 hz
  exact⟨.slice (if c=k then A else A.map (·.add (k*z))) (Cs.length-k) (c-k),fun W' _=>by simp[execOp,O,e2,zDG hu I J A Cs.length c k hk]⟩
section
variable {S:Nat->Prop}{F:Fence}{m:Nat}{P:WH}{Q:Exit->Act->WB->Prop}{w0:WB}{K:List (Nat×KF)}{B:List Bx}{n:Nat}{ds:List Deferred}{a:Act}{w:WB}
theorem zRt(f:UF)(J:ops[k]?=some ⟨some d,.assign x,ty,pos,aft,none⟩)(h:StS S w0 K B n ds a w)(I:j9 K B n d=true)(O:∀v W,(Wd.fct (jM K B) x).p v W->f.p v W)
  (fin:∀a,StS S w0 ((d,.u f)::K) B n ds a w->zAW F m P ops Q (k+1) a w):zAW F m P ops Q k a w:=
 zAl J rfl (zCd (fun _ e=>by cases e) (fun _ e=>by cases e) (W':=w) (v:=a.eval x) rfl (fin _ (h.set I (xF _ _) (O _ _ (h.fct x)))))
end
theorem zQk(ps:List V2)(k:Nat):(pns ps).take k=pns (ps.take k):=by unfold pns;rw[List.map_take]
theorem zQl(ps:List V2)(k:Nat):(pns ps).drop k=pns (ps.drop k):=by unfold pns;rw[List.map_drop]
theorem zNv(a b:List V2)(p:V2):pns a++pns [p]++pns b=pns (a++ [p]++b):=by simp[pns]
theorem zYD(U a2 a3 a4 a5 a6 b1 b2 I b4 b5 b6 c1 c2 c3 J c5 c6 d1 d2 d3 O d5 d6:WE):yD prog 22 4 [(0,.agg #[U,a2,a3,a4,a5,a6]),(1,.agg #[b1,b2,I,b4,b5,b6]),(2,.agg #[c1,c2,c3,J,c5,c6]),(3,.agg #[d1,d2,d3,O,d5,d6])]=some (30,#[U,a2,a3,a4,a5,a6,b1,b2,I,b4,b5,b6,c1,c2,c3,J,c5,c6,d1,d2,d3,O,d5,d6]):=by kernel_rfl
theorem zN4(h:cs.length=6):∃u0 u1 u2 u3 u4 u5,cs=[u0,u1,u2,u3,u4,u5]:=by
 match cs,h with
 | [u0,u1,u2,u3,u4,u5],_=>exact⟨u0,u1,u2,u3,u4,u5,rfl⟩
theorem zKO(h:(fPT f g).p v W):∃u0 u1 u2 u3 u4 u5,v=.agg #[u0,u1,u2,u3,u4,u5]/\(CU.agg (fPT f g)).p [u0,u1,u2,u3,u4,u5] W:=by
 obtain⟨vs,rfl,J,_,_,I⟩:=y7 v W h
 obtain⟨u0,u1,u2,u3,u4,u5,rfl⟩:=zN4 J
 exact⟨u0,u1,u2,u3,u4,u5,rfl,I⟩
theorem zUW{p q s:V2}{u x y:WE}(hu:(fPV m p).p u W)(hv:(fPV m q).p v W)(hx:(fPV m r).p x W)(hy:(fPV m s).p y W):∃e cs,yD prog 22 4 [(0,u),(1,v),(2,x),(3,y)]=some (e,cs)/\(SF.row 6 (pvs m [p,q,r,s])).p (.slice (some ⟨W.heap.size,0,none⟩) 4 4) (W.alloc (.cells cs e)):=by
 obtain⟨a1,a2,a3,a4,a5,a6,rfl,ha⟩:=zKO hu
 obtain⟨b1,b2,O,b4,b5,b6,rfl,hb⟩:=zKO hv
 obtain⟨c1,c2,c3,U,c5,c6,rfl,hc⟩:=zKO hx
 obtain⟨d1,d2,d3,d4,d5,d6,rfl,hd⟩:=zKO hy
 refine⟨_,_,zYD ..,zSV (Cs:=pvs m [p,q,r,s]) (cs:=[a1,a2,a3,a4,a5,a6,b1,b2,O,b4,b5,b6,c1,c2,c3,U,c5,c6,d1,d2,d3,d4,d5,d6]) fC fun i C hi=>?_⟩
 have J:=(bE.1 hi).1
 simp at J
 rcases(by omega:i=0∨i=1∨i=2∨i=3)with rfl|rfl|rfl|rfl
 .obtain rfl:CU.agg (fPV m p)=C:=by simpa using hi
  exact⟨_,fun j u I=>by have:=(bE.1 I).1;simp at this;rcases(by omega:j=0∨j=1∨j=2∨j=3∨j=4∨j=5)with rfl|rfl|rfl|rfl|rfl|rfl<;>simpa using I,ha⟩
 .obtain rfl:CU.agg (fPV m q)=C:=by simpa using hi
  exact⟨_,fun j u I=>by have:=(bE.1 I).1;simp at this;rcases(by omega:j=0∨j=1∨j=2∨j=3∨j=4∨j=5)with rfl|rfl|rfl|rfl|rfl|rfl<;>simpa using I,hb⟩
 .obtain rfl:CU.agg (fPV m r)=C:=by simpa using hi
  exact⟨_,fun j u I=>by have:=(bE.1 I).1;simp at this;rcases(by omega:j=0∨j=1∨j=2∨j=3∨j=4∨j=5)with rfl|rfl|rfl|rfl|rfl|rfl<;>simpa using I,hc⟩
 .obtain rfl:CU.agg (fPV m s)=C:=by simpa using hi
  exact⟨_,fun j u I=>by have:=(bE.1 I).1;simp at this;rcases(by omega:j=0∨j=1∨j=2∨j=3∨j=4∨j=5)with rfl|rfl|rfl|rfl|rfl|rfl<;>simpa using I,hd⟩
theorem zNH{d:Tmp}{z q:WL}(h:∀u v r s W,(fct G x).p u W->(fct G y).p v W->(fct G z).p r W->(fct G q).p s W->∃e cs,yD P t 4 [(0,u),(1,v),(2,r),(3,s)]=some (e,cs)/\(G d).p (.slice (some ⟨W.heap.size,0,none⟩) 4 4) (W.alloc (.cells cs e))):qO F m P w0 ops G ⟨some d,.buildSlice t 4 #[(0,x),(1,y),(2,z),(3,q)],ty,pos,aft,none⟩:=
 zDs fun b W hb I=>by
  obtain⟨e,cs,J,h2⟩:=h _ _ _ _ W (I x fC) (I y fC) (I z fC) (I q fC)
  exact⟨e,cs,by simpa using J,h2⟩
theorem zTb{u:WE}{p q:V2}(h1:(fPV M p).p u W)(h2:(fPV M q).p v W)(J:QB p.1 M/\QB p.2 M)(I:QB q.1 M/\QB q.2 M)(hM:M<=495):Calls prog 119 #[u,v] W (Ret W (fQN (zJZ p q)).tS):=by
 refine z5 [(fPV M p).tS,(fPV M q).tS] func119 rfl kA ⟨h1,h2,trivial⟩ fun a s=>lQ<|rgK 0 [] s
  zB fun a w1 s=>yN (CU.agg (fPV M p)) rfl s kA (fun v W h=>yY h) fun b2 a w s=>yN (CU.agg (fPV M q)) rfl s kA (fun v W h=>yY h) fun b3 a w s=>z9 (CU.len 3) (cs:=zR3) kA rfl s kA (fun W=>rfl) rfl fun b4 a w s=>zD rfl<|lQ<|yL [] 14 ((5,.X (fPV M p) 0)::(6,.Z (fRV M ((p).1)))::(7,.X (fPV M q) 0)::(8,.Z (fRV M ((q).1)))::(9,.s (SF.row 3 (rvs M [(p).1,(q).1])))::(10,.Z (fQN ((p).1*(q).1)))::(11,.X (fPV M p) 3)::(12,.Z (fRV M ((p).2)))::(13,.X (fPV M q) 3)::(14,.Z (fRV M ((q).2)))::(15,.s (SF.row 3 (rvs M [(p).2,(q).2])))::(16,.Z (fQN ((p).2*(q).2)))::(17,.s (SF.row 3 (rvs (M+M) [((p).1*(q).1),((p).2*(q).2)])))::(18,.u (fQN (((p).1*(q).1)+((p).2*(q).2))))::[]) hmix s kA
  (oc (zN (C:=cg (fPV M p)) 0 kA)<|oc (zV (C:=cg (fPV M p)) (k:=0) 3 kA (h:=zFO))<|oc (zN (C:=cg (fPV M q)) 0 kA)<|oc (zV (C:=cg (fPV M q)) (k:=0) 3 kA (h:=zFO))<|oc (yH (fun u v W (U:RVp M ((p).1) u W) (hv:RVp M ((q).1) v W)=>zCP U hv))<|oc (zG zC zI3 (fun O W hb (h0:(SF.row 3 (rvs M [(p).1,(q).1])).p O W)=>zCb h0 J.1 I.1 oA))<|oc (zN (C:=cg (fPV M p)) 3 kA)<|oc (zV (C:=cg (fPV M p)) (k:=3) 3 kA (h:=zFN))<|oc (zN (C:=cg (fPV M q)) 3 kA)<|oc (zV (C:=cg (fPV M q)) (k:=3) 3 kA (h:=zFN))<|oc (yH (fun u v W (U:RVp M ((p).2) u W) (hv:RVp M ((q).2) v W)=>zCP U hv))<|oc (zG zC zI3 (fun O W hb (h0:(SF.row 3 (rvs M [(p).2,(q).2])).p O W)=>zCb h0 J.2 I.2 oA))<|oc (yH (fun u v W (U:QNp ((p).1*(q).1) u W) (hv:QNp ((p).2*(q).2) v W)=>zCP (wL U (J.1.mul I.1)) (wL hv (J.2.mul I.2))))<|oc (zG zC zQ2 (fun O W hb (h0:(SF.row 3 (rvs (M+M) [((p).1*(q).1),((p).2*(q).2)])).p O W)=>zE5 h0 (J.1.mul I.1) (J.2.mul I.2) oA))<|zB) fun Q' hQ a w2 s=>zR (CU.agg (fQN (((p).1*(q).1)+((p).2*(q).2)))) ((fQN (((p).1*(q).1)+((p).2*(q).2))).tS) rfl s kA rfl rfl rfl iiz iiz yJ fun a w s=>zD rfl (hQ _ _ ?_)
 exact pU<|wI s (CU.agg (fQN (p.1*q.1+p.2*q.2))) rfl kA rfl rfl (qW _) (fun cs W h=>h)
theorem zHk{u:WE}{p q:V2}(h1:(fPV m p).p u W)(h2:(fPV m q).p v W)(O:m<=990)(I:0<m):Calls prog 22 #[u,v] W (Ret W (fB (jZ p q==0)).tS):=by
 refine z5 [(fPV m p).tS,(fPV m q).tS] func22 rfl kA ⟨h1,h2,trivial⟩ fun a s=>lQ<|rgK 0 [] s
  zB fun a w1 s=>yN (CU.agg (fPV m p)) rfl s kA (fun v W h=>yY h) fun b2 a w s=>yN (CU.agg (fPV m q)) rfl s kA (fun v W h=>yY h) fun b3 a w s=>yO (uB false) rfl s kA iiz fun a w s=>zD rfl<|lQ ?_
 replace s:=s.drop [4]
 exact rgE ((5,.Z (fPV m p))::(6,.Z (fPV m q))::(7,.Z (uI (jZ p q)))::(8,.Z (uB (jZ p q==0)))::(4,.u (uB (jZ p q==0)))::[]) s
  (oc (zH (f:=fPV m p) 6 kA (hz:=zL _ _))<|oc (zH (f:=fPV m q) 6 kA (hz:=zL _ _))<|oc (zI zC zV2 (fun J U W hb (h0:(fPV m p).p J W) (h1:(fPV m q).p U W)=>zNb h0 h1 O I))<|oc (zM .i64 (jZ p q) 0 (jZ p q==0) iiz iiz rfl rfl)<|oc zE<|zB) fun a w2 s=>pU<|wF s (t:=4) rfl iiz
theorem zHo{u x:WE}{ca cb p:V2}(h1:(fPV m ca).p u W)(h2:(fPV m cb).p v W)(h3:(fPV M p).p x W)(hmM:m<=M)(h6:0<m)(hM:M+m+1<=495)(hM2:3*m+M+2<=990):Calls prog 89 #[u,v,x] W (Ret W (fB (onS ca cb p)).tS):=by
 have J:=zC1 h6 h1
 have O:=zC1 h6 h2
 have I:=zC1 oA h3
 refine z5 [(fPV m ca).tS,(fPV m cb).tS,(fPV M p).tS] func89 rfl kA ⟨h1,h2,h3,trivial⟩ fun a s=>lQ<|rgK 0 [] s
  zB fun a w1 s=>yN (CU.agg (fPV m ca)) rfl s kA (fun v W h=>yY h) fun b3 a w s=>yN (CU.agg (fPV m cb)) rfl s kA (fun v W h=>yY h) fun b4 a w s=>yN (CU.agg (fPV M p)) rfl s kA (fun v W h=>yY h) fun b5 a w s=>yO (uB false) rfl s kA iiz fun a w s=>zD rfl<|lQ<|rgQ ((7,.Z (fPV m cb))::(8,.Z (fPV m ca))::(9,.Z (fPN ((cb).1-(ca).1,(cb).2-(ca).2)))::(10,.Z (fPV M p))::(11,.Z (fPV m ca))::(12,.Z (fPN ((p).1-(ca).1,(p).2-(ca).2)))::(13,.Z (fQN (crs ca cb p)))::(14,.Z (uI ((crs ca cb p).num.sign)))::(15,.u (uB ((crs ca cb p).num.sign !=0)))::[]) s
  (oc (zH (f:=fPV m cb) 6 kA (hz:=zL _ _))<|oc (zH (f:=fPV m ca) 6 kA (hz:=zL _ _))<|oc (zI zC zGi (fun U u1 W hb (h0:(fPV m cb).p U W) (h1:(fPV m ca).p u1 W)=>zCj (m:=m) (p:=cb) (q:=ca) h0 h1 oA h6))<|oc (zH (f:=fPV M p) 6 kA (hz:=zL _ _))<|oc (zH (f:=fPV m ca) 6 kA (hz:=zL _ _))<|oc (zI zC zGi (fun U u1 W hb (h0:(fPV M p).p U W) (h1:(fPV m ca).p u1 W)=>zCj (m:=M) (p:=p) (q:=ca) h0 (zFK oA h1) oA oA))<|oc (zI zC zQZ (fun U u1 W hb (h0:(fPN ((cb).1-(ca).1,(cb).2-(ca).2)).p U W) (h1:(fPN ((p).1-(ca).1,(p).2-(ca).2)).p u1 W)=>zLO (m:=2*m+1) (M:=M+m+1) (p:=((cb).1-(ca).1,(cb).2-(ca).2)) (q:=((p).1-(ca).1,(p).2-(ca).2)) (zBz (p:=((cb).1-(ca).1,(cb).2-(ca).2)) (m:=(M+m+1)) ((zBm O J).1.mono (by first|omega|decide)) ((zBm O J).2.mono (by first|omega|decide)) h0) (zBz (p:=((p).1-(ca).1,(p).2-(ca).2)) (m:=(M+m+1)) ((zBn I J).1.mono (by first|omega|decide)) ((zBn I J).2.mono (by first|omega|decide)) h1) (zBm O J) (zBn I J) oA oA oA))<|oc (zG zC zUb (fun U W hb (h0:QNp (crs ca cb p) U W)=>zHm (m:=((2*m+1+(M+m+1))+(2*m+1+(M+m+1))+1)) (wL h0 (zWp J O I)) oA))<|oc (zM .i64 ((crs ca cb p).num.sign) 0 ((crs ca cb p).num.sign !=0) iiz iiz rfl rfl)<|zB) fun a w2 s=>StS.cond s ((crs ca cb p).num.sign !=0) iiz (fun e=>?_) (fun e=>?_)
 .refine lQ ?_
  replace s:=s.drop [6]
  exact rgE ((6,.u (uB false))::[]) s
   (oc zE<|zB) fun a w3 s=>pU<|wF s (t:=6) rfl (fun v W h=>by rw[zXe e];exact h)
 .refine pV ?_
  refine lQ ?_
  replace s:=s.drop [6]
  exact rgE ((16,.Z (fPV M p))::(17,.Z (fPV m ca))::(18,.Z (fPN ((p).1-(ca).1,(p).2-(ca).2)))::(19,.Z (fPV M p))::(20,.Z (fPV m cb))::(21,.Z (fPN ((p).1-(cb).1,(p).2-(cb).2)))::(22,.Z (fQN (zJZ ((p).1-(ca).1,(p).2-(ca).2) ((p).1-(cb).1,(p).2-(cb).2))))::(23,.Z (uI ((zJZ ((p).1-(ca).1,(p).2-(ca).2) ((p).1-(cb).1,(p).2-(cb).2)).num.sign)))::(24,.Z (uB (decide ((zJZ ((p).1-(ca).1,(p).2-(ca).2) ((p).1-(cb).1,(p).2-(cb).2)).num.sign<=0))))::(6,.u (uB (decide ((zJZ ((p).1-(ca).1,(p).2-(ca).2) ((p).1-(cb).1,(p).2-(cb).2)).num.sign<=0))))::[]) s
   (oc (zH (f:=fPV M p) 6 kA (hz:=zL _ _))<|oc (zH (f:=fPV m ca) 6 kA (hz:=zL _ _))<|oc (zI zC zGi (fun U u1 W hb (h0:(fPV M p).p U W) (h1:(fPV m ca).p u1 W)=>zCj (m:=M) (p:=p) (q:=ca) h0 (zFK oA h1) oA oA))<|oc (zH (f:=fPV M p) 6 kA (hz:=zL _ _))<|oc (zH (f:=fPV m cb) 6 kA (hz:=zL _ _))<|oc (zI zC zGi (fun U u1 W hb (h0:(fPV M p).p U W) (h1:(fPV m cb).p u1 W)=>zCj (m:=M) (p:=p) (q:=cb) h0 (zFK oA h1) oA oA))<|oc (zI zC zWh (fun U u1 W hb (h0:(fPN ((p).1-(ca).1,(p).2-(ca).2)).p U W) (h1:(fPN ((p).1-(cb).1,(p).2-(cb).2)).p u1 W)=>zTb (M:=M+m+1) (p:=((p).1-(ca).1,(p).2-(ca).2)) (q:=((p).1-(cb).1,(p).2-(cb).2)) (zBz (p:=((p).1-(ca).1,(p).2-(ca).2)) (m:=(M+m+1)) ((zBn I J).1.mono (by first|omega|decide)) ((zBn I J).2.mono (by first|omega|decide)) h0) (zBz (p:=((p).1-(cb).1,(p).2-(cb).2)) (m:=(M+m+1)) ((zBn I O).1.mono (by first|omega|decide)) ((zBn I O).2.mono (by first|omega|decide)) h1) (zBn I J) (zBn I O) oA))<|oc (zG zC zUb (fun U W hb (h0:QNp (zJZ ((p).1-(ca).1,(p).2-(ca).2) ((p).1-(cb).1,(p).2-(cb).2)) U W)=>zHm (m:=((M+m+1)+(M+m+1)+((M+m+1)+(M+m+1))+1)) (wL h0 (((zBn I J).1.mul (zBn I O).1).add ((zBn I J).2.mul (zBn I O).2))) oA))<|oc (zM .i64 ((zJZ ((p).1-(ca).1,(p).2-(ca).2) ((p).1-(cb).1,(p).2-(cb).2)).num.sign) 0 (decide ((zJZ ((p).1-(ca).1,(p).2-(ca).2) ((p).1-(cb).1,(p).2-(cb).2)).num.sign<=0)) iiz iiz rfl rfl)<|oc zE<|zB) fun a w4 s=>pU<|wF s (t:=6) rfl (fun v W h=>by rw[zXf e];exact h)
theorem zP9{u:WE}{L:List V2}{p:V2}(hl:(SF.row 6 (pns L)).p l W)(h1:(fPV m p).p u W)(O:∀x,x∈L->QB x.1 m/\QB x.2 m)(hm:m<=990)(ha:0<m)(hn:L.length<=1000000):Calls prog 117 #[l,u] W (Ret W (SF.row 6 (pns (zFL L p)))):=by
 refine z5 [(UF.eq l).tS,(fPV m p).tS] func117 rfl kA ⟨rfl,h1,trivial⟩ fun a s=>?_
 replace s:=s.renew [(0,.u (UF.eq l)),(1,.u (fPV m p))] (fmz ⟨.inr ⟨_,rfl,.head _⟩,fmz ⟨.inr ⟨_,rfl,mz1⟩,fnz⟩⟩)
 refine lQ<|rgK 0 [] s
  zB fun a w1 s=>yN (CU.agg (fPV m p)) rfl s kA (fun v W h=>yY h) fun b3 a w s=>yO (UF.eq (sN)) rfl s kA iiz fun a w s=>zD rfl<|rgQ ((5,.u (uI 0))::[]) s
  (oc zE<|zB) fun a w2 s=>lQ<|tQ<|zAg (fun k=>k<=L.length/\∀j,j<k->decide (jZ (at_ L j) p<0)=true) (fun k=> [(0,.u (UF.eq l)),(5,.u (uI ((k:Nat):Int)))]) (fun k=>L.length-k) (0:Nat) (⟨vR _,fun j hj=>absurd hj (rT _)⟩) (s.keepK _ (fmz ⟨mz2,fmz ⟨.head _,fnz⟩⟩)) fun k a w hx s=>lQ<|rgQ ((7,.Z (uI (k:Int)))::(8,.Z (UF.eq l))::(9,.Z (uI ((pns L).length:Int)))::(10,.Z (uB (ltz k ((pns L).length))))::(11,.Z (uB (ltz k ((pns L).length))))::(12,.s (SF.imp ((ltz k ((pns L).length))=true) ((UF.eq l).tS)))::(13,.s (SF.imp ((ltz k ((pns L).length))=true) ((uI (k:Int)).tS)))::(14,.s (SF.imp ((ltz k ((pns L).length))=true) (wD (cg (fPN (at_ L k))))))::(15,.s (SF.imp ((ltz k ((pns L).length))=true) ((fPN (at_ L k)).tS)))::(16,.s (SF.imp ((ltz k ((pns L).length))=true) ((fPV m p).tS)))::(17,.s (SF.imp ((ltz k ((pns L).length))=true) ((uI (jZ (at_ L k) p)).tS)))::(18,.s (SF.imp ((ltz k ((pns L).length))=true) ((uB (decide (jZ (at_ L k) p<0))).tS)))::(19,.u (uB ((ltz k ((pns L).length))&&(decide (jZ (at_ L k) p<0)))))::[]) s
  (oc zA<|oc zA<|oc (zY (z:=6) (Cs:=pns L) kA (fun v W hb h=>(zU hl h (s.up hb))) (fun _=>rfl))<|oc (zM .i64 (k:Int) ((pns L).length:Int) (ltz k ((pns L).length)) iiz iiz rfl rfl)<|oc zA<|oc (zF 11 (ltz k ((pns L).length)) kA iiz (fun e=>yU [] ((UF.eq l).tS) fnz fO kA zA) fN)<|oc (zF 11 (ltz k ((pns L).length)) kA iiz (fun e=>yU [] ((uI (k:Int)).tS) fnz fO kA zA) fN)<|oc (zF 11 (ltz k ((pns L).length)) kA iiz (fun e=>yU [(12,(UF.eq l).tS),(13,(uI (k:Int)).tS)] (wD (cg (fPN (at_ L k)))) (fmz ⟨fun v W h=>yE (c:=(ltz k ((pns L).length))=true) (f:=(UF.eq l).tS) e h,fmz ⟨fun v W h=>yE (c:=(ltz k ((pns L).length))=true) (f:=(uI (k:Int)).tS) e h,fnz⟩⟩) fO kA (zQ (z:=6) (Cs:=pns L) (i:=k) (C:=CU.agg (fPN (at_ L k))) kA (zBs (by have:=xW e;simp at this;omega)) (fun v W hb h=>(zU hl h (s.up hb))) iiz)) fN)<|oc (zF 11 (ltz k ((pns L).length)) kA iiz (fun e=>yU [(14,wD (cg (fPN (at_ L k))))] ((fPN (at_ L k)).tS) (fmz ⟨fun v W h=>yE (c:=(ltz k ((pns L).length))=true) (f:=wD (cg (fPN (at_ L k)))) e h,fnz⟩) fO kA (zH (f:=fPN (at_ L k)) 6 kA (hz:=zL _ _))) fN)<|oc (zF 11 (ltz k ((pns L).length)) kA iiz (fun e=>yU [] ((fPV m p).tS) fnz fO kA (zH (f:=fPV m p) 6 kA (hz:=zL _ _))) fN)<|oc (zF 11 (ltz k ((pns L).length)) kA iiz (fun e=>yU [(15,(fPN (at_ L k)).tS),(16,(fPV m p).tS)] ((uI (jZ (at_ L k) p)).tS) (fmz ⟨fun v W h=>yE (c:=(ltz k ((pns L).length))=true) (f:=(fPN (at_ L k)).tS) e h,fmz ⟨fun v W h=>yE (c:=(ltz k ((pns L).length))=true) (f:=(fPV m p).tS) e h,fnz⟩⟩) fO kA (zI zC zV2 (fun u0 u1 W hb (h0:(fPN (at_ L k)).p u0 W) (h1:(fPV m p).p u1 W)=>zNb (m:=m) (p:=at_ L k) (q:=p) (zBz (p:=at_ L k) (m:=m) (O _ (zA7 (l:=L) (i:=k) (by have:=xW e;simp at this;omega))).1 (O _ (zA7 (l:=L) (i:=k) (by have:=xW e;simp at this;omega))).2 h0) h1 hm ha))) fN)<|oc (zF 11 (ltz k ((pns L).length)) kA iiz (fun e=>yU [(17,(uI (jZ (at_ L k) p)).tS)] ((uB (decide (jZ (at_ L k) p<0))).tS) (fmz ⟨fun v W h=>yE (c:=(ltz k ((pns L).length))=true) (f:=(uI (jZ (at_ L k) p)).tS) e h,fnz⟩) fO kA (zM .i64 (jZ (at_ L k) p) 0 (decide (jZ (at_ L k) p<0)) iiz iiz rfl rfl)) fN)<|oc (yS (ltz k ((pns L).length)) iiz (fun e v W h=>zCE (yE e h) e) (fun e v W h=>zBZ h e))<|zB) fun a w3 s=>StS.cond s ((ltz k ((pns L).length))&&(decide (jZ (at_ L k) p<0))) iiz (fun e=>?_) (fun e=>?_)
 .rw[xV]at e
  have hk:k<L.length:=by have:=xW e.1;simp at this;omega
  have hB:=e.2
  refine pV<|tQ<|zW 2 ((20,.Z (uI (k:Int)))::(21,.u (uI ((k+1:Nat):Int)))::[]) s kA
   (oc zA<|oc (yI .i64 (k:Int) 1 ((k+1:Nat):Int) iiz iiz (wrap64 _ _ oA oA))<|zB) fun a w4 s=>?_
  replace s:=s.drop [5]
  exact yO (uI ((k+1:Nat):Int)) rfl s kA iiz fun a w s=>zD rfl<|⟨k+1,⟨hk,fun j hj=>by rcases tU (tZ hj)with h|h;exact hx.2 j h;rw[h];exact hB⟩,(by show L.length-(k+1)<L.length-k;omega),s.keepK _ (fmz ⟨mz3,fmz ⟨.head _,fnz⟩⟩)⟩
 .have hy:=hx.1
  have h5:zNu L p=k:=by
   rw[tY]at e
   rcases tU hy with h|h
   .exact zPp h hx.2 (by rcases e with e|e;exact absurd (show(k:Int)<((pns L).length:Int) by simp;omega) (nH e);exact e)
   .unfold zNu;rw[h];exact zMG (by rw[<-h];exact hx.2)
  clear e
  refine tR<|lQ<|rgQ ((22,.Z (uI (k:Int)))::(23,.Z (UF.eq l))::(24,.Z (uI ((pns L).length:Int)))::(25,.Z (uB (ltz k ((pns L).length))))::(26,.Z (uB (ltz k ((pns L).length))))::(27,.s (SF.imp ((ltz k ((pns L).length))=true) ((UF.eq l).tS)))::(28,.s (SF.imp ((ltz k ((pns L).length))=true) ((uI (k:Int)).tS)))::(29,.s (SF.imp ((ltz k ((pns L).length))=true) (wD (cg (fPN (at_ L k))))))::(30,.s (SF.imp ((ltz k ((pns L).length))=true) ((fPN (at_ L k)).tS)))::(31,.s (SF.imp ((ltz k ((pns L).length))=true) ((fPV m p).tS)))::(32,.s (SF.imp ((ltz k ((pns L).length))=true) ((uB (jZ (at_ L k) p==0)).tS)))::(33,.u (uB ((ltz k ((pns L).length))&&(jZ (at_ L k) p==0))))::[]) s
   (oc zA<|oc zA<|oc (zY (z:=6) (Cs:=pns L) kA (fun v W hb h=>(zU hl h (s.up hb))) (fun _=>rfl))<|oc (zM .i64 (k:Int) ((pns L).length:Int) (ltz k ((pns L).length)) iiz iiz rfl rfl)<|oc zA<|oc (zF 26 (ltz k ((pns L).length)) kA iiz (fun e=>yU [] ((UF.eq l).tS) fnz fO kA zA) fN)<|oc (zF 26 (ltz k ((pns L).length)) kA iiz (fun e=>yU [] ((uI (k:Int)).tS) fnz fO kA zA) fN)<|oc (zF 26 (ltz k ((pns L).length)) kA iiz (fun e=>yU [(27,(UF.eq l).tS),(28,(uI (k:Int)).tS)] (wD (cg (fPN (at_ L k)))) (fmz ⟨fun v W h=>yE (c:=(ltz k ((pns L).length))=true) (f:=(UF.eq l).tS) e h,fmz ⟨fun v W h=>yE (c:=(ltz k ((pns L).length))=true) (f:=(uI (k:Int)).tS) e h,fnz⟩⟩) fO kA (zQ (z:=6) (Cs:=pns L) (i:=k) (C:=CU.agg (fPN (at_ L k))) kA (zBs (by have:=xW e;simp at this;omega)) (fun v W hb h=>(zU hl h (s.up hb))) iiz)) fN)<|oc (zF 26 (ltz k ((pns L).length)) kA iiz (fun e=>yU [(29,wD (cg (fPN (at_ L k))))] ((fPN (at_ L k)).tS) (fmz ⟨fun v W h=>yE (c:=(ltz k ((pns L).length))=true) (f:=wD (cg (fPN (at_ L k)))) e h,fnz⟩) fO kA (zH (f:=fPN (at_ L k)) 6 kA (hz:=zL _ _))) fN)<|oc (zF 26 (ltz k ((pns L).length)) kA iiz (fun e=>yU [] ((fPV m p).tS) fnz fO kA (zH (f:=fPV m p) 6 kA (hz:=zL _ _))) fN)<|oc (zF 26 (ltz k ((pns L).length)) kA iiz (fun e=>yU [(30,(fPN (at_ L k)).tS),(31,(fPV m p).tS)] ((uB (jZ (at_ L k) p==0)).tS) (fmz ⟨fun v W h=>yE (c:=(ltz k ((pns L).length))=true) (f:=(fPN (at_ L k)).tS) e h,fmz ⟨fun v W h=>yE (c:=(ltz k ((pns L).length))=true) (f:=(fPV m p).tS) e h,fnz⟩⟩) fO kA (zI zC zUa (fun u0 u1 W hb (h0:(fPN (at_ L k)).p u0 W) (h1:(fPV m p).p u1 W)=>zHk (m:=m) (p:=at_ L k) (q:=p) (zBz (p:=at_ L k) (m:=m) (O _ (zA7 (l:=L) (i:=k) (by have:=xW e;simp at this;omega))).1 (O _ (zA7 (l:=L) (i:=k) (by have:=xW e;simp at this;omega))).2 h0) h1 hm ha))) fN)<|oc (yS (ltz k ((pns L).length)) iiz (fun e v W h=>zCE (yE e h) e) (fun e v W h=>zBZ h e))<|zB) fun a J s=>StS.cond s ((ltz k ((pns L).length))&&(jZ (at_ L k) p==0)) iiz (fun e=>?_) (fun e=>?_)
  .refine lQ ?_
   exact rgE ((34,.Z (UF.eq l))::(4,.u (UF.eq l))::[]) s
    (oc zA<|oc zE<|zB) fun a w6 s=>pU<|StS.resN s (xF _ _) (t:=4) rfl (by rw[s.val (.head _),zVl h5 e];exact(SF.row 6 _).st _ _ _ hl s.below)
  .refine pV ?_
   refine lQ ?_
   have hc:=s.below
   have h6:=(SF.row 6 _).st _ _ _ hl hc
   have hC:b3<J.heap.size:=s.old _ (.head _)
   replace s:StS _ _ _ [⟨3,30,CU.agg (fPV m p),b3,true⟩] _ _ _ _:=s.freeze
   replace s:=s.reb rfl [(33,.u (uB ((ltz k ((pns L).length))&&(jZ (at_ L k) p==0)))),(19,.u (uB ((ltz k ((pns L).length))&&(decide (jZ (at_ L k) p<0))))),(0,.u (UF.eq l)),(5,.u (uI (k:Int)))] (fmz ⟨.inl (.head _),fmz ⟨.inl mz1,fmz ⟨.inl mz2,fmz ⟨.inl mz3,fnz⟩⟩⟩⟩)
   refine rgL 5 ((35,.s (vC J 30))::(36,.Z (UF.eq l))::(37,.Z (uI (k:Int)))::(38,.s (SF.row 6 (pns (L.take k))))::(39,.s (wG J 30 6 (pns (L.take k))))::[]) s
    (oc (zIM (z:=6) kA)<|oc zA<|oc zA<|oc (zKV (z:=6) (k:=k) (Cs:=pns L) kA (by simp;omega) (fun v W hb h=>(zU h6 h (s.up hb))) iiz (fun v W h=>by rw[zQk]at h;exact h))<|oc (zNO (pns (L.take k)) kA iiz (fun v W hb h=>h) (zIE _) (by simp;omega))<|zB) fun a w7 s hr=>?_
   obtain⟨v39,e39⟩:∃v,a.tmps.getD 39 undef=v:=⟨_,rfl⟩
   have hh:zAk w7 J.heap.size 30 6 v39 (pns (L.take k)):=e39▸(hr (_,_) mz4)
   replace s:=s.learn 39 v39 e39
   refine zRt (UF.eq v39) rfl s kA iiz fun a s=>zD rfl<|lQ ?_
   have sb:=s;have so:∀q,q∈ [(⟨3,30,CU.agg (fPV m p),b3,true⟩:Bx)]->q.b<J.heap.size:=fun q hq=>by rcases xS.1 hq with rfl|hq;exact hC;cases hq
   have sg:J.heap.size<=J.heap.size:=vP _
   have hd:=s.below
   refine zJy (GW J) hmix s fun w8 h7 s=>?_
   have I:=hd.trans (h7.mono hd.size)
   have hz:=I.size
   refine zEy [5,6,7] [0,1,2,3,5,6,7] ((40,.u (UF.eq v39))::(41,.Z (fPV m p))::(42,.s (SF.row 6 [CU.agg (fPV m p)]))::(43,.s (SF.row 6 (pns [p])))::(45,.Z (UF.eq l))::(46,.Z (uI (k:Int)))::(47,.u (fRW J 6 (pns (L.drop k))))::[]) (zJU I) s kA
    (oc zA<|oc (zH (f:=fPV m p) 6 kA (hz:=zL _ _))<|oc (jX (fun u W (hu:(fPV m p).p u W)=>zGp hu))<|oc (zG zC zV9 (fun u0 W hb h0=>(zPW (m:=m) (ps:=[p]) h0 oA fC).mono (wH qY)))<|oc zA<|oc zA<|oc (zJK (W0:=J) (l0:=l) (z:=6) (k:=k) (Cs:=pns L) kA (by simp;omega) h6 iiz iiz (fun v W h=>by rw[zQl]at h;exact h))<|zB)
    (zBf rfl (zGc.c zF2 I) (zBf rfl (zGc.c zF2 I) (zBf rfl (zGc.c (zJW (x:=.tmp 45) (lo:=.tmp 46) (l0:=l) (z:=6) (k:=k) (Cs:=pns L) kA (by simp;omega) h6 iiz iiz) I) zEI))) fun a w9 U s hr=>?_
   replace I:=I.trans (U.mono I.size)
   have hN:=hh.below (h7.trans (U.mono h7.size))
   refine zHh (i:=4) (x:=.tmp 40) (y:=.tmp 43) (pns [p]) I s sg hN rfl (zCy rfl) kA kA kA (s.fct (.tmp 40)) (hr (_,_) mz3) (zIE _) (by simp;omega) so fun v44 a w10 I h4 s=>?_
   have hR44:=h4.row
   refine zHh (i:=8) (x:=.tmp 44) (y:=.tmp 47) (pns (L.drop k)) I s sg h4 rfl (zCy rfl) kA kA kA (s.fct (.tmp 44)) ((SF.row 6 _).st _ _ _ (s.sl (47,.u (fRW J 6 (pns (L.drop k)))) mz2) I) (zIE _) (by simp;omega) so fun h9 a hF I he s=>?_
   have hg:=he.row
   have hR:(SF.row 6 (pns (zFL L p))).p h9 hF:=by have:=hg;rw[zNv,<-zVm h5 e]at this;exact this
   replace s:=s.drop [4]
   exact zEy [] [9] ((4,.u (UF.eq h9))::[]) (zJU I) s kA (zK2 zE<|zB) zEI fun a w12 U s hr=>zHg kA<|pU<|StS.resN s hc (t:=4) rfl (by rw[s.val (.head _)];exact(SF.row 6 _).st _ _ _ hR U)
section
variable {f g f' g':UF}
end
section
variable {F:Fence}{m:Nat}{P:WH}{u w0:WB}{ops:Array Oper}{G:Nat->SF}{d:Tmp}{ty:WF}{pos:String}{aft:Array Edge}
variable {l:WE}{x y:WL}{t:WF}{z:Nat}{Cs:List CU}{i:Nat}{C:CU}
theorem zIN(hz:qS P t=some z)(hi:Cs[i]?=some C)(U:(SF.row z Cs).p l u)(O:∀v W,(fct G x).p v W->v=l)(hy:∀v W,(fct G y).p v W->v=.int .i64 (i:Int))(hd:∀v W,(fOp u C).p v W->(G d).p v W:=by exact fun _ _ h=>h):qO F m P w0 ops G ⟨some d,.indexAddr t x y,ty,pos,aft,none⟩:=
 qG (fun _ e=>by cases e) (fun _ e=>by cases e) fun b W hb I=>by
  have e1:=O _ _ (I x (by simp[Op.operands]))
  have e2:=hy _ _ (I y (by simp[Op.operands]))
  obtain⟨A,c,rfl,h2,h3,h4,h5⟩:=U
  obtain⟨b',o,cs,rfl,h6,J⟩:=h5 i C hi
  refine⟨.pointer (some ⟨b',o+i*z,none⟩),?_,hd _ _ ⟨b',o+i*z,cs,rfl,J,h6⟩⟩
  simp[execOp,e1,e2,zGr hz (bE.1 hi).1]
theorem zKX(I:bW u w0)(f:UF)(k:Nat)(U:zAf P t=some k)(hx:∀v W,(fct G x).p v W->(fOp u C).p v W)(h:∀cs W,C.p cs W->0+k<=cs.length/\f.p (.agg ((cs.drop 0).take k).toArray) W)(hd:∀v W,f.p v W->(G d).p v W:=by exact fun _ _ h=>h):qO F m P w0 ops G ⟨some d,.load t x,ty,pos,aft,none⟩:=
 qG (fun _ e=>by cases e) (fun _ e=>by cases e) fun b W hb O=>by
  have hb:=I.trans (hb.mono I.size)
  obtain⟨a,q,cs,e,h2,h3⟩:=hx _ _ (O x (by simp[Op.operands]))
  obtain⟨h4,J⟩:=h cs W (C.us _ _ _ h2 (zO hb))
  rw[nN]at J
  exact⟨_,by simp[execOp,Instr.loadAt,e,Instr.sureAddr,zAu U (h3.below hb) oA],hd _ _ J⟩
end
section
variable {S:Nat->Prop}{w0:WB}{K:List (Nat×KF)}{B:List Bx}{n:Nat}{ds:List Deferred}{a:Act}{w:WB}
theorem StS.own(h:St w0 K B n ds a w){c:Nat}{y:Bx}(J:zF0 B c=some y)(I:y.r=false):w0.heap.size<=y.b:=by
 obtain⟨O,_⟩:=zAq J
 obtain⟨_,_,h2,_⟩:=h.bx.mem y O
 rcases h2 with e|e|e
 .rw[I]at e;cases e
 .exact e
 .exact e.elim
theorem zRV{wb:WB}(h:bW wb w){b:Nat}(hb:wb.heap.size<=b)(vs:Array WE):Gr (GW wb) (w.setRow b vs):=zJU (zMc h hb)
end
theorem zMU(m:Nat)(W:WB):RVp m 0 (.agg #[.bool false, sN, sN]) W:=⟨iv false [],0,⟨_,_,_,rfl,⟨false,none,0,0, [],rfl,wM W,zB4,vR _,rfl⟩,⟨none,0,0, [],rfl,wM W,zB4,vR _,rfl⟩⟩,rZ _⟩
abbrev ptZ:List WE:=[.bool false, sN, sN,.bool false, sN, sN]
theorem zNq(m:Nat)(W:WB):(CU.agg (fPV m (0,0))).p ptZ W:=⟨false,none,0,0,none,0,0,false,none,0,0,none,0,0,rfl,zMU m W,zMU m W⟩
section
variable {f g f' g':UF}
end
theorem zUF{u:WE}{p q:V2}(h1:(fPV m p).p u W)(h2:(fPV m q).p v W)(hm:m<=2000)(I:0<m)(hT:Tab W):Calls prog 95 #[u,v] W (Ret W (fI (jZ p q)).tS):=by
 refine z5 [(fPV m p).tS,(fPV m q).tS] func95 rfl kA ⟨h1,h2,trivial⟩ fun a s=>lQ<|rgK 0 [] s
  zB fun a w1 s=>yN (CU.agg (fPV m p)) rfl s kA (fun v W h=>yY h) fun b2 a w s=>yN (CU.agg (fPV m q)) rfl s kA (fun v W h=>yY h) fun b3 a w s=>yO (uI 0) rfl s kA iiz fun a w s=>zD rfl<|lQ<|rgQ ((6,.X (fPV m p) 0)::(7,.Z (fRV m ((p).1)))::(8,.X (fPV m q) 0)::(9,.Z (fRV m ((q).1)))::(10,.Z (uI (qsg (p).1 (q).1)))::(5,.u (uI (qsg (p).1 (q).1)))::[]) s
  (oc (zN (C:=cg (fPV m p)) 0 kA)<|oc (zV (C:=cg (fPV m p)) (k:=0) 3 kA (h:=zFO))<|oc (zN (C:=cg (fPV m q)) 0 kA)<|oc (zV (C:=cg (fPV m q)) (k:=0) 3 kA (h:=zFO))<|oc (zI zC zR2 (fun J O W hb (U:RVp m ((p).1) J W) (h1:RVp m ((q).1) O W)=>zRC U h1 hm I (hT.below (s.up hb))))<|oc zE<|zB) fun a w2 s=>rgQ ((11,.Z (uI (qsg (p).1 (q).1)))::(12,.u (uB (qsg (p).1 (q).1 !=0)))::[]) s
  (oc zA<|oc (zM .i64 (qsg (p).1 (q).1) 0 (qsg (p).1 (q).1 !=0) iiz iiz rfl rfl)<|zB) fun a w3 s=>StS.cond s (qsg (p).1 (q).1 !=0) iiz (fun e=>?_) (fun e=>?_)
 .refine lQ ?_
  replace s:=s.drop [4]
  exact rgE ((13,.Z (uI (qsg (p).1 (q).1)))::(4,.u (uI (qsg (p).1 (q).1)))::[]) s
   (oc zA<|oc zE<|zB) fun a w4 s=>pU<|wF s (t:=4) rfl (fun v W h=>by rw[zSd e];exact h)
 .refine pV ?_
  refine lQ ?_
  replace s:=s.drop [4]
  exact rgE ((14,.X (fPV m p) 3)::(15,.Z (fRV m ((p).2)))::(16,.X (fPV m q) 3)::(17,.Z (fRV m ((q).2)))::(18,.Z (uI (qsg (p).2 (q).2)))::(4,.u (uI (qsg (p).2 (q).2)))::[]) s
   (oc (zN (C:=cg (fPV m p)) 3 kA)<|oc (zV (C:=cg (fPV m p)) (k:=3) 3 kA (h:=zFN))<|oc (zN (C:=cg (fPV m q)) 3 kA)<|oc (zV (C:=cg (fPV m q)) (k:=3) 3 kA (h:=zFN))<|oc (zI zC zR2 (fun J O W hb (U:RVp m ((p).2) J W) (h1:RVp m ((q).2) O W)=>zRC U h1 hm I (hT.below (s.up hb))))<|oc zE<|zB) fun a w5 s=>pU<|wF s (t:=4) rfl (fun v W h=>by rw[zSc e];exact h)
theorem zMr(hl:(SF.row 6 (pvs m ps)).p l W)(hm:m<=2000)(J:0<m)(hps:ps.length<=1000000)(hT:Tab W):Calls prog 64 #[l] W (Ret W (wG W 30 6 (pns ps))):=by
 refine z5 [(UF.eq l).tS] func64 rfl kA ⟨rfl,trivial⟩ fun a s=>?_
 replace s:=s.renew [(0,.u (UF.eq l))] (fmz ⟨.inr ⟨_,rfl,.head _⟩,fnz⟩)
 refine rgQ ((2,.u (UF.eq (sN)))::[]) s
  (oc zE<|zB) fun a w1 s=>lQ<|rgQ ((5,.u (UF.eq l))::(6,.u (uI ((pvs m ps).length:Int)))::(7,.u (uI 0))::[]) s
  (oc zA<|oc (zY (z:=6) (Cs:=pvs m ps) kA (fun v W hb h=>(zU hl h (s.up hb))) (fun _=>rfl))<|oc zA<|zB) fun a w2 s=>tQ ?_
 obtain⟨base,hbase⟩:∃b,b=w2.heap.size:=⟨_,rfl⟩
 have O:W.heap.size<=base:=by rw[hbase];exact s.gr.size
 have I:base<=w2.heap.size:=by rw[hbase];exact vP _
 refine zDE (fun(p:Nat×WE) w=>p.1<=ps.length/\base<=w.heap.size/\zAk w base 30 6 p.2 (pns (ps.take p.1))) (fun p=> [(5,.u (UF.eq l)),(6,.u (uI ((pvs m ps).length:Int))),(2,.u (UF.eq (p.2))),(7,.u (uI (p.1:Int)))]) (fun p=>ps.length-p.1) (0, sN) (⟨vR _,I,zAk.nil _ _ _ _⟩) (s.keepK _ (fmz ⟨.head _,fmz ⟨mz1,fmz ⟨mz3,fmz ⟨mz2,fnz⟩⟩⟩⟩)) fun p a w hI s=>?_
 have s0:=s
 have hd:=(SF.row 6 (pvs m ps)).st _ _ _ hl s0.below
 have hf:=hT
 have hT:=hf.below s0.below
 replace s:=s.reb rfl [(5,.u (UF.eq l)),(6,.u (uI ((pvs m ps).length:Int))),(2,.u (UF.eq (p.2))),(7,.u (uI (p.1:Int)))] (fmz ⟨.inl (.head _),fmz ⟨.inl mz1,fmz ⟨.inl mz2,fmz ⟨.inl mz3,fnz⟩⟩⟩⟩)
 refine rgQ ((8,.u (uB (ltz p.1 ((pvs m ps).length))))::[]) s
  (oc (zM .i64 (p.1:Int) ((pvs m ps).length:Int) (ltz p.1 ((pvs m ps).length)) iiz iiz rfl rfl)<|zB) fun a w3 s=>lQ<|StS.cond s (ltz p.1 ((pvs m ps).length)) iiz (fun e=>?_) (fun e=>?_)
 .have U:p.1<ps.length:=by have:=xW e;simp at this;omega
  refine pV<|lQ<|tQ<|lQ<|rgK 2 ((9,.Y (fPV m (at_ ps p.1)))::(10,.u (fPV m (at_ ps p.1)))::[]) s
   (oc (zQ (z:=6) (Cs:=pvs m ps) (i:=p.1) (C:=CU.agg (fPV m (at_ ps p.1))) kA (qI U) (fun v W hb h=>(zU hd h (s.up hb))) iiz)<|oc (zH (f:=fPV m (at_ ps p.1)) 6 kA (hz:=zL _ _))<|zB) fun a w4 s=>z9 (CU.len 6) (cs:=zP6) kA rfl s kA (fun W=>rfl) rfl fun b4 a w s=>zR (CU.agg (fPV m (at_ ps p.1))) ((fPV m (at_ ps p.1)).tS) rfl s kA rfl rfl rfl iiz iiz y7 fun a w s=>zD rfl<|zBy (K:=[(10,.u (fPV m (at_ ps p.1))),(8,.u (uB (ltz p.1 ((pvs m ps).length)))),(5,.u (UF.eq l)),(6,.u (uI ((pvs m ps).length:Int))),(7,.u (uI (p.1:Int)))]) [(2,.u (UF.eq (p.2)))] [0] 9 ((11,.u (UF.eq (p.2)))::(12,.X (fPV m (at_ ps p.1)) 0)::(13,.Z (fRV m ((at_ ps p.1).1)))::(14,.Z (fQN ((at_ ps p.1).1)))::(15,.X (fPV m (at_ ps p.1)) 3)::(16,.Z (fRV m ((at_ ps p.1).2)))::(17,.Z (fQN ((at_ ps p.1).2)))::(18,.Z (fPN ((at_ ps p.1).1,(at_ ps p.1).2)))::(19,.s (SF.row 6 [CU.agg (fPN ((at_ ps p.1).1,(at_ ps p.1).2))]))::[]) hmix (s.keepK _ (fmz ⟨mz4,fmz ⟨.head _,fmz ⟨mz1,fmz ⟨mz2,fmz ⟨mz3,fmz ⟨mz5,fnz⟩⟩⟩⟩⟩⟩)) kA
   (oc zA<|oc (zN (C:=cg (fPV m (at_ ps p.1))) 0 kA)<|oc (zV (C:=cg (fPV m (at_ ps p.1))) (k:=0) 3 kA (h:=zFO))<|oc (zG zC zVN (fun u0 W hb (h0:RVp m ((at_ ps p.1).1) u0 W)=>zM8 (m:=m) h0 hm J (hT.below (s.up hb))))<|oc (zN (C:=cg (fPV m (at_ ps p.1))) 3 kA)<|oc (zV (C:=cg (fPV m (at_ ps p.1))) (k:=3) 3 kA (h:=zFN))<|oc (zG zC zVN (fun u0 W hb (h0:RVp m ((at_ ps p.1).2) u0 W)=>zM8 (m:=m) h0 hm J (hT.below (s.up hb))))<|oc (jF (fun u v W (hu:QNp ((at_ ps p.1).1) u W) (hv:QNp ((at_ ps p.1).2) v W)=>zUj (zBa _) (zBa _) hu hv))<|oc (jX (fun u W (hu:(fPN ((at_ ps p.1).1,(at_ ps p.1).2)).p u W)=>zGp hu))<|zB) fun Q' hQ a w5 s hr=>zLF ([CU.agg (fPN ((at_ ps p.1).1,(at_ ps p.1).2))]) s0 (s.keepK [(11,.u (UF.eq (p.2))),(10,.u (fPV m (at_ ps p.1))),(8,.u (uB (ltz p.1 ((pvs m ps).length)))),(5,.u (UF.eq l)),(6,.u (uI ((pvs m ps).length:Int))),(7,.u (uI (p.1:Int)))] (fmz ⟨.head _,fmz ⟨mz1,fmz ⟨mz2,fmz ⟨mz3,fmz ⟨mz4,fmz ⟨mz5,fnz⟩⟩⟩⟩⟩⟩)) O hI.2 rfl kA kA kA (s.fct (.tmp 11)) (hr (_,_) mz8) (zKT _ _) (by simp;omega) (fun q hq hr=>by rcases xS.1 hq with rfl|hq;cases hr;cases hq) fun v' a w h1 s=>?_
  have s1:=s
  replace s:StS _ _ _ [⟨4,30,CU.agg (fPV m (at_ ps p.1)),b4,true⟩] _ _ _ _:=s.freeze
  replace s:=s.reb rfl [(20,.u (UF.eq v')),(11,.u (UF.eq (p.2))),(10,.u (fPV m (at_ ps p.1))),(8,.u (uB (ltz p.1 ((pvs m ps).length)))),(5,.u (UF.eq l)),(6,.u (uI ((pvs m ps).length:Int))),(7,.u (uI (p.1:Int)))] (fmz ⟨.inl (.head _),fmz ⟨.inl mz1,fmz ⟨.inl mz2,fmz ⟨.inl mz3,fmz ⟨.inl mz4,fmz ⟨.inl mz5,fmz ⟨.inl mz6,fnz⟩⟩⟩⟩⟩⟩⟩)
  refine yO (UF.eq v') rfl s kA iiz fun a w s=>zD rfl (hQ _ _ ?_)
  refine zW 1 ((21,.u (uI ((p.1+1:Nat):Int)))::[]) s kA
   (oc (yI .i64 (p.1:Int) 1 ((p.1+1:Nat):Int) iiz iiz (wrap64 _ _ oA oA))<|zB) fun a w6 s=>?_
  replace s:=s.drop [7]
  refine zBF (uI ((p.1+1:Nat):Int)) rfl s kA zA kA fun a w s=>zD rfl ?_
  replace s:=s.popB
  have h4:=s.below
  replace s:=s1.back (s.keepK [(7,.u (uI ((p.1+1:Nat):Int))),(21,.u (uI ((p.1+1:Nat):Int))),(2,.u (UF.eq v')),(20,.u (UF.eq v')),(11,.u (UF.eq (p.2))),(10,.u (fPV m (at_ ps p.1))),(8,.u (uB (ltz p.1 ((pvs m ps).length)))),(5,.u (UF.eq l)),(6,.u (uI ((pvs m ps).length:Int)))] (fmz ⟨.head _,fmz ⟨mz1,fmz ⟨mz2,fmz ⟨mz3,fmz ⟨mz4,fmz ⟨mz5,fmz ⟨mz6,fmz ⟨mz7,fmz ⟨mz8,fnz⟩⟩⟩⟩⟩⟩⟩⟩⟩)) rfl
  exact⟨(p.1+1,v'),(by show ps.length-(p.1+1)<ps.length-p.1;omega),⟨U,xQ h1.1 h4.size,by rw[zKP U];exact h1.2.below h4⟩,s.keepK _ (fmz ⟨mz7,fmz ⟨mz8,fmz ⟨mz2,fmz ⟨.head _,fnz⟩⟩⟩⟩)⟩
 .have U:p.1=ps.length:=by have h7:=nH e;have h8:=hI.1;simp at h7;omega
  refine tR<|lQ<|zW 1 ((22,.u (UF.eq (p.2)))::[]) s kA
   (oc zA<|zB) fun a w7 s=>?_
  replace s:=s.drop [2]
  exact yO (UF.eq (p.2)) rfl s kA iiz fun a w s=>zD rfl<|pU<|StS.resN s s0.below rfl (by rw[s.val (.head _)];have:=(hI.2.2.below s.below).mono O;rw[U,rU]at this;exact this)
section
variable {F:Fence}{m:Nat}{P:WH}{w0:WB}{ops:Array Oper}{G:Nat->SF}{d:Tmp}{ty:WF}{pos:String}{aft:Array Edge}
end
section
variable {f g f' g':UF}{m:Nat}{q:Rat}
end
section
variable {S:Nat->Prop}{w0:WB}{K:List (Nat×KF)}{B:List Bx}{n:Nat}{ds:List Deferred}{a:Act}{w:WB}
theorem StS.move(h:StS S w0 K B n [] a w)(S':Nat->Prop)(O:∀q,inB B q->S' q)(I:(K.all fun q=>zJg q.2)=true):StS S' w K B n [] a w:=by
 have I:=yX I
 refine⟨BlS.refl _ _,h.size,h.nd,fun q J=>?_,wR (a:=a) B (fun x U=>?_) (fun _ _=>rfl) h.bx,⟨[],Marks.nil _ _⟩,.inl I⟩
 .obtain⟨f,e⟩:=I q J
  have:=h.sl q J
  rw[e]at this ⊢
  exact this
 .cases hr:x.r with
  |true=>exact .inl rfl
  |false=>exact .inr (.inr (O _ ⟨x,U,rfl,hr⟩))
end
section
variable {F:Fence}{m:Nat}{P:WH}{w0:WB}{ops:Array Oper}{G:Nat->SF}{d:Tmp}{ty:WF}{pos:String}{aft:Array Edge}
theorem zVs(I:qS P t=some z)(hk:k<=c)(hx:∀v W,(fct G x).p v W->v=.slice A n c)(U:∀v W,(fct G hi).p v W->v=.int .i64 (k:Int))(hd:∀W,(G d).p (.slice A k c) W:=by exact fun _=>rfl):qO F m P w0 ops G ⟨some d,.slice t x none (some hi) none,ty,pos,aft,none⟩:=
 qG (fun _ e=>by cases e) (fun _ e=>by cases e) fun b W hb O=>by
  have e:=hx _ _ (O x (by simp[Op.operands]))
  have e2:=U _ _ (O hi (by simp[Op.operands]))
  unfold qS at I
  split at I<;>try cases I
  rename_i e' hu
  obtain⟨ie,J,_⟩:=lZ.1 I
  exact⟨.slice A k c,by simp[execOp,e,e2,zIq hu J A n c k hk],hd _⟩
end
section
variable {S:Nat->Prop}{F:Fence}{m:Nat}{P:WH}{Q:Exit->Act->WB->Prop}{w0:WB}{K:List (Nat×KF)}{B:List Bx}{n:Nat}{ds:List Deferred}{a:Act}{w:WB}
end
section
variable {S:Nat->Prop}{w0:WB}{K:List (Nat×KF)}{B:List Bx}{n:Nat}{a:Act}{w:WB}{P:WH}{Q:Exit->Act->WB->Prop}
end
theorem zGt{C O:Nat->Prop}{w w1:WB}(hb:bW w0 w)(I:RndO N C O w w1)(U:w0.heap.size<=N)(hC:∀k,C k->w0.heap.size<=k):bW w0 w1:=
 ⟨I.os.trans hb.os,I.tape.trans hb.tape,I.output.trans hb.output,xQ hb.size I.size,fun k J=>(I.low k (vU J U) (fun h=>by have:=hC k h;omega)).trans (hb.block k J)⟩
theorem zVM(f:WL->WE)(x:WL):(Array.map f #[x]).getD 0 undef=f x:=by simp
section
variable {f g f' g' f'' g'':UF}
end
section
variable {F:Fence}{m:Nat}{P:WH}{w0:WB}{ops:Array Oper}{G:Nat->SF}{d:Tmp}{ty:WF}{pos:String}{aft:Array Edge}
end
end Go.Proofs.Wd
