/- Natural numbers as values; the walks of gcd's Reduce, Lcm, Coprime; Th and what it needs. -/
import Derived.Test.YtihcepanbejfpaaGreatDoorMEW18
import Derived.Test.YtihcepanbejfpaaGreatDoorMEW19
theorem dA{P:Prop}(h:P:=by decide):P:=h
theorem fN{c:Prop}{α:Sort _}{R:α->Prop}(e:¬c)(w:α)(h:c):R w:=absurd h e
theorem fO{β γ:Sort _}{p q:β->γ->Prop}(b:β)(c:γ)(h:p b c)(_:q b c):p b c:=h
abbrev tT:=@Go.wpIn_block
abbrev tU:=@Go.wpIn_exit
abbrev tV:=@List.mem_singleton
abbrev tW:=@List.mem_of_find?_eq_some
abbrev tX:=@Nat.lt_or_eq_of_le
abbrev tY:=@Rat.num_eq_zero
abbrev tZ:=@decide_eq_true_iff
abbrev zCT:=@List.find?_eq_none
abbrev zGJ:=@Nat.le_of_lt_succ
abbrev zZW:=@Rat.one_mul
abbrev zZX:=@Bool.and_eq_false_iff
abbrev zZY:=@List.toList_toArray
namespace Go.Proofs.Wd
open Tryz
variable {W w w':WB}{B a b b' d m m' n n' x:Nat}{f u v v':WE}{cs cs':List WE}{k:Int}{p q q':Rat}{A:WG Addr}{qs:List Rat}{op:Rat->Rat->Rat}
set_option maxHeartbeats 2000000
open Go.RowKit Lb
theorem zX8(h:LV W m v a)(O:LV W m v' b)(hm:m<=2000)(U:Tab W):Calls prog 149 #[v,v'] W (zPO W (Nat.gcd a b)):=by
 obtain⟨A,n,c,l,rfl,h1,h2,h3,rfl⟩:=h
 obtain⟨A',n',c',l',rfl,I,J,h3',rfl⟩:=O
 exact(zUF A n c l A' n' c' l' W h1 I h2 J oA oA U).mono fun _ _=>jH.v
theorem zSH(I:a<BB^m)(hb:b<BB^m):Nat.gcd a b<BB^m:=by
 rcases uJ a with rfl|h
 .rwa [Nat.gcd_zero_left]
 .exact mW (nB b h) I
theorem zPz{vg:WE}{g:Nat}(h:LV W m v a)(hg:LV W m vg g)(hm:m<=2000)(hg0:0<g)(hc:W.cell? ⟨B,0,none⟩=some vg):
  Calls prog 159 #[v,pO B 0] W (zPO W (a/g)):=by
 obtain⟨A,n,c,l,rfl,h1,h2,h3,h4⟩:=h
 obtain⟨A',n',c',l',rfl,h1',h2',h3',h4'⟩:=hg
 have hd:=zLm a g hg0 A n c l A' n' c' l' W h1 h2 h1' h2' h4 h4' oA oA
 have H4:=hid h4;have H4':=hid h4'
 clear h4 h4'
 go_enter func159,ntmps159
 go_wp2_with fail
 refine hd.mono ?_
 rintro e w4 ⟨A4,n4,c4,l4,A5,n5,c5,l5,rfl,hi4,hr4,hi5,hr5,hb5⟩
 go_wp2_with fail
 go_ret
 exact⟨_,rfl,⟨A4,n4,c4,l4,rfl,hi4,hr4⟩,hb5⟩
theorem zXh(A:WG Addr)(n c:Nat)(w:WB):
  Calls prog 150 #[.slice A n c] w fun e w'=>e=.returned (.func (.func 159) #[] #[pO w.heap.size 0])/\w'=w.alloc (.cells #[.slice A n c] 24):=by
 go_enter func150,ntmps150
 go_wp2
 go_ret
 exact⟨rfl,rfl⟩
theorem zQB(h:LV W m v a)(h':LV W m v' b)(hm:m<=2000)(hT:Tab W):Calls prog 135 #[v,v'] W (zY1 W (a/Nat.gcd a b) (b/Nat.gcd a b)):=by
 have hgc:=zX8 h h' hm hT
 have hgl:=zSH h.bound h'.bound
 have hen:∀args w,(callFunc 159 args).run prog w=.ok (.enter 159 args) w:=enters_of func159 kA rfl
 obtain⟨g,hg⟩:∃g,Nat.gcd a b=g:=⟨_,rfl⟩
 rw[hg]at hgc hgl ⊢
 rcases uJ g with h0|h0
 .have HZ:=hid h0
  go_enter func135,ntmps135
  go_wp2_with fail
  refine hgc.mono ?_
  rintro e w4 ⟨v4,rfl,⟨A4,n4,c4,l4,rfl,hi4,hr4⟩,hb4⟩
  obtain rfl:n4=0:=by rw[<-hr4.len];exact hi4.zero_iff.1 HZ.out
  go_wp2_with fail
  go_ret2
  exact⟨_,_,rfl,⟨none,0,0, [],rfl,by rw[HZ.out,Nat.div_zero];exact Is.nil,wM _⟩,⟨none,0,0, [],rfl,by rw[HZ.out,Nat.div_zero];exact Is.nil,wM _⟩,hb4⟩
 .clear hg
  go_enter func135,ntmps135
  go_wp2_with fail
  refine hgc.mono ?_
  rintro e w4 ⟨v4,rfl,⟨A4,n4,c4,l4,rfl,hi4,hr4⟩,hb4⟩
  have hn4:0<n4:=by rw[<-hr4.len];exact hi4.pos_iff.1 h0
  have hb5:=hb4.trans ((xG _ w4).alloc (vQ _) (.cells #[.slice A4 n4 c4] 24)|>.mono hb4.size)
  have x5:=cJ w4 24 (.slice A4 n4 c4)
  obtain⟨W5,hW5⟩:∃W5,w4.alloc (.cells #[.slice A4 n4 c4] 24)=W5:=⟨_,rfl⟩
  rw[hW5]at hb5 x5
  have hg5:LV W5 m (.slice A4 n4 c4) g:=by rw[<-hW5];exact(qN.lv ⟨A4,n4,c4,l4,rfl,hi4,hr4⟩ hgl).below ((xG _ w4).alloc (vQ _) _)
  have hby:=zXh A4 n4 c4 w4
  rw[hW5]at hby
  clear hW5
  go_wp2_with fail
  refine hby.mono ?_
  rintro e w6 ⟨rfl,rfl⟩
  go_wp2_with fail
  refine(zPz (h.below hb5) hg5 hm h0 x5.cell).mono ?_
  rintro e w7 ⟨v7,rfl,hv7,hb7⟩
  go_wp2_with fail
  refine(zPz ((h'.below hb5).below hb7) (hg5.below hb7) hm h0 ((hb7.cell (p:=⟨w4.heap.size,0,none⟩) (z7 x5.cell)).trans x5.cell)).mono ?_
  rintro e w8 ⟨v8,rfl,hv8,hb8⟩
  go_wp2_with fail
  go_ret2
  have t1:=hb5.trans (hb7.mono hb5.size)
  exact⟨_,_,rfl,hv7.below hb8,hv8,t1.trans (hb8.mono t1.size)⟩
theorem zRP(I:Nat):bW W (W.drewN I):=⟨(xG W.heap.size W).os,(xG W.heap.size W).tape,(xG W.heap.size W).output,(xG W.heap.size W).size,(xG W.heap.size W).block⟩
set_option maxRecDepth 100000
theorem zR5(h:LV W m v x)(hm:m<=100000):Calls prog 124 #[v] W (zPO W x):=by
 obtain⟨A,n,c,l,rfl,I,h2,h3,rfl⟩:=h
 exact(qX A n c l W I h2 oA).mono fun _ _=>jH.v
theorem Tab.bls{te:WF}(J:Tab W)(hb:W.heap[b]?=some (.cells cs.toArray te (0,0)))(h0:∃s,cs[0]?=some (.bool s))(U:BlS (fun k=>k=b) W w):Tab w:=fun j hj=>by
 have O:=J j hj
 have I:(0:Nat)≠b:=fun e=>by
  have h2:=J 0 dA
  obtain⟨s,hs⟩:=h0
  unfold World.cell? at h2
  rw[show((⟨0,0,none⟩:Addr).block)=b from e,hb]at h2
  simp[hs]at h2
 exact(bQ (a:=⟨0,j,none⟩) (U.block _ (z7 O) I)).trans O
theorem zJ5(h:QVp m k d (.agg cs.toArray) W):∃s,cs[0]?=some (.bool s):=by
 obtain⟨u,I,s,rfl⟩:=zVW cs W h
 exact⟨s,I⟩
theorem zCx(h:QVp m k d (.agg cs.toArray) W):cs.all zY=true:=by
 have:=(zF5 (v:=.agg cs.toArray) h).2
 simpa[Value.cells]using this
theorem zHj(h:qN W v x):Calls prog 105 #[v] W (Ret W (fNV (x:Int)).tS):=by
 exact zZ [(qZ x).tS] func105 rfl kA ⟨h,trivial⟩ fun a s=>lP<|rgK 0 [] s
  zB fun a w1 s=>zX (CU.len 2) (cs:=[.bool false, sN]) kA rfl s kA (fun W=>rfl) rfl fun b2 a w s=>zD rfl<|lP<|rgK 2 ((3,.Z (qZ x))::(4,.u (fNV (x:Int)))::[]) s
  (oc zA<|oc (zGg (fun u W (I:qN W u x)=>zPA I))<|zB) fun a w2 s=>zM (fNV (x:Int)) rfl s zHX fun a w s=>zD rfl<|pS<|wK s (CU.agg (fNV (x:Int))) rfl kA rfl rfl (zSx _) (fun cs W h=>h)
theorem zQz(z:Int)(hz: -9223372036854775808<=z/\z<=9223372036854775807):Calls prog 51 #[.int .i64 z] W (Ret W (fQN (z:Rat)).tS):=by
 exact zZ [(fI z).tS] func51 rfl kA ⟨rfl,trivial⟩ fun a s=>lP<|rgK 0 [] s
  zB fun a w1 s=>zX (CU.len 3) (cs:=zR3) kA rfl s kA (fun W=>rfl) rfl fun b2 a w s=>zD rfl<|lP<|rgK 4 ((3,.Z (uI z))::(4,.Z (fNV z))::(5,.Z (qZ 1))::(6,.u (fQN (z:Rat)))::[]) s
  (oc zA<|oc (zG zC zYr (fun O W hb (J:O=.int .i64 z)=>by subst J;exact zZx z hz))<|oc (jV (fun u W (I:u=.int .u32 1)=>zSd I))<|oc (q8 (fun u v W (I:NV W u z) (hv:qN W v 1)=>zJJ (q:=(z:Rat)) I hv))<|zB) fun a w2 s=>zM (fQN (z:Rat)) rfl s zW fun a w s=>zD rfl<|pS<|wK s (CU.agg (fQN (z:Rat))) rfl kA rfl rfl (yW _) (fun cs W h=>h)
theorem zTJ(hh:W.heap[b]?=some (.cells cs.toArray 98 (0,0)))(U:QVp m k d (.agg cs.toArray) W)(hm:m<=2000)(hd:d=0):Calls prog 107 #[pO b 0] W (zPN W b 98 (CU.agg (fQN ((0:Int):Rat))) (uB false).tS):=by
 have hz:true=decide (d=0):=(lH hd).symm
 refine zHA b [(0,UF.eq (pO b 0))] [⟨0,98,CU.agg (fQV m k d),b,false⟩] func107 rfl kA (fun q hq=>by simp at hq;subst hq;exact⟨fG,rfl⟩) ⟨⟨cs,rfl,.inr (.inr rfl),hh,U,zCx U,fun y hy=>by cases hy⟩,trivial⟩ (fun x O=>by simp at O;subst O;simp) fun a s=>rgQ ((2,.u (uB false))::[]) s
  (oc zF<|zB) fun a w1 s=>lP<|rgQ ((3,.s (wL b (cg (fQV m k d))))::(4,.Y (fQV m k d))::(5,.X (fQV m k d) 0)::(6,.X (fQV m k d) 2)::(7,.Z (fLV m d))::(8,.Z (qZ d))::(9,.s (zSL d))::(10,.u (uB true))::[]) s
  (oc zA<|oc (zAv (C:=cg (fQV m k d)))<|oc (zL (C:=cg (fQV m k d)) 0 kA)<|oc (qK (C:=cg (fQV m k d)) 0 2 kA)<|oc (jP (C:=cg (fQV m k d)) (k:=2) kA (h:=zI5))<|oc (zG zC zSO (fun I W hb (J:LV W m I d)=>zR5 J oA))<|oc (zEX kA iiz)<|oc (zEY hz)<|zB) fun a w2 s=>StS.cond s true iiz (fun e=>?_) fS
 refine lP<|rgK 4 ((11,.Z (UF.eq (pO b 0)))::(12,.u (fQN ((0:Int):Rat)))::(13,.Z (UF.eq (pO b 0)))::(14,.u (UF.eq (pO b 0)))::[]) s
  (oc (zA (fun _ _ _ h=>h.1))<|oc (zG zC zUN (fun I W hb (J:I=.int .i64 0)=>by subst J;exact zQz 0 dA))<|oc (zCK (a:=⟨b,0,none⟩) iiz)<|oc (zAj (b:=b) (o:=0) 0 kA iiz)<|zB) fun a w3 s=>j9 (c:=0) (o:=0) (kk:=3) (CU.agg (fQN ((0:Int):Rat))) ((fQN ((0:Int):Rat)).tS) rfl s kA rfl rfl iiz iiz zQe fun a w s=>zD rfl<|lP ?_
 replace s:=s.drop [2]
 exact rgE ((2,.u (uB false))::[]) s
  (oc zF<|zB) fun a w4 s=>pS<|vH s (c:=0) (C:=CU.agg (fQN ((0:Int):Rat))) rfl rfl rfl rfl iiz
theorem zTK(hh:W.heap[b]?=some (.cells cs.toArray 98 (0,0)))(hc:QVp m k d (.agg cs.toArray) W)(hm:m<=2000)(J:0<d)(hT:Tab W):Calls prog 107 #[pO b 0] W (zPN W b 98 (CU.agg (fQN (mkRat k d))) (uB true).tS):=by
 have hz:false=decide (d=0):=(xZ oA).symm
 have bk:k.natAbs<BB^m:=by obtain⟨_,_,_,_,O,_⟩:=hc;exact O.bound
 have h5:∀W I u1,Tab W->LV W m I k.natAbs->LV W m u1 d->Calls prog 135 #[I,u1] W (Ret W (wZ (qZ (k.natAbs/Nat.gcd k.natAbs d)).tS (qZ (d/Nat.gcd k.natAbs d)).tS)):=fun W I u1 hT U O=>(zQB U O hm hT).mono fun e w' ⟨v,v',e1,O,h2,hb⟩=>⟨_,e1,⟨v,v',rfl,O,h2⟩,hb⟩
 refine zHA b [(0,UF.eq (pO b 0))] [⟨0,98,CU.agg (fQV m k d),b,false⟩] func107 rfl kA (fun q hq=>by simp at hq;subst hq;exact⟨fG,rfl⟩) ⟨⟨cs,rfl,.inr (.inr rfl),hh,hc,zCx hc,fun y hy=>by cases hy⟩,trivial⟩ (fun x hx=>by simp at hx;subst hx;simp) fun a s=>rgQ ((2,.u (uB false))::[]) s
  (oc zF<|zB) fun a w1 s=>lP<|rgQ ((3,.s (wL b (cg (fQV m k d))))::(4,.Y (fQV m k d))::(5,.X (fQV m k d) 0)::(6,.X (fQV m k d) 2)::(7,.Z (fLV m d))::(8,.Z (qZ d))::(9,.s (zSL d))::(10,.u (uB false))::[]) s
  (oc zA<|oc (zAv (C:=cg (fQV m k d)))<|oc (zL (C:=cg (fQV m k d)) 0 kA)<|oc (qK (C:=cg (fQV m k d)) 0 2 kA)<|oc (jP (C:=cg (fQV m k d)) (k:=2) kA (h:=zI5))<|oc (zG zC zSO (fun I W hb (U:LV W m I d)=>zR5 U oA))<|oc (zEX kA iiz)<|oc (zEY hz)<|zB) fun a w2 s=>StS.cond s false iiz fS (fun e=>?_)
 refine pT<|lP<|rgK 10 ((15,.Z (UF.eq (pO b 0)))::(16,.s (wL b (cg (fQV m k d))))::(17,.Y (fQV m k d))::(18,.X (fQV m k d) 0)::(19,.X (fQV m k d) 0)::(20,.Z (fUV m k))::(21,.u (fNV k))::(22,.Z (UF.eq (pO b 0)))::(23,.Z (UF.eq (pO b 0)))::(24,.u (UF.eq (pO b 0)))::[]) s
  (oc (zA (fun _ _ _ h=>h.1))<|oc zA<|oc (zAv (C:=cg (fQV m k d)))<|oc (zL (C:=cg (fQV m k d)) 0 kA)<|oc (qK (C:=cg (fQV m k d)) 0 0 kA)<|oc (zQ (C:=cg (fQV m k d)) (k:=0) 2 kA (h:=zNX))<|oc (zG zC zWY (fun I W hb (U:UV W m I k)=>zWg U oA))<|oc (zCK (a:=⟨b,0,none⟩) iiz)<|oc (zAj (b:=b) (o:=0) 0 kA iiz)<|oc (zAj (b:=b) (o:=0) 0 kA iiz)<|zB) fun a w3 s=>j9 (c:=0) (o:=0) (kk:=2) (CU.agg (fQM m k d)) ((fNV k).tS) rfl s kA rfl rfl iiz iiz zTx fun a w s=>zD rfl<|lP<|yJ [0,1,2,8] 15 ((26,.u (UF.eq (pO b 0)))::(27,.u (UF.eq (pO b 0)))::(28,.s (wL b (cg (fQM m k d))))::(29,.Y (fQM m k d))::(30,.X (fQM m k d) 0)::(31,.X (fQM m k d) 0)::(32,.X (fQM m k d) 1)::(33,.Z (qZ (k.natAbs)))::(34,.s (wL b (cg (fQM m k d))))::(35,.Y (fQM m k d))::(36,.X (fQM m k d) 0)::(37,.X (fQM m k d) 2)::(38,.Z (fLV m d))::(39,.Z (zBH (qZ (k.natAbs/Nat.gcd k.natAbs d)) (qZ (d/Nat.gcd k.natAbs d))))::(25,.u (zBH (qZ (k.natAbs/Nat.gcd k.natAbs d)) (qZ (d/Nat.gcd k.natAbs d))))::[]) hmix s kA
  (oc (zA (fun _ _ _ h=>h.1))<|oc (zA (fun _ _ _ h=>h.1))<|oc zA<|oc (zAv (C:=cg (fQM m k d)))<|oc (zL (C:=cg (fQM m k d)) 0 kA)<|oc (qK (C:=cg (fQM m k d)) 0 0 kA)<|oc (qK (C:=cg (fQM m k d)) 0 1 kA)<|oc (jP (C:=cg (fQM m k d)) (k:=1) kA (h:=zV0))<|oc zA<|oc (zAv (C:=cg (fQM m k d)))<|oc (zL (C:=cg (fQM m k d)) 0 kA)<|oc (qK (C:=cg (fQM m k d)) 0 2 kA)<|oc (jP (C:=cg (fQM m k d)) (k:=2) kA (h:=zVZ))<|oc (zH zC zWX (fun I u1 W hb (U:qN W I (k.natAbs)) (O:LV W m u1 d)=>h5 W I u1 (hT.bls hh (zJ5 hc) (s.gr.trans hb)) (qN.lv U bk) O))<|oc zA<|zB) fun Q' hQ a w4 s=>zBJ (qZ (k.natAbs/Nat.gcd k.natAbs d)) rfl s kA (zBX (A:=(qZ (k.natAbs/Nat.gcd k.natAbs d)).tS) (B:=(qZ (d/Nat.gcd k.natAbs d)).tS) iiz) kA fun a w s=>zBJ (qZ (d/Nat.gcd k.natAbs d)) rfl s kA (zBW (A:=(qZ (k.natAbs/Nat.gcd k.natAbs d)).tS) (B:=(qZ (d/Nat.gcd k.natAbs d)).tS) iiz) kA fun a w s=>zBJ (UF.eq (pO b 0)) rfl s kA (zCK (a:=⟨b,0,none⟩) iiz) kA fun a w s=>zBJ (UF.eq (pO b 0)) rfl s kA (zAj (b:=b) (o:=0) 0 kA iiz) kA fun a w s=>zBJ (UF.eq (pO b 0)) rfl s kA (zAj (b:=b) (o:=0) 0 kA iiz) kA fun a w s=>zBJ (UF.eq (pO b 1)) rfl s kA (zAj (b:=b) (o:=0) 1 kA iiz) kA fun a w s=>j9 (c:=0) (o:=1) (kk:=1) (CU.agg (fQA m (decide (k<0)) (k.natAbs/Nat.gcd k.natAbs d) d)) ((qZ (k.natAbs/Nat.gcd k.natAbs d)).tS) rfl s kA rfl rfl iiz iiz zVB fun a w s=>zBJ (UF.eq (pO b 0)) rfl s kA (zCK (a:=⟨b,0,none⟩) iiz) kA fun a w s=>zBJ (UF.eq (pO b 0)) rfl s kA (zAj (b:=b) (o:=0) 0 kA iiz) kA fun a w s=>zBJ (UF.eq (pO b 2)) rfl s kA (zAj (b:=b) (o:=0) 2 kA iiz) kA fun a w s=>j9 (c:=0) (o:=2) (kk:=1) (CU.agg (fQN (mkRat k d))) ((qZ (d/Nat.gcd k.natAbs d)).tS) rfl s kA rfl rfl iiz iiz (zVA (zCM k d J).symm (zEt k d J).symm (zDa k d J).symm) fun a w s=>zD rfl (hQ _ _ ?_)
 refine lP ?_
 replace s:=s.drop [2]
 exact rgE ((2,.u (uB true))::[]) s
  (oc zF<|zB) fun a w5 s=>pS<|vH s (c:=0) (C:=CU.agg (fQN (mkRat k d))) rfl rfl rfl rfl iiz
theorem zF2(I:W.heap[b]?=some (.cells cs.toArray 98 (0,0)))(O:QVp m k d (.agg cs.toArray) W)(J:m<=2000)(U:Tab W):Calls prog 107 #[pO b 0] W (zPN W b 98 (CU.agg (fQN (mkRat k d))) (uB (decide (0<d))).tS):=by
 rcases uJ d with h|h
 .have:=zTJ I O J h
  rw[h,rZ,xZ oA]
  exact this
 .rw[lH h]
  exact zTK I O J h U
theorem zXR(h:QVp m k d v W)(O:m<=2000)(U:Tab W):Calls prog 102 #[v] W (Ret W (wJ W 98 (CU.agg (fQN (mkRat k d))))):=by
 refine zZ [(fQV m k d).tS] func102 rfl kA ⟨h,trivial⟩ fun a s=>lP<|rgK 0 [] s
  zB fun a w1 s=>yL (CU.agg (fQV m k d)) rfl s kA (fun v W h=>zF5 h) fun b1 a w s=>yQ (UF.eq (.pointer none)) rfl s kA iiz fun a w s=>zD rfl<|lP<|rgK 2 ((4,.Z (fQV m k d))::(5,.u (fQV m k d))::[]) s
  (oc (zT (f:=fQV m k d) 3 kA (hz:=zSn _ _ _))<|oc (zGg (fun u W (hu:QVp m k d u W)=>zXj hu))<|zB) fun a w2 s=>yL (CU.agg (fQV m k d)) rfl s kA (fun v W h=>zF5 h) fun I a w s=>zXK rfl s kA fun a w s=>zD rfl<|lP<|rgK 1 ((7,.u (UF.eq (pO I 0)))::[]) s
  (oc (zA (fun _ _ _ h=>h.1))<|zB) fun a w3 s=>zHr (c:=3) (CU.agg (fQN (mkRat k d))) (UF.any) rfl zC zPe s kA rfl rfl iiz (fun cs h1 h2=>?_) fun a w s=>?_
 .exact(zF2 h1 h2 O (U.below s.gr.below)).mono fun e w' ⟨v,J,_,g2⟩=>⟨v,J,trivial,g2⟩
 refine zD rfl<|lP ?_
 replace s:=s.drop [2]
 exact rgE ((9,.s (wL I (cg (fQN (mkRat k d)))))::(2,.u (UF.eq (pO I 0)))::[]) s
  (oc zA<|oc (zF (fun _ _ _ h=>h.1))<|zB) fun a w4 s=>pS<|vM s (t:=2) (c:=3) rfl rfl rfl iiz
theorem zRc(hh:W.heap[b]?=some (.cells cs.toArray 98 (0,0)))(hc:QNp q (.agg cs.toArray) W)(hd:W.heap[b']?=some (.cells cs'.toArray 98 (0,0)))(h5:QNp q' (.agg cs'.toArray) W)(ha:b'≠b)(U:QB q m)(I:QB q' m')(hm:m+m'+1<=2000)(hT:Tab W):Calls prog 78 #[pO b 0,pO b' 0] W (zPN W b 98 (CU.agg (fQN (q+q'))) SF.any):=by
 have bk:Bd (((q).num*((q').den:Int))+((q').num*((q).den:Int))) (m+m'+1):=U.num_add I
 rw[Rat.add_def']
 refine zHA b [(0,UF.eq (pO b 0)),(1,UF.eq (pO b' 0))] [⟨0,98,CU.agg (fQN q),b,false⟩,⟨1,98,CU.agg (fQN q'),b',true⟩] func78 rfl kA (fun x hx=>by simp at hx;rcases hx with rfl|rfl<;>exact⟨fG,rfl⟩) ⟨⟨cs,rfl,.inr (.inr rfl),hh,hc,zCx (zJ7 hc U),fun y hy=>by simp at hy;subst hy;exact .inl ha⟩,⟨cs',rfl,.inl rfl,hd,h5,zCx (zJ7 h5 I),fun y hy=>by cases hy⟩,trivial⟩ (fun x hx=>by simp at hx;rcases hx with rfl|rfl<;>simp) fun a s=>lP<|yJ [0,1,6,14,19] 32 ((4,.Z (UF.eq (pO b 0)))::(5,.s (wL b (cg (fQN q))))::(6,.Y (fQN q))::(7,.X (fQN q) 0)::(8,.X (fQN q) 0)::(9,.Z (fNV ((q).num)))::(10,.s (wL b' (cg (fQN q'))))::(11,.Y (fQN q'))::(12,.X (fQN q') 0)::(13,.X (fQN q') 2)::(14,.Z (qZ ((q').den)))::(15,.Z (fNV ((q').den:Int)))::(16,.s (zMD (m+m') [(q).num,((q').den:Int)]))::(17,.Z (fNV ((q).num*((q').den:Int))))::(18,.s (wL b' (cg (fQN q'))))::(19,.Y (fQN q'))::(20,.X (fQN q') 0)::(21,.X (fQN q') 0)::(22,.Z (fNV ((q').num)))::(23,.s (wL b (cg (fQN q))))::(24,.Y (fQN q))::(25,.X (fQN q) 0)::(26,.X (fQN q) 2)::(27,.Z (qZ ((q).den)))::(28,.Z (fNV ((q).den:Int)))::(29,.s (zMD (m+m') [(q').num,((q).den:Int)]))::(30,.Z (fNV ((q').num*((q).den:Int))))::(31,.s (zMD (m+m') [((q).num*((q').den:Int)),((q').num*((q).den:Int))]))::(32,.u (fNV (((q).num*((q').den:Int))+((q').num*((q).den:Int)))))::(33,.Z (UF.eq (pO b 0)))::(34,.Z (UF.eq (pO b 0)))::(35,.u (UF.eq (pO b 0)))::[]) hmix s kA
  (oc (zA (fun _ _ _ h=>h.1))<|oc zA<|oc (zAv (C:=cg (fQN q)))<|oc (zL (C:=cg (fQN q)) 0 kA)<|oc (qK (C:=cg (fQN q)) 0 0 kA)<|oc (zQ (C:=cg (fQN q)) (k:=0) 2 kA (h:=zBl))<|oc zA<|oc (zAv (C:=cg (fQN q')))<|oc (zL (C:=cg (fQN q')) 0 kA)<|oc (qK (C:=cg (fQN q')) 0 2 kA)<|oc (jP (C:=cg (fQN q')) (k:=2) kA (h:=zA8))<|oc (zG zC zLR (fun O W hb (J:qN W O ((q').den))=>zHj J))<|oc (z9 (fun u v W (hu:NV W u ((q).num)) (hv:NV W v ((q').den:Int))=>zBp (NV.uv' hu (Bd.mono (U).1 (m':=(m+m')) fP)) (NV.uv' hv (Bd.mono (jF I.2) (m':=(m+m')) fP))))<|oc (zG zC zJD (fun O W hb (J:ISV W (m+m') O [(q).num,((q').den:Int)])=>zOw (k:=((q).num*((q').den:Int))) J (by show(m+m')*2+(m+m')+1<=40000;omega) fC fC))<|oc zA<|oc (zAv (C:=cg (fQN q')))<|oc (zL (C:=cg (fQN q')) 0 kA)<|oc (qK (C:=cg (fQN q')) 0 0 kA)<|oc (zQ (C:=cg (fQN q')) (k:=0) 2 kA (h:=zBl))<|oc zA<|oc (zAv (C:=cg (fQN q)))<|oc (zL (C:=cg (fQN q)) 0 kA)<|oc (qK (C:=cg (fQN q)) 0 2 kA)<|oc (jP (C:=cg (fQN q)) (k:=2) kA (h:=zA8))<|oc (zG zC zLR (fun O W hb (J:qN W O ((q).den))=>zHj J))<|oc (z9 (fun u v W (hu:NV W u ((q').num)) (hv:NV W v ((q).den:Int))=>zBp (NV.uv' hu (Bd.mono (I).1 (m':=(m+m')) fP)) (NV.uv' hv (Bd.mono (jF U.2) (m':=(m+m')) fP))))<|oc (zG zC zJD (fun O W hb (J:ISV W (m+m') O [(q').num,((q).den:Int)])=>zOw (k:=((q').num*((q).den:Int))) J (by show(m+m')*2+(m+m')+1<=40000;omega) fC fC))<|oc (z9 (fun u v W (hu:NV W u ((q).num*((q').den:Int))) (hv:NV W v ((q').num*((q).den:Int)))=>zBp (NV.uv' hu (Bd.mono (Bd.mul (U).1 (jF I.2)) oA)) (NV.uv' hv (Bd.mono (Bd.mul (I).1 (jF U.2)) oA))))<|oc (zG zC zW7 (fun O W hb (J:ISV W (m+m') O [((q).num*((q').den:Int)),((q').num*((q).den:Int))])=>zYX (k:=(((q).num*((q').den:Int))+((q').num*((q).den:Int)))) J oA fC fC))<|oc (zCK (a:=⟨b,0,none⟩) iiz)<|oc (zAj (b:=b) (o:=0) 0 kA iiz)<|oc (zAj (b:=b) (o:=0) 0 kA iiz)<|zB) fun Q' hQ a w1 s=>j9 (c:=0) (o:=0) (kk:=2) (CU.agg (fQK (((q).num*((q').den:Int))+((q').num*((q).den:Int))) ((q).den))) ((fNV (((q).num*((q').den:Int))+((q').num*((q).den:Int)))).tS) rfl s kA rfl rfl iiz iiz (zJY (k0:=q.num) (d:=q.den)) fun a w s=>zD rfl (hQ _ _ ?_)
 refine lP<|yJ [0,1,6] 15 ((36,.Z (UF.eq (pO b 0)))::(37,.s (wL b (cg (fQK (((q).num*((q').den:Int))+((q').num*((q).den:Int))) ((q).den)))))::(38,.Y (fQK (((q).num*((q').den:Int))+((q').num*((q).den:Int))) ((q).den)))::(39,.X (fQK (((q).num*((q').den:Int))+((q').num*((q).den:Int))) ((q).den)) 0)::(40,.X (fQK (((q).num*((q').den:Int))+((q').num*((q).den:Int))) ((q).den)) 2)::(41,.Z (qZ ((q).den)))::(42,.s (wL b' (cg (fQN q'))))::(43,.Y (fQN q'))::(44,.X (fQN q') 0)::(45,.X (fQN q') 2)::(46,.Z (qZ ((q').den)))::(47,.u (qZ (((q).den)*((q').den))))::(48,.Z (UF.eq (pO b 0)))::(49,.Z (UF.eq (pO b 0)))::(50,.u (UF.eq (pO b 2)))::[]) hmix s kA
  (oc (zA (fun _ _ _ h=>h.1))<|oc zA<|oc (zAv (C:=cg (fQK (((q).num*((q').den:Int))+((q').num*((q).den:Int))) ((q).den))))<|oc (zL (C:=cg (fQK (((q).num*((q').den:Int))+((q').num*((q).den:Int))) ((q).den))) 0 kA)<|oc (qK (C:=cg (fQK (((q).num*((q').den:Int))+((q').num*((q).den:Int))) ((q).den))) 0 2 kA)<|oc (jP (C:=cg (fQK (((q).num*((q').den:Int))+((q').num*((q).den:Int))) ((q).den))) (k:=2) kA (h:=zV2))<|oc zA<|oc (zAv (C:=cg (fQN q')))<|oc (zL (C:=cg (fQN q')) 0 kA)<|oc (qK (C:=cg (fQN q')) 0 2 kA)<|oc (jP (C:=cg (fQN q')) (k:=2) kA (h:=zA8))<|oc (zH zC zSQ (fun O u1 W hb (J:qN W O ((q).den)) (h1:qN W u1 ((q').den))=>zWi (LV.mono (qN.lv J U.2) (m':=(m+m')) oA) (LV.mono (qN.lv h1 I.2) (m':=(m+m')) oA) oA))<|oc (zCK (a:=⟨b,0,none⟩) iiz)<|oc (zAj (b:=b) (o:=0) 0 kA iiz)<|oc (zAj (b:=b) (o:=0) 2 kA iiz)<|zB) fun Q' hQ a w2 s=>j9 (c:=0) (o:=2) (kk:=1) (CU.agg (fQK (((q).num*((q').den:Int))+((q').num*((q).den:Int))) (((q).den)*((q').den)))) ((qZ (((q).den)*((q').den))).tS) rfl s kA rfl rfl iiz iiz zNi fun a w s=>zD rfl (hQ _ _ ?_)
 refine rgK 1 ((51,.u (UF.eq (pO b 0)))::[]) s
  (oc (zA (fun _ _ _ h=>h.1))<|zB) fun a w3 s=>zHr (c:=0) (CU.agg (fQN (mkRat (((q).num*((q').den:Int))+((q').num*((q).den:Int))) ((q).den*(q').den)))) (UF.any) rfl zC zPe s kA rfl rfl iiz (fun cs h1 h2=>?_) fun a w s=>?_
 .exact(zF2 (m:=m+m'+1) h1 (zV1 h2 bk (vV (U.den_mul I) (vZ qC oA))) oA (hT.bls hh (zJ5 (zJ7 hc U)) s.gr)).mono fun e w' ⟨v,g1,_,g2⟩=>⟨v,g1,trivial,g2⟩
 exact zD rfl<|vI s (c:=0) (C:=CU.agg (fQN (mkRat (((q).num*((q').den:Int))+((q').num*((q).den:Int))) ((q).den*(q').den)))) rfl rfl rfl rfl (fun _=>trivial)
theorem zRb(hh:W.heap[b]?=some (.cells cs.toArray 98 (0,0)))(hc:QNp q (.agg cs.toArray) W)(ha:W.heap[b']?=some (.cells cs'.toArray 98 (0,0)))(U:QNp q' (.agg cs'.toArray) W)(h8:b'≠b)(J:QB q m)(I:QB q' m')(hm:m+m'+1<=2000)(hT:Tab W):Calls prog 109 #[pO b 0,pO b' 0] W (zPN W b 98 (CU.agg (fQN (q*q'))) SF.any):=by
 have bk:Bd ((q).num*(q').num) (m+m'+1):=(J.1.mul I.1).mono oA
 rw[Rat.mul_def']
 refine zHA b [(0,UF.eq (pO b 0)),(1,UF.eq (pO b' 0))] [⟨0,98,CU.agg (fQN q),b,false⟩,⟨1,98,CU.agg (fQN q'),b',true⟩] func109 rfl kA (fun x O=>by simp at O;rcases O with rfl|rfl<;>exact⟨fG,rfl⟩) ⟨⟨cs,rfl,.inr (.inr rfl),hh,hc,zCx (zJ7 hc J),fun y hy=>by simp at hy;subst hy;exact .inl h8⟩,⟨cs',rfl,.inl rfl,ha,U,zCx (zJ7 U I),fun y hy=>by cases hy⟩,trivial⟩ (fun x O=>by simp at O;rcases O with rfl|rfl<;>simp) fun a s=>lP<|yJ [0,1,2,7,14,19] 28 ((4,.Z (UF.eq (pO b 0)))::(5,.u (UF.eq (pO b 0)))::(6,.s (wL b (cg (fQN q))))::(7,.Y (fQN q))::(8,.X (fQN q) 0)::(9,.X (fQN q) 0)::(10,.Z (fNV ((q).num)))::(11,.s (wL b' (cg (fQN q'))))::(12,.Y (fQN q'))::(13,.X (fQN q') 0)::(14,.X (fQN q') 0)::(15,.Z (fNV ((q').num)))::(16,.s (zMD (m+m') [(q).num,(q').num]))::(17,.u (fNV ((q).num*(q').num)))::(18,.s (wL b (cg (fQN q))))::(19,.Y (fQN q))::(20,.X (fQN q) 0)::(21,.X (fQN q) 2)::(22,.Z (qZ ((q).den)))::(23,.s (wL b' (cg (fQN q'))))::(24,.Y (fQN q'))::(25,.X (fQN q') 0)::(26,.X (fQN q') 2)::(27,.Z (qZ ((q').den)))::(28,.u (qZ (((q).den)*((q').den))))::(29,.Z (UF.eq (pO b 0)))::(30,.Z (UF.eq (pO b 0)))::(31,.u (UF.eq (pO b 0)))::[]) hmix s kA
  (oc (zA (fun _ _ _ h=>h.1))<|oc (zA (fun _ _ _ h=>h.1))<|oc zA<|oc (zAv (C:=cg (fQN q)))<|oc (zL (C:=cg (fQN q)) 0 kA)<|oc (qK (C:=cg (fQN q)) 0 0 kA)<|oc (zQ (C:=cg (fQN q)) (k:=0) 2 kA (h:=zBl))<|oc zA<|oc (zAv (C:=cg (fQN q')))<|oc (zL (C:=cg (fQN q')) 0 kA)<|oc (qK (C:=cg (fQN q')) 0 0 kA)<|oc (zQ (C:=cg (fQN q')) (k:=0) 2 kA (h:=zBl))<|oc (z9 (fun u v W (hu:NV W u ((q).num)) (hv:NV W v ((q').num))=>zBp (NV.uv' hu (Bd.mono (J).1 (m':=(m+m')) fP)) (NV.uv' hv (Bd.mono (I).1 (m':=(m+m')) fP))))<|oc (zG zC zJD (fun u0 W hb (h0:ISV W (m+m') u0 [(q).num,(q').num])=>zOw (k:=((q).num*(q').num)) h0 (by show(m+m')*2+(m+m')+1<=40000;omega) fC fC))<|oc zA<|oc (zAv (C:=cg (fQN q)))<|oc (zL (C:=cg (fQN q)) 0 kA)<|oc (qK (C:=cg (fQN q)) 0 2 kA)<|oc (jP (C:=cg (fQN q)) (k:=2) kA (h:=zA8))<|oc zA<|oc (zAv (C:=cg (fQN q')))<|oc (zL (C:=cg (fQN q')) 0 kA)<|oc (qK (C:=cg (fQN q')) 0 2 kA)<|oc (jP (C:=cg (fQN q')) (k:=2) kA (h:=zA8))<|oc (zH zC zSQ (fun u0 u1 W hb (h0:qN W u0 ((q).den)) (h1:qN W u1 ((q').den))=>zWi (LV.mono (qN.lv h0 J.2) (m':=(m+m')) oA) (LV.mono (qN.lv h1 I.2) (m':=(m+m')) oA) oA))<|oc (zCK (a:=⟨b,0,none⟩) iiz)<|oc (zAj (b:=b) (o:=0) 0 kA iiz)<|oc (zAj (b:=b) (o:=0) 0 kA iiz)<|zB) fun Q' hQ a w1 s=>j9 (c:=0) (o:=0) (kk:=2) (CU.agg (fQK ((q).num*(q').num) ((q).den))) ((fNV ((q).num*(q').num)).tS) rfl s kA rfl rfl iiz iiz (zJY (k0:=q.num) (d:=q.den)) fun a w s=>zBJ (UF.eq (pO b 0)) rfl s kA (zCK (a:=⟨b,0,none⟩) iiz) kA fun a w s=>zBJ (UF.eq (pO b 0)) rfl s kA (zAj (b:=b) (o:=0) 0 kA iiz) kA fun a w s=>zBJ (UF.eq (pO b 2)) rfl s kA (zAj (b:=b) (o:=0) 2 kA iiz) kA fun a w s=>j9 (c:=0) (o:=2) (kk:=1) (CU.agg (fQK ((q).num*(q').num) (((q).den)*((q').den)))) ((qZ (((q).den)*((q').den))).tS) rfl s kA rfl rfl iiz iiz zNi fun a w s=>zD rfl (hQ _ _ ?_)
 refine rgK 1 ((35,.u (UF.eq (pO b 0)))::[]) s
  (oc (zA (fun _ _ _ h=>h.1))<|zB) fun a w2 s=>zHr (c:=0) (CU.agg (fQN (mkRat ((q).num*(q').num) ((q).den*(q').den)))) (UF.any) rfl zC zPe s kA rfl rfl iiz (fun cs h1 h2=>?_) fun a w s=>?_
 .exact(zF2 (m:=m+m'+1) h1 (zV1 h2 bk (vV (J.den_mul I) (vZ qC oA))) oA (hT.bls hh (zJ5 (zJ7 hc J)) s.gr)).mono fun e w' ⟨v,g1,_,g2⟩=>⟨v,g1,trivial,g2⟩
 exact zD rfl<|vI s (c:=0) (C:=CU.agg (fQN (mkRat ((q).num*(q').num) ((q).den*(q').den)))) rfl rfl rfl rfl (fun _=>trivial)
theorem zMi(h:RVp m q v W)(J:m<=2000)(I:Tab W):Calls prog 102 #[v] W (Ret W (wJ W 98 (CU.agg (fQN q)))):=by
 obtain⟨k,d,O,rfl⟩:=h
 exact zXR O J I
theorem zNH(h:RVp m q v W)(hm:m<=2000)(I:0<m)(U:Tab W):Calls prog 94 #[v] W (Ret W (fQN q).tS):=by
 have hq:QB q m:=h.qb I
 exact zZ [(fRV m q).tS] func94 rfl kA ⟨h,trivial⟩ fun a s=>lP<|rgK 0 [] s
  zB fun a w1 s=>yL (CU.agg (fRV m q)) rfl s kA (fun v W h=>zAm h) fun b1 a w s=>zX (CU.len 3) (cs:=zR3) kA rfl s kA (fun W=>rfl) rfl fun b2 a w s=>zD rfl<|lP<|rgK 5 ((3,.Z (fRV m q))::(4,.s (wJ w 98 (CU.agg (fQN q))))::(5,.Y (fQN q))::(6,.X (fQN q) 0)::(7,.u (fQN q))::[]) s
  (oc (zT (f:=fRV m q) 3 kA (hz:=qS _ _))<|oc (zG zC zJE (fun O W hb (J:RVp m q O W)=>(zMi J oA (U.below (s.up hb))).mono (wG (zCA hb.size))))<|oc (zAv (C:=cg (fQN q)) zG2)<|oc (zL (C:=cg (fQN q)) 0 kA)<|oc (zQ (C:=cg (fQN q)) (k:=0) 3 kA (h:=zLk))<|zB) fun a w2 s=>zM (fQN q) rfl s zW fun a w s=>zD rfl<|pS<|wK s (CU.agg (fQN q)) rfl kA rfl rfl (yW _) (fun cs W h=>h)
theorem zNG(h:RVp m q v W)(hm:m<=2000)(I:0<m)(hT:Tab W):Calls prog 90 #[v] W (Ret W (fI q.num.sign).tS):=by
 have U:QB q m:=h.qb I
 refine zZ [(fRV m q).tS] func90 rfl kA ⟨h,trivial⟩ fun a s=>lP<|rgK 0 [] s
  zB fun a w1 s=>yL (CU.agg (fRV m q)) rfl s kA (fun v W h=>zAm h) fun b1 a w s=>yQ (uI 0) rfl s kA iiz fun a w s=>zD rfl<|lP ?_
 replace s:=s.drop [2]
 exact rgE ((3,.Z (fRV m q))::(4,.s (wJ w 98 (CU.agg (fQN q))))::(5,.Y (fQN q))::(6,.X (fQN q) 0)::(7,.X (fQN q) 0)::(8,.Z (fNV ((q).num)))::(9,.Z (uI (q.num.sign)))::(2,.u (uI (q.num.sign)))::[]) s
  (oc (zT (f:=fRV m q) 3 kA (hz:=qS _ _))<|oc (zG zC zJE (fun J W hb (O:RVp m q J W)=>(zMi O oA (hT.below (s.up hb))).mono (wG (zCA hb.size))))<|oc (zAv (C:=cg (fQN q)) zG2)<|oc (zL (C:=cg (fQN q)) 0 kA)<|oc (qK (C:=cg (fQN q)) 0 0 kA)<|oc (zQ (C:=cg (fQN q)) (k:=0) 2 kA (h:=zBl))<|oc (zG zC zW2 (fun J W hb (O:NV W J ((q).num))=>zFJ (zVG (NV.uv' O (U).1) oA)))<|oc zF<|zB) fun a w2 s=>pS<|wF s (t:=2) rfl iiz
theorem zSj(h:RVp m q v W)(h':RVp m q' v' W)(hm:m<=2000)(U:0<m)(hT:Tab W):Calls prog 123 #[v,v'] W (Ret W (fI (qsg q q')).tS):=by
 have hq:QB q m:=h.qb U
 have O:QB q' m:=h'.qb U
 refine zZ [(fRV m q).tS,(fRV m q').tS] func123 rfl kA ⟨h,h',trivial⟩ fun a s=>lP<|rgK 0 [] s
  zB fun a w1 s=>yL (CU.agg (fRV m q)) rfl s kA (fun v W h=>zAm h) fun b2 a w s=>yL (CU.agg (fRV m q')) rfl s kA (fun v W h=>zAm h) fun b3 a w s=>yQ (uI 0) rfl s kA iiz fun a w s=>zD rfl<|lP ?_
 have so:=s.old;have sg:=s.gr
 refine rgL 6 ((7,.Z (fRV m q))::(8,.s (wJ w 98 (CU.agg (fQN q))))::(9,.Z (fRV m q'))::(10,.s (wJ w 98 (CU.agg (fQN q'))))::(5,.s (wJ w 98 (CU.agg (fQN q))))::(6,.s (wJ w 98 (CU.agg (fQN q'))))::[]) s
  (oc (zT (f:=fRV m q) 3 kA (hz:=qS _ _))<|oc (zG zC zJE (fun I W hb (J:RVp m q I W)=>(zMi J oA (hT.below (s.up hb))).mono (wG (zCA hb.size))))<|oc (zT (f:=fRV m q') 3 kA (hz:=qS _ _))<|oc (zG zC zJE (fun I W hb (J:RVp m q' I W)=>(zMi J oA (hT.below (s.up hb))).mono (wG (zCA hb.size))))<|oc zF<|oc zF<|zB) fun a w2 s hr=>?_
 obtain⟨b5,_,s⟩:=s.adopt true 5 (hr (_,_) mz4) sg (fun y hy=>.inl (so y hy))
 obtain⟨b6,_,s⟩:=s.adopt true 6 (hr (_,_) mz5) sg (fun y hy=>by rcases xS.1 hy with rfl|hy;exact .inr ⟨rfl,rfl⟩;exact .inl (so y hy))
 refine zD rfl<|lP ?_
 replace s:=s.drop [4]
 exact rgE ((11,.s (wL b5 (cg (fQN q))))::(12,.Y (fQN q))::(13,.X (fQN q) 0)::(14,.X (fQN q) 0)::(15,.Z (fNV ((q).num)))::(16,.s (wL b6 (cg (fQN q'))))::(17,.Y (fQN q'))::(18,.X (fQN q') 0)::(19,.X (fQN q') 2)::(20,.Z (qZ ((q').den)))::(21,.Z (fNV ((q').den:Int)))::(22,.s (zMD (m+m) [(q).num,((q').den:Int)]))::(23,.Z (fNV ((q).num*((q').den:Int))))::(24,.s (wL b6 (cg (fQN q'))))::(25,.Y (fQN q'))::(26,.X (fQN q') 0)::(27,.X (fQN q') 0)::(28,.Z (fNV ((q').num)))::(29,.s (wL b5 (cg (fQN q))))::(30,.Y (fQN q))::(31,.X (fQN q) 0)::(32,.X (fQN q) 2)::(33,.Z (qZ ((q).den)))::(34,.Z (fNV ((q).den:Int)))::(35,.s (zMD (m+m) [(q').num,((q).den:Int)]))::(36,.Z (fNV ((q').num*((q).den:Int))))::(37,.Z (uI (qsg q q')))::(4,.u (uI (qsg q q')))::[]) s
  (oc zA<|oc (zAv (C:=cg (fQN q)))<|oc (zL (C:=cg (fQN q)) 0 kA)<|oc (qK (C:=cg (fQN q)) 0 0 kA)<|oc (zQ (C:=cg (fQN q)) (k:=0) 2 kA (h:=zBl))<|oc zA<|oc (zAv (C:=cg (fQN q')))<|oc (zL (C:=cg (fQN q')) 0 kA)<|oc (qK (C:=cg (fQN q')) 0 2 kA)<|oc (jP (C:=cg (fQN q')) (k:=2) kA (h:=zA8))<|oc (zG zC zLR (fun I W hb (J:qN W I ((q').den))=>zHj J))<|oc (z9 (fun u v W (hu:NV W u ((q).num)) (hv:NV W v ((q').den:Int))=>zBp (NV.uv' hu (Bd.mono (hq).1 (m':=(m+m)) fP)) (NV.uv' hv (Bd.mono (jF O.2) (m':=(m+m)) fP))))<|oc (zG zC zJD (fun I W hb (J:ISV W (m+m) I [(q).num,((q').den:Int)])=>zOw (k:=((q).num*((q').den:Int))) J (by show(m+m)*2+(m+m)+1<=40000;omega) fC fC))<|oc zA<|oc (zAv (C:=cg (fQN q')))<|oc (zL (C:=cg (fQN q')) 0 kA)<|oc (qK (C:=cg (fQN q')) 0 0 kA)<|oc (zQ (C:=cg (fQN q')) (k:=0) 2 kA (h:=zBl))<|oc zA<|oc (zAv (C:=cg (fQN q)))<|oc (zL (C:=cg (fQN q)) 0 kA)<|oc (qK (C:=cg (fQN q)) 0 2 kA)<|oc (jP (C:=cg (fQN q)) (k:=2) kA (h:=zA8))<|oc (zG zC zLR (fun I W hb (J:qN W I ((q).den))=>zHj J))<|oc (z9 (fun u v W (hu:NV W u ((q').num)) (hv:NV W v ((q).den:Int))=>zBp (NV.uv' hu (Bd.mono (O).1 (m':=(m+m)) fP)) (NV.uv' hv (Bd.mono (jF hq.2) (m':=(m+m)) fP))))<|oc (zG zC zJD (fun I W hb (J:ISV W (m+m) I [(q').num,((q).den:Int)])=>zOw (k:=((q').num*((q).den:Int))) J (by show(m+m)*2+(m+m)+1<=40000;omega) fC fC))<|oc (zH zC zWU (fun I u1 W hb (J:NV W I ((q).num*((q').den:Int))) (h1:NV W u1 ((q').num*((q).den:Int)))=>zFJ (zYP (NV.uv' J (Bd.mul (hq).1 (jF O.2))) (NV.uv' h1 (Bd.mul (O).1 (jF hq.2))) oA)))<|oc zF<|zB) fun a w3 s=>pS<|wF s (t:=4) rfl iiz
theorem zVR(h:RVp m q v W)(hm:m<=2000)(I:0<m)(hT:Tab W):Calls prog 108 #[v] W (Ret W (fQN (-q)).tS):=by
 have U:QB q m:=h.qb I
 refine zZ [(fRV m q).tS] func108 rfl kA ⟨h,trivial⟩ fun a s=>lP<|rgK 0 [] s
  zB fun a w1 s=>yL (CU.agg (fRV m q)) rfl s kA (fun v W h=>zAm h) fun b1 a w s=>zX (CU.len 3) (cs:=zR3) kA rfl s kA (fun W=>rfl) rfl fun b2 a w s=>zD rfl<|lP ?_
 have so:=s.old;have sg:=s.gr
 refine rgL 3 ((4,.Z (fRV m q))::(5,.s (wJ w 98 (CU.agg (fQN q))))::(3,.s (wJ w 98 (CU.agg (fQN q))))::[]) s
  (oc (zT (f:=fRV m q) 3 kA (hz:=qS _ _))<|oc (zG zC zJE (fun J W hb (O:RVp m q J W)=>(zMi O oA (hT.below (s.up hb))).mono (wG (zCA hb.size))))<|oc zF<|zB) fun a w2 s hr=>?_
 obtain⟨b3,_,s⟩:=s.adopt false 3 (hr (_,_) mz2) sg (fun y hy=>.inl (so y hy))
 exact zD rfl<|lP<|rgK 10 ((6,.Z (UF.eq (pO b3 0)))::(7,.s (wL b3 (cg (fQN q))))::(8,.Y (fQN q))::(9,.X (fQN q) 0)::(10,.X (fQN q) 0)::(11,.Z (fNV ((q).num)))::(12,.u (fNV (-(q).num)))::(13,.Z (UF.eq (pO b3 0)))::(14,.Z (UF.eq (pO b3 0)))::(15,.u (UF.eq (pO b3 0)))::[]) s
  (oc (zA (fun _ _ _ h=>h.1))<|oc zA<|oc (zAv (C:=cg (fQN q)))<|oc (zL (C:=cg (fQN q)) 0 kA)<|oc (qK (C:=cg (fQN q)) 0 0 kA)<|oc (zQ (C:=cg (fQN q)) (k:=0) 2 kA (h:=zBl))<|oc (zG zC zWW (fun J W hb (O:NV W J ((q).num))=>zX3 (NV.uv' O (U).1) oA))<|oc (zCK (a:=⟨b3,0,none⟩) iiz)<|oc (zAj (b:=b3) (o:=0) 0 kA iiz)<|oc (zAj (b:=b3) (o:=0) 0 kA iiz)<|zB) fun a w3 s=>j9 (c:=3) (o:=0) (kk:=2) (CU.agg (fQN (-q))) ((fNV (-(q).num)).tS) rfl s kA rfl rfl iiz iiz (zJY (k0:=q.num) (d:=q.den)) fun a w s=>zD rfl<|lP<|rgK 4 ((16,.s (wL b3 (cg (fQN (-q)))))::(17,.Y (fQN (-q)))::(18,.X (fQN (-q)) 0)::(19,.u (fQN (-q)))::[]) s
  (oc zA<|oc (zAv (C:=cg (fQN (-q))))<|oc (zL (C:=cg (fQN (-q))) 0 kA)<|oc (zQ (C:=cg (fQN (-q))) (k:=0) 3 kA (h:=zLk))<|zB) fun a w4 s=>zM (fQN (-q)) rfl s zW fun a w s=>zD rfl<|pS<|wK s (CU.agg (fQN (-q))) rfl kA rfl rfl (yW _) (fun cs W h=>h)
attribute [local go_sem] Oper.semAt_some qL yG
structure QRd(m:Nat)(w:World)(A:Option Addr)(n:Nat)(qs:List Rat):Prop where
 len:qs.length=n
 cells:∀i,i<n->∃b o c0 c1 c2 q,A=some ⟨b,o,none⟩/\w.cell? ⟨b,o+i*3,none⟩=some c0/\w.cell? ⟨b,o+i*3+1,none⟩=some c1/\w.cell? ⟨b,o+i*3+2,none⟩=some c2/\qs[i]?=some q/\RVp m q (.agg #[c0,c1,c2]) w
theorem RVp.keep(h:RVp m q v w)(O:∀p:Addr,p.block<w.heap.size->w'.cell? p=w.cell? p):RVp m q v w':=by
 obtain⟨k,d,⟨b,s,t,e,⟨sg,A,n,c,l,e1,h1,h2⟩,A',n',c',l',U,I,J⟩,h3⟩:=h
 exact⟨k,d,⟨b,s,t,e,⟨sg,A,n,c,l,e1,h1.keep O,h2⟩,A',n',c',l',U,I.keep O,J⟩,h3⟩
theorem QRd.keep(h:QRd m w A n qs)(I:∀p:Addr,p.block<w.heap.size->w'.cell? p=w.cell? p):QRd m w' A n qs:=
 ⟨h.len,fun i hi=>by
  obtain⟨b,o,c0,c1,c2,q,e,U,J,O,h1,h2⟩:=h.cells i hi
  exact⟨b,o,c0,c1,c2,q,e,(I _ (xK w _ U)).trans U,(I _ (xK w _ J)).trans J,(I _ (xK w _ O)).trans O,h1,h2.keep I⟩⟩
theorem QRd.below(h:QRd m w A n qs)(hb:bW w w'):QRd m w' A n qs:=h.keep fun _ I=>hb.cell I
theorem RVp.below(h:RVp m q v w)(hb:bW w w'):RVp m q v w':=h.keep fun _ I=>hb.cell I
def qAt(qs:List Rat)(k:Nat):Rat:=(qs[k]?).getD 0
def zS9(W:WB)(B:Nat)(q:Rat):Prop:=∃cs:List WE,W.heap[B]?=some (.cells cs.toArray 98 (0,0))/\QNp q (.agg cs.toArray) W
theorem QNp.keepU(h:QNp q v w)(I:y7 w w'):QNp q v w':=(fQN q).us _ _ _ h I
def zZT(N0:Nat)(qs:List Rat)(k:Nat)(xs:Array WE)(W:WB):Prop:=∃B,xs=#[pO B 0]/\N0<=B/\zS9 W B (qAt qs k)
theorem zLn(A:WG Addr)(n c:Nat)(w:WB):
  Calls prog 77 #[.slice A n c] w fun e w'=>e=.returned (.func (.func 101) #[] #[pO w.heap.size 0])/\w'=w.alloc (.cells #[.slice A n c] 73):=by
 go_enter func77,ntmps77
 go_wp2
 go_ret
 exact⟨rfl,rfl⟩
theorem zXS{I c1 c2:WE}(h:RVp m q (.agg #[I,c1,c2]) W)(O:m<=2000)(U:Tab W):Calls prog 102 #[.agg #[I,c1,c2]] W fun e w'=>∃B,e=.returned (pO B 0)/\W.heap.size<=B/\zS9 w' B q/\bW W w':=
 (zMi h O U).mono fun _ _ ⟨_,e1,⟨B,cs,J,h1,h2,h3,_⟩,hb⟩=>⟨B,by rw[e1,J],h1,⟨cs,h2,h3⟩,hb⟩
theorem zG1(m:Nat)(hm:m<=2000)(A:WG Addr)(n c:Nat)(qs:List Rat)(b1:Nat)(w w0:WB)(h:QRd m w A n qs)(hT:Tab w)(hw0:bW w w0)(hn:n<=c)(hc:c<=9223372036854775807)
  (hc1:w0.cell? ⟨b1,0,none⟩=some (.slice A n c)){S:Nat->Prop}(hS:∀b,S b->b<w0.heap.size)(_hS1:S b1)(hSA:∀b,b<w.heap.size->S b):
  zRV prog 101 #[pO b1 0] (zZT w0.heap.size qs) n (zGA S) Mk (fun _=>True) w0:=by
 intro lp J W hW hJ hY h0
 have hl1:=z7 hc1
 have hw1:=(hW.cell (p:=⟨b1,0,none⟩) hl1).trans hc1
 refine zB1 func101 rfl ?_
 simp only[ntmps101,bN,lU,mP,Nat.reduceAdd,Nat.reduceSub,mQ,mR,mS,mT,lS,mM]
 gi_wp2
 gi_loopw [7] (fun i wr=>∃k:Nat,k<=n/\i=.int .i64 k/\J k wr/\y8 S w0 wr/\w0.heap.size<=wr.heap.size) (fun i _=>n-(intOf i).toNat)
 case atStart=>exact⟨0,vS _,rfl,h0,wS hW hS,hW.size⟩
 case round=>
  obtain⟨k,hk,rfl,hj,hb,hz⟩:=hrel
  by_cases hkn:k<n
  .have hkeep:∀p:Addr,p.block<w.heap.size->wr.cell? p=w.cell? p:=fun p hp=>(hb.cell (hSA _ hp)).trans (hw0.cell hp)
   obtain⟨b,o,c0,c1,c2,q,rfl,p0,p1,p2,hi,hr⟩:=(h.keep (w':=wr) hkeep).cells k hkn
   have hTr:Tab wr:=fun j hj=>(hkeep ⟨0,j,none⟩ (z7 (hT j hj))).trans (hT j hj)
   have hid1:qAt qs k=q:=by simp[qAt,hi]
   have hjk:=hJ k wr
   have hHI:=hid hi
   clear hi
   obtain⟨sg,A1,n1,d1,A2,n2,d2,rfl,rfl,rfl⟩:∃sg A1 n1 d1 A2 n2 d2,c0=.bool sg/\c1=.slice A1 n1 d1/\c2=.slice A2 n2 d2:=by
    obtain⟨k',d',hq,_⟩:=hr
    obtain⟨sg,A1,n1,d1,A2,n2,d2,e⟩:=zET hq
    have:=vR Array.toList (jX e)
    simp at this
    exact⟨sg,A1,n1,d1,A2,n2,d2,this.1,this.2.1,this.2.2⟩
   gi_wp2_with (first|(gi_at_call 102;refine bG (bB.2 (zXS (hr.below (zCs _ _)) hm (hTr.below (zCs _ _)))) ?_;rintro e w2 ⟨B2,rfl,hB2,hn2,hb2⟩;have hmk:Mk wr w2:=((xG _ wr).alloc lr _).trans (hb2.mono fC);obtain⟨fn,tmps,assign,body,hy,hR⟩:=hY k w2 #[pO B2 0] hkn (hjk _ hj hmk) ⟨B2,rfl,xR hz (xR fC hB2),by rw[hid1];exact hn2⟩)|(refine hR.mono ?_;rintro e W3 ⟨rfl,hJ3,hk3⟩))
   refine⟨⟨k+1,oA,rfl,hJ3,(hb.trans (wS hmk fun b hb=>vV (hS b hb) hz)).trans hk3.1,xR hz (xR hmk.size hk3.2)⟩,?_⟩
   simp[intOf]
   omega
  .obtain rfl:k=n:=oA
   gi_wp2
   go_end0
   exact⟨⟨_,rfl⟩,hj,trivial⟩
def zEm(qs:List Rat):Nat->Rat
 |0=>0
 |k+1=>zEm qs k+qAt qs k
def q9(qs:List Rat):Nat->Rat
 |0=>1
 |k+1=>q9 qs k*qAt qs k
def zVd(w:WB)(B0 P:Nat)(f:Nat->Rat)(k:Nat)(W:WB):Prop:=
 zS9 W B0 (f k)/\Boxed W P 96 (pO B0 0)/\q7 W w.heap.size 28 #[.bool false, sN, sN]/\bW w W/\P+2<=W.heap.size/\w.heap.size<B0
theorem zS9.abide{W':WB}{C:Nat}{row:WG Nat}(h:zS9 W B q)(O:W.grownBy W' row)(U:∀r,row=some r->C<=r/\∃o,W.heap[r]?=some o/\o.isCells=false):zS9 W' B q:=by
 obtain⟨cs,I,h2⟩:=h
 have hk:y7 W W':=fun p x hp=>zHc hp O U
 refine⟨cs,(O.block _ (xQ.1 I).1 fun e=>?_).trans I,h2.keepU hk⟩
 obtain⟨_,o,J,hc⟩:=U _ e.symm
 rw[I]at J
 cases J
 cases hc
theorem zEf(w:WB)(B0 P:Nat)(f:Nat->Rat){C:Nat}(hC:w.heap.size<=C):OwnFrom C (zVd w B0 P f):=by
 rintro k W W' row ⟨U,h2,h3,O,h5,h6⟩ I J
 exact⟨U.abide I J,qR h2 I J,h3.abide I J,zAA O I lr hC J,xR h5 I.size,h6⟩
theorem zQF(m M:Nat)(A:WG Addr)(n c:Nat)(qs:List Rat)(w:WB)(h:QRd m w A n qs)(hn:n<=c)(hc:c<=9223372036854775807)(hm:m<=2000)(hm0:0<m)(hM:M+m+1<=2000)(hp:∀k,k<=n->QB (zEm qs k) M)(hT:Tab w):
  Calls prog 52 #[.slice A n c] w (Ret w (fQN (zEm qs n)).tS):=by
 refine q6 func52 rfl ?_
 simp only[ntmps52,bN,lU,mP,Nat.reduceAdd,Nat.reduceSub,mQ,mR,mS,mT,lS,mM]
 go_wp2_with (first|(go_at_call 51;refine(zQz 0 dA).mono ?_;rintro e w1 ⟨v1,rfl,hv1,hb1⟩;obtain⟨A1,n1,c1,A2,n2,c2,rfl⟩:=zC5 hv1)|(go_at_call 77;refine(zLn A n c _).mono ?_;rintro e w3 ⟨rfl,rfl⟩))
 have hv2:QNp 0 (.agg #[.bool false,.slice A1 n1 c1,.slice A2 n2 c2]) w1:=hv1
 obtain⟨W0,hW0⟩:∃W0,(((w1.alloc (.cells #[.bool false,.slice A1 n1 c1,.slice A2 n2 c2] 98)).alloc (.cells #[pO w1.heap.size 0] 96)).alloc (.cells #[.slice A n c] 73))=W0:=⟨_,rfl⟩
 have hsz:W0.heap.size=w1.heap.size+3:=by rw[<-hW0];simp
 have hbw1:bW w w1:=((xG _ w).alloc lr _).trans (hb1.mono fC)
 have hsz1:w.heap.size<w1.heap.size:=vV fC hb1.size
 have hb01:bW w1 W0:=by rw[<-hW0];exact(((xG _ w1).alloc lr _).alloc fC _).alloc fM _
 have hB1:bW w W0:=hbw1.trans (hb01.mono hbw1.size)
 have x0:zS9 W0 w1.heap.size 0:=⟨[_,_,_],(by rw[<-hW0];exact((q7.new w1 _ #[.bool false,.slice A1 n1 c1,.slice A2 n2 c2]).alloc _).alloc _),hv2.keepU (zR hb01)⟩
 have x1:Boxed W0 (w1.heap.size+1) 96 (pO w1.heap.size 0):=by rw[<-hW0];exact(zAG _ _ _ fC).alloc _
 have x2:Boxed W0 (w1.heap.size+1+1) 73 (.slice A n c):=by rw[<-hW0];exact zAG _ _ _ fC
 have x3:q7 W0 w.heap.size 28 #[.bool false, sN, sN]:=(q7.kept (q7.kept (q7.new w _ _) hb1) hb01)
 rw[hW0]
 clear hW0
 have hSb:∀b,(b<w.heap.size∨b=w1.heap.size+1+1)->b<W0.heap.size:=fun b hb=>by have:=hbw1.size;omega
 refine zCt (gf:=101) rfl (enters_of func101 kA rfl) (zG1 m hm A n c qs (w1.heap.size+1+1) w W0 h hT hB1 hn hc x2.cell (S:=fun b=>b<w.heap.size∨b=w1.heap.size+1+1) hSb (.inr rfl) (fun b hb=>.inl hb)) ?hE ?hps zGA.trans (zH8 hSb)
  (zVd w w1.heap.size (w1.heap.size+1) (zEm qs)) (zEf w _ _ _ hB1.size) (zCo (zEf w _ _ _ lr)) wT (fun _ _ _ _ _ _ _ _=>trivial) ⟨x0,x1,x3,hB1,oA,hsz1⟩
  (fun _ xs=>{ tmps:=#[.slice A n c,undef,pO w.heap.size 0,.pointer (some ⟨w1.heap.size+1,0,none⟩),xs.getD 0 undef,.agg #[.bool false,.slice A1 n1 c1,.slice A2 n2 c2],.agg #[.bool false,.slice A1 n1 c1,.slice A2 n2 c2],pO w1.heap.size 0,.slice A n c,.func (.func 101) #[] #[.pointer (some ⟨w1.heap.size+1+1,0,none⟩)],xs.getD 0 undef,undef,undef,undef,undef,undef,undef,undef],defers:=[] }) ?assign ?body ?done
 case hE=>
  rintro k xs W l o o' ⟨B,rfl,h1,h2⟩ ho hc
  exact⟨B,rfl,h1,h2.abide (C:=0) (eO W l o') (fun r e=>by cases e;exact⟨vS _,o,ho,hc⟩)⟩
 case hps=>
  rintro k xs W ⟨B,rfl,_⟩
  rfl
 case assign=>
  rintro lp k xs W K ⟨B,rfl,h1,h2⟩ hK
  gi_wp2
  exact hK
 case body=>
  rintro lp k xs W hk ⟨h1,h2,h3,h4,h5,h6⟩ ⟨B,rfl,hB,hnb⟩
  have hc2:=h2.cell
  have hne:B≠w1.heap.size:=oA
  have hbd:=hp k (nL hk)
  have hbd2:QB (qAt qs k) m:=by
   obtain⟨_,_,_,_,_,q,_,_,_,_,e,hr⟩:=h.cells k hk
   rw[show qAt qs k=q from by simp[qAt,e]]
   exact hr.qb hm0
  have hTW:Tab W:=hT.below h4
  gi_wp2_with (gi_at_call 78;refine bG (bB.2 (by
   obtain⟨cs,g1,g2⟩:=h1
   obtain⟨cs',g1',g2'⟩:=hnb
   exact zRc g1 g2 g1' g2' hne hbd hbd2 oA hTW)) ?_;rintro e w3 ⟨u,rfl,_,hg3,cs3,hh3,hc3,_⟩)
  refine⟨(eJ hg3 (fun j o e ho=>by cases e;obtain⟨cs,g1,_⟩:=h1;rw[g1]at ho;cases ho;rfl)).from _,⟨(y8.refl _ _).grown hg3 (fun b hb=>⟨by have:=h4.size;rcases hb with hb|hb<;>omega,fun e=>by have:=nM e;omega⟩),hg3.size⟩,⟨cs3,hh3,hc3⟩,h2.kept hg3 (fun e=>by have:=nM e;omega),(hg3.block _ h3.lt (fun e=>by have:=nM e;omega)).trans h3,zA3 h4 hg3 h4.size oA,xR h5 hg3.size,h6⟩
 case done=>
  rintro D W hD ⟨h1,h2,h3,h4,h5,h6⟩ _ hd
  obtain⟨cs,hh,hq⟩:=h1
  obtain⟨A3,n3,c3,A4,n4,c4,ecs⟩:=zC5 hq
  have ecs:=vR Array.toList (jX ecs)
  simp at ecs
  subst ecs
  obtain⟨g0,g1,g2⟩:W.cell? ⟨w1.heap.size,0,none⟩=some (.bool (decide ((zEm qs n).num<0)))/\W.cell? ⟨w1.heap.size,0+1,none⟩=some (.slice A3 n3 c3)/\W.cell? ⟨w1.heap.size,0+2,none⟩=some (.slice A4 n4 c4):=⟨zBf hh 0 _ rfl,zBf hh 1 _ rfl,zBf hh 2 _ rfl⟩
  simp only[uM]at g1 g2
  have hc2:=h2.cell
  have q0:W.cell? ⟨w.heap.size,0,none⟩=some (.bool false):=h3.cell 0
  have q1:W.cell? ⟨w.heap.size,1,none⟩=some (sN):=h3.cell 1
  have q2:W.cell? ⟨w.heap.size,2,none⟩=some (sN):=h3.cell 2
  have q3:=h3.frozen 0;have q4:=h3.frozen 1;have q5:=h3.frozen 2
  go_wp2
  have hb5:q7 (((W.setCell ⟨w.heap.size,0,none⟩ (.bool (decide ((zEm qs n).num<0)))).setCell ⟨w.heap.size,1,none⟩ (.slice A3 n3 c3)).setCell ⟨w.heap.size,2,none⟩ (.slice A4 n4 c4)) w.heap.size 28 #[.bool (decide ((zEm qs n).num<0)),.slice A3 n3 c3,.slice A4 n4 c4]:=((h3.set 0 _).set 1 _).set 2 _
  have hM2:Marks w.heap.size (((W.setCell ⟨w.heap.size,0,none⟩ (.bool (decide ((zEm qs n).num<0)))).setCell ⟨w.heap.size,1,none⟩ (.slice A3 n3 c3)).setCell ⟨w.heap.size,2,none⟩ (.slice A4 n4 c4)) [mark D] [D]:=((Marks.nil w.heap.size W).more (D:=D) fC (by have:=hB1.size;omega) hd).others (((bR _ _ _).trans (bR _ _ _)).trans (bR _ _ _))
  have hrow:∀(W':WB) (i:Nat) (v u:WE),W'.cell? ⟨w.heap.size,i,none⟩=some u->zY u=true->y7 W' (W'.setCell ⟨w.heap.size,i,none⟩ v):=fun W' i v u hu hn p x hp=>(nQ _ _ _ _ (fun e=>by rw[<-e]at hp;rw[hu]at hp;cases hp;cases hn)).trans hp
  have hk3:y7 W (((W.setCell ⟨w.heap.size,0,none⟩ (.bool (decide ((zEm qs n).num<0)))).setCell ⟨w.heap.size,1,none⟩ (.slice A3 n3 c3)).setCell ⟨w.heap.size,2,none⟩ (.slice A4 n4 c4)):=((hrow _ _ _ _ q0 rfl).trans (hrow _ _ _ _ ((h3.set 0 _).cell 1) rfl)).trans (hrow _ _ _ _ (((h3.set 0 _).set 1 _).cell 2) rfl)
  have hq3:=hq.keepU hk3
  have hb3:bW w (((W.setCell ⟨w.heap.size,0,none⟩ (.bool (decide ((zEm qs n).num<0)))).setCell ⟨w.heap.size,1,none⟩ (.slice A3 n3 c3)).setCell ⟨w.heap.size,2,none⟩ (.slice A4 n4 c4)):=((h4.setCell lr _).setCell lr _).setCell lr _
  generalize((W.setCell ⟨w.heap.size,0,none⟩ (.bool (decide ((zEm qs n).num<0)))).setCell ⟨w.heap.size,1,none⟩ (.slice A3 n3 c3)).setCell ⟨w.heap.size,2,none⟩ (.slice A4 n4 c4)=W9 at*
  refine qH _ (v:=.agg #[.bool (decide ((zEm qs n).num<0)),.slice A3 n3 c3,.slice A4 n4 c4]) (fun w' ho'=>?_) [D] _ _ hM2 (Oth.refl _ _) ?_
  .have h7:=hb5.oth ho'
   have:=zHB (P:=prog) (w:=w') (t:=28) (k:=3) kA (vs:=[.bool (decide ((zEm qs n).num<0)),.slice A3 n3 c3,.slice A4 n4 c4]) rfl h7
   simp[results,results52,asAddr,this]
  .intro w' ho
   exact⟨_,rfl,hq3.keepU (fun p x hp=>(ho.cell p).trans hp),zAh hb3 ho lr⟩
theorem zQE(m M:Nat)(A:WG Addr)(n c:Nat)(qs:List Rat)(w:WB)(h:QRd m w A n qs)(hn:n<=c)(hc:c<=9223372036854775807)(hm:m<=2000)(hm0:0<m)(hM:M+m+1<=2000)(hp:∀k,k<=n->QB (q9 qs k) M)(hT:Tab w):
  Calls prog 80 #[.slice A n c] w (Ret w (fQN (q9 qs n)).tS):=by
 refine q6 func80 rfl ?_
 simp only[ntmps80,bN,lU,mP,Nat.reduceAdd,Nat.reduceSub,mQ,mR,mS,mT,lS,mM]
 go_wp2_with (first|(go_at_call 51;refine(zQz 1 dA).mono ?_;rintro e w1 ⟨v1,rfl,hv1,hb1⟩;obtain⟨A1,n1,c1,A2,n2,c2,rfl⟩:=zC5 hv1)|(go_at_call 77;refine(zLn A n c _).mono ?_;rintro e w3 ⟨rfl,rfl⟩))
 have hv2:QNp 1 (.agg #[.bool false,.slice A1 n1 c1,.slice A2 n2 c2]) w1:=hv1
 obtain⟨W0,hW0⟩:∃W0,(((w1.alloc (.cells #[.bool false,.slice A1 n1 c1,.slice A2 n2 c2] 98)).alloc (.cells #[pO w1.heap.size 0] 96)).alloc (.cells #[.slice A n c] 73))=W0:=⟨_,rfl⟩
 have hsz:W0.heap.size=w1.heap.size+3:=by rw[<-hW0];simp
 have hbw1:bW w w1:=((xG _ w).alloc lr _).trans (hb1.mono fC)
 have hsz1:w.heap.size<w1.heap.size:=vV fC hb1.size
 have hb01:bW w1 W0:=by rw[<-hW0];exact(((xG _ w1).alloc lr _).alloc fC _).alloc fM _
 have hB1:bW w W0:=hbw1.trans (hb01.mono hbw1.size)
 have x0:zS9 W0 w1.heap.size 1:=⟨[_,_,_],(by rw[<-hW0];exact((q7.new w1 _ #[.bool false,.slice A1 n1 c1,.slice A2 n2 c2]).alloc _).alloc _),hv2.keepU (zR hb01)⟩
 have x1:Boxed W0 (w1.heap.size+1) 96 (pO w1.heap.size 0):=by rw[<-hW0];exact(zAG _ _ _ fC).alloc _
 have x2:Boxed W0 (w1.heap.size+1+1) 73 (.slice A n c):=by rw[<-hW0];exact zAG _ _ _ fC
 have x3:q7 W0 w.heap.size 28 #[.bool false, sN, sN]:=(q7.kept (q7.kept (q7.new w _ _) hb1) hb01)
 rw[hW0]
 clear hW0
 have hSb:∀b,(b<w.heap.size∨b=w1.heap.size+1+1)->b<W0.heap.size:=fun b hb=>by have:=hbw1.size;omega
 refine zCt (gf:=101) rfl (enters_of func101 kA rfl) (zG1 m hm A n c qs (w1.heap.size+1+1) w W0 h hT hB1 hn hc x2.cell (S:=fun b=>b<w.heap.size∨b=w1.heap.size+1+1) hSb (.inr rfl) (fun b hb=>.inl hb)) ?hE ?hps zGA.trans (zH8 hSb)
  (zVd w w1.heap.size (w1.heap.size+1) (q9 qs)) (zEf w _ _ _ hB1.size) (zCo (zEf w _ _ _ lr)) wT (fun _ _ _ _ _ _ _ _=>trivial) ⟨x0,x1,x3,hB1,oA,hsz1⟩
  (fun _ xs=>{ tmps:=#[.slice A n c,undef,pO w.heap.size 0,.pointer (some ⟨w1.heap.size+1,0,none⟩),xs.getD 0 undef,.agg #[.bool false,.slice A1 n1 c1,.slice A2 n2 c2],.agg #[.bool false,.slice A1 n1 c1,.slice A2 n2 c2],pO w1.heap.size 0,.slice A n c,.func (.func 101) #[] #[.pointer (some ⟨w1.heap.size+1+1,0,none⟩)],xs.getD 0 undef,undef,undef,undef,undef,undef,undef,undef],defers:=[] }) ?assign ?body ?done
 case hE=>
  rintro k xs W l o o' ⟨B,rfl,h1,h2⟩ ho hc
  exact⟨B,rfl,h1,h2.abide (C:=0) (eO W l o') (fun r e=>by cases e;exact⟨vS _,o,ho,hc⟩)⟩
 case hps=>
  rintro k xs W ⟨B,rfl,_⟩
  rfl
 case assign=>
  rintro lp k xs W K ⟨B,rfl,h1,h2⟩ hK
  gi_wp2
  exact hK
 case body=>
  rintro lp k xs W hk ⟨h1,h2,h3,h4,h5,h6⟩ ⟨B,rfl,hB,hnb⟩
  have hc2:=h2.cell
  have hne:B≠w1.heap.size:=oA
  have hbd:=hp k (nL hk)
  have hbd2:QB (qAt qs k) m:=by
   obtain⟨_,_,_,_,_,q,_,_,_,_,e,hr⟩:=h.cells k hk
   rw[show qAt qs k=q from by simp[qAt,e]]
   exact hr.qb hm0
  have hTW:Tab W:=hT.below h4
  gi_wp2_with (gi_at_call 109;refine bG (bB.2 (by
   obtain⟨cs,g1,g2⟩:=h1
   obtain⟨cs',g1',g2'⟩:=hnb
   exact zRb g1 g2 g1' g2' hne hbd hbd2 oA hTW)) ?_;rintro e w3 ⟨u,rfl,_,hg3,cs3,hh3,hc3,_⟩)
  refine⟨(eJ hg3 (fun j o e ho=>by cases e;obtain⟨cs,g1,_⟩:=h1;rw[g1]at ho;cases ho;rfl)).from _,⟨(y8.refl _ _).grown hg3 (fun b hb=>⟨by have:=h4.size;rcases hb with hb|hb<;>omega,fun e=>by have:=nM e;omega⟩),hg3.size⟩,⟨cs3,hh3,hc3⟩,h2.kept hg3 (fun e=>by have:=nM e;omega),(hg3.block _ h3.lt (fun e=>by have:=nM e;omega)).trans h3,zA3 h4 hg3 h4.size oA,xR h5 hg3.size,h6⟩
 case done=>
  rintro D W hD ⟨h1,h2,h3,h4,h5,h6⟩ _ hd
  obtain⟨cs,hh,hq⟩:=h1
  obtain⟨A3,n3,c3,A4,n4,c4,ecs⟩:=zC5 hq
  have ecs:=vR Array.toList (jX ecs)
  simp at ecs
  subst ecs
  obtain⟨g0,g1,g2⟩:W.cell? ⟨w1.heap.size,0,none⟩=some (.bool (decide ((q9 qs n).num<0)))/\W.cell? ⟨w1.heap.size,0+1,none⟩=some (.slice A3 n3 c3)/\W.cell? ⟨w1.heap.size,0+2,none⟩=some (.slice A4 n4 c4):=⟨zBf hh 0 _ rfl,zBf hh 1 _ rfl,zBf hh 2 _ rfl⟩
  simp only[uM]at g1 g2
  have hc2:=h2.cell
  have q0:W.cell? ⟨w.heap.size,0,none⟩=some (.bool false):=h3.cell 0
  have q1:W.cell? ⟨w.heap.size,1,none⟩=some (sN):=h3.cell 1
  have q2:W.cell? ⟨w.heap.size,2,none⟩=some (sN):=h3.cell 2
  have q3:=h3.frozen 0;have q4:=h3.frozen 1;have q5:=h3.frozen 2
  go_wp2
  have hb5:q7 (((W.setCell ⟨w.heap.size,0,none⟩ (.bool (decide ((q9 qs n).num<0)))).setCell ⟨w.heap.size,1,none⟩ (.slice A3 n3 c3)).setCell ⟨w.heap.size,2,none⟩ (.slice A4 n4 c4)) w.heap.size 28 #[.bool (decide ((q9 qs n).num<0)),.slice A3 n3 c3,.slice A4 n4 c4]:=((h3.set 0 _).set 1 _).set 2 _
  have hM2:Marks w.heap.size (((W.setCell ⟨w.heap.size,0,none⟩ (.bool (decide ((q9 qs n).num<0)))).setCell ⟨w.heap.size,1,none⟩ (.slice A3 n3 c3)).setCell ⟨w.heap.size,2,none⟩ (.slice A4 n4 c4)) [mark D] [D]:=((Marks.nil w.heap.size W).more (D:=D) fC (by have:=hB1.size;omega) hd).others (((bR _ _ _).trans (bR _ _ _)).trans (bR _ _ _))
  have hrow:∀(W':WB) (i:Nat) (v u:WE),W'.cell? ⟨w.heap.size,i,none⟩=some u->zY u=true->y7 W' (W'.setCell ⟨w.heap.size,i,none⟩ v):=fun W' i v u hu hn p x hp=>(nQ _ _ _ _ (fun e=>by rw[<-e]at hp;rw[hu]at hp;cases hp;cases hn)).trans hp
  have hk3:y7 W (((W.setCell ⟨w.heap.size,0,none⟩ (.bool (decide ((q9 qs n).num<0)))).setCell ⟨w.heap.size,1,none⟩ (.slice A3 n3 c3)).setCell ⟨w.heap.size,2,none⟩ (.slice A4 n4 c4)):=((hrow _ _ _ _ q0 rfl).trans (hrow _ _ _ _ ((h3.set 0 _).cell 1) rfl)).trans (hrow _ _ _ _ (((h3.set 0 _).set 1 _).cell 2) rfl)
  have hq3:=hq.keepU hk3
  have hb3:bW w (((W.setCell ⟨w.heap.size,0,none⟩ (.bool (decide ((q9 qs n).num<0)))).setCell ⟨w.heap.size,1,none⟩ (.slice A3 n3 c3)).setCell ⟨w.heap.size,2,none⟩ (.slice A4 n4 c4)):=((h4.setCell lr _).setCell lr _).setCell lr _
  generalize((W.setCell ⟨w.heap.size,0,none⟩ (.bool (decide ((q9 qs n).num<0)))).setCell ⟨w.heap.size,1,none⟩ (.slice A3 n3 c3)).setCell ⟨w.heap.size,2,none⟩ (.slice A4 n4 c4)=W9 at*
  refine qH _ (v:=.agg #[.bool (decide ((q9 qs n).num<0)),.slice A3 n3 c3,.slice A4 n4 c4]) (fun w' ho'=>?_) [D] _ _ hM2 (Oth.refl _ _) ?_
  .have h7:=hb5.oth ho'
   have:=zHB (P:=prog) (w:=w') (t:=28) (k:=3) kA (vs:=[.bool (decide ((q9 qs n).num<0)),.slice A3 n3 c3,.slice A4 n4 c4]) rfl h7
   simp[results,results80,asAddr,this]
  .intro w' ho
   exact⟨_,rfl,hq3.keepU (fun p x hp=>(ho.cell p).trans hp),zAh hb3 ho lr⟩
def fQS(m:Nat)(qs:List Rat):SF:=⟨fun v W=>∃A c,v=.slice A qs.length c/\qs.length<=c/\c<=9223372036854775807/\QRd m W A qs.length qs,fun _ _ _ ⟨A,c,h1,h2,h3,h4⟩ hb=>⟨A,c,h1,h2,h3,h4.below hb⟩⟩
theorem zSf(s s':Bool)(A A' D D':WG Addr)(n n' c c' i J j I:Nat):yI prog 73 2 [(0,.agg #[.bool s,.slice A n c,.slice D i j]),(1,.agg #[.bool s',.slice A' n' c',.slice D' J I])]=some (28,#[.bool s,.slice A n c,.slice D i j,.bool s',.slice A' n' c',.slice D' J I]):=fJ
theorem zFW(hu:RVp m p u W)(J:RVp m q v W):∃e cs,yI prog 73 2 [(0,u),(1,v)]=some (e,cs)/\(fQS m [p,q]).p (.slice (some ⟨W.heap.size,0,none⟩) 2 2) (W.alloc (.cells cs e)):=by
 obtain⟨k,d,h1,h2⟩:=id hu
 obtain⟨k',d',I,h2'⟩:=id J
 obtain⟨s,A,n,c,D,i,j,rfl⟩:=zET h1
 obtain⟨s',A',n',c',O,i',U,rfl⟩:=zET I
 refine⟨_,_,zSf s s' A A' D O n n' c c' i i' j U,some ⟨W.heap.size,0,none⟩,2,rfl,vQ _,fH,rfl,fun x hx=>?_⟩
 have hb:=zCs W (.cells #[.bool s,.slice A n c,.slice D i j,.bool s',.slice A' n' c',.slice O i' U] 28)
 rcases(by simp at hx;omega:x=0∨x=1)with rfl|rfl
 .exact⟨_,0,_,_,_,p,rfl,zBw W _ _ 0 _ rfl,zBw W _ _ 1 _ rfl,zBw W _ _ 2 _ rfl,rfl,hu.below hb⟩
 .exact⟨_,0,_,_,_,q,rfl,zBw W _ _ 3 _ rfl,zBw W _ _ 4 _ rfl,zBw W _ _ 5 _ rfl,rfl,J.below hb⟩
theorem zVQ(M:Nat)(h:(fQS m qs).p v W)(I:0<m)(hM:M+m+1<=2000)(O:∀k,k<=qs.length->QB (zEm qs k) M)(J:Tab W):Calls prog 52 #[v] W (Ret W (fQN (zEm qs qs.length)).tS):=by
 obtain⟨A,c,rfl,U,h2,h3⟩:=h
 exact zQF m M A qs.length c qs W h3 U h2 oA I hM O J
theorem zTL(M:Nat)(h:(fQS m qs).p v W)(I:0<m)(hM:M+m+1<=2000)(O:∀k,k<=qs.length->QB (q9 qs k) M)(J:Tab W):Calls prog 80 #[v] W (Ret W (fQN (q9 qs qs.length)).tS):=by
 obtain⟨A,c,rfl,U,h2,h3⟩:=h
 exact zQE m M A qs.length c qs W h3 U h2 oA I hM O J
theorem QB.zero(I:0<m):QB 0 m:=⟨uO qC,zEo I⟩
theorem QB.one(I:0<m):QB 1 m:=⟨zEo I,zEo I⟩
theorem zT8(p q:Rat):zEm [p,q] 2=p+q:=by
 show(0+p)+q=_
 rw[Rat.zero_add]
theorem zNY(p q:Rat):q9 [p,q] 2=p*q:=by
 show(1*p)*q=_
 rw[zZW]
theorem zJ2(h:(fQS m [p,q]).p v W)(I:QB p m)(O:QB q m)(hm:3*m+2<=2000)(U:Tab W):Calls prog 52 #[v] W (Ret W (fQN (p+q)).tS):=by
 have:=zVQ (m+m+1) h I.pos oA (fun k J=>by
  rcases(by simp at J;omega:k=0∨k=1∨k=2)with rfl|rfl|rfl
  .exact QB.zero oA
  .show QB (0+p) _
   rw[Rat.zero_add]
   exact I.mono oA
  .rw[zT8]
   exact I.add O) U
 rw[show([p,q]:List Rat).length=2 from rfl,zT8]at this
 exact this
theorem zNz(h:(fQS m [p,q]).p v W)(I:QB p m)(O:QB q m)(hm:3*m+2<=2000)(U:Tab W):Calls prog 80 #[v] W (Ret W (fQN (p*q)).tS):=by
 have:=zTL (m+m) h I.pos oA (fun k J=>by
  have:=I.pos
  rcases(by simp at J;omega:k=0∨k=1∨k=2)with rfl|rfl|rfl
  .exact QB.one oA
  .show QB (1*p) _
   rw[zZW]
   exact I.mono oA
  .rw[zNY]
   exact I.mul O) U
 rw[show([p,q]:List Rat).length=2 from rfl,zNY]at this
 exact this
theorem zTQ(p q:Rat):mkRat ((p).num*(if decide ((q).num<0)then -((q).den:Int)else((q).den:Int))) ((p).den*(q).num.natAbs)=p/q:=by
 have hp:p=(p.num:Rat)/(p.den:Rat):=by
  have:=sE p
  rw[Rat.mkRat_eq_div]at this
  exact this.symm
 have I:q⁻¹=mkRat (if decide (q.num<0)then -(q.den:Int)else(q.den:Int)) q.num.natAbs:=by
  rw[Rat.inv_def]
  by_cases h:q.num<0
  .rw[lH h,if_pos rfl,<-sI,<-Rat.divInt_neg']
   congr 1
   omega
  .rw[xZ h,if_neg dA,<-sI]
   congr 1
   omega
 rw[rV,I]
 conv=>rhs;rw[<-sE p]
 rw[Rat.mkRat_mul_mkRat]
theorem zSi(h:RVp m q v W)(h':RVp m q' v' W)(hm:m<=650)(I:0<m)(hT:Tab W):Calls prog 79 #[v,v'] W (Ret W (fQN (q-q')).tS):=by
 have hq:QB q m:=h.qb I
 have J:QB q' m:=h'.qb I
 refine zZ [(fRV m q).tS,(fRV m q').tS] func79 rfl kA ⟨h,h',trivial⟩ fun a s=>lP<|rgK 0 [] s
  zB fun a w1 s=>yL (CU.agg (fRV m q)) rfl s kA (fun v W h=>zAm h) fun b2 a w s=>yL (CU.agg (fRV m q')) rfl s kA (fun v W h=>zAm h) fun b3 a w s=>zX (CU.len 3) (cs:=zR3) kA rfl s kA (fun W=>rfl) rfl fun b4 a w s=>zD rfl<|lP<|yJ [] 5 ((5,.Z (fRV m q))::(6,.Z (fRV m q'))::(7,.Z (fQN (-q')))::(8,.s (fQS m [q,(-q')]))::(9,.u (fQN (q+ -q')))::[]) hmix s kA
  (oc (zT (f:=fRV m q) 3 kA (hz:=qS _ _))<|oc (zT (f:=fRV m q') 3 kA (hz:=qS _ _))<|oc (zG zC zW6 (fun O W hb (U:RVp m q' O W)=>zVR U oA I (hT.below (s.up hb))))<|oc (z9 (fun u v W (hu:RVp m q u W) (hv:QNp (-q') v W)=>zFW hu (wH hv J.neg)))<|oc (zG zC zUM (fun O W hb (U:(fQS m [q,(-q')]).p O W)=>zJ2 U hq J.neg oA (hT.below (s.up hb))))<|zB) fun Q' hQ a w2 s=>zM (fQN (q+ -q')) rfl s zW fun a w s=>zD rfl (hQ _ _ ?_)
 exact pS<|wK s (CU.agg (fQN (q+ -q'))) rfl kA rfl rfl (yW _) (fun cs W h=>by rw[sJ];exact h)
theorem zQM(h:NV W v k)(O:NV W v' k):Calls prog 98 #[v,v'] W (Ret W (fB true).tS):=by
 obtain⟨A,n,c,l,rfl,U,h2⟩:=h
 obtain⟨A',n',c',l',rfl,I,J⟩:=O
 refine(zMo _ A n c l _ A' n' c' l' W h2 J).mono fun e w' ⟨e1,hb⟩=>⟨_,e1,?_,hb⟩
 rw[U.inj I]
 simp[fB,UF.eq,UF.mk']
theorem zQP(h:qN W v x)(O:qN W v' x):Calls prog 99 #[v,v'] W (Ret W (fB true).tS):=by
 obtain⟨A,n,c,l,rfl,h1,h2⟩:=h
 obtain⟨A',n',c',l',rfl,I,J⟩:=O
 refine(zIT A n c l A' n' c' l' W h2 J).mono fun e w' ⟨e1,U,hw⟩=>⟨_,e1,?_,?_⟩
 .rw[h1.inj I]
  simp[fB,UF.eq,UF.mk']
 .subst hw
  exact zRP U
def UVx(n:Nat)(k:Int)(v:WE)(w:WB):Prop:=∃s A c l,v=.agg #[.bool s,.slice A n c]/\Rd w A n c l/\Lt l/\iv s l=k
def LVx(n x:Nat)(v:WE)(w:WB):Prop:=∃A c l,v=.slice A n c/\Rd w A n c l/\Lt l/\val l=x
def QXp(n n':Nat)(k:Int)(d:Nat)(v:WE)(w:WB):Prop:=∃b s t,v=.agg #[b,s,t]/\UVx n k (.agg #[b,s]) w/\LVx n' d t w
def fQX(n n':Nat)(k:Int)(d:Nat):UF:=.mk' (QXp n n' k d) fun _ _ _ ⟨b,s,t,e,⟨sg,A,c,l,e1,h1,h2⟩,A',c',l',e2,h1',h2'⟩ u=>⟨b,s,t,e,⟨sg,A,c,l,e1,h1.keepU u,h2⟩,A',c',l',e2,h1'.keepU u,h2'⟩
theorem zXU(h:QXp n n' k d v W)(h1:n<=m)(h2:n'<=m):QVp m k d v W:=by
 obtain⟨b,s,t,e,⟨sg,A,c,l,e1,U,g2,g3⟩,A',c',l',e2,O,J,I⟩:=h
 exact⟨b,s,t,e,⟨sg,A,n,c,l,e1,U,g2,h1,g3⟩,A',n',c',l',e2,O,J,h2,I⟩
theorem zSm(cs:List WE)(W:WB)(h:(CU.agg (fQX n n' k d)).p cs W):∃u,cs[1]?=some u/\∃A c,u=.slice A n c:=by
 obtain⟨b,s,t,e,⟨sg,A,c,l,I,_⟩,_⟩:=h
 rw[zBc e]
 have:=vR Array.toList (jX I)
 simp at this
 exact⟨s,rfl,A,c,this.2⟩
theorem zSl(cs:List WE)(W:WB)(h:(CU.agg (fQX n n' k d)).p cs W):∃u,cs[2]?=some u/\∃A c,u=.slice A n' c:=by
 obtain⟨b,s,t,e,_,A,c,l,I,_⟩:=h
 rw[zBc e]
 exact⟨t,rfl,A,c,I⟩
def fSl(n:Nat):UF:=.mk' (fun v _=>∃A c,v=.slice A n c) fun _ _ _ h _=>h
theorem zLg(h:QNp q v W)(U:QNp q v' W):Calls prog 75 #[v,v'] W (Ret W (fB true).tS):=by
 refine zZ [(fQN q).tS,(fQN q).tS] func75 rfl kA ⟨h,U,trivial⟩ fun a s=>lP<|rgK 0 [] s
  zB fun a w1 s=>yL (CU.agg (fQN q)) rfl s kA (fun v W h=>zLl h) fun b2 a w s=>yL (CU.agg (fQN q)) rfl s kA (fun v W h=>zLl h) fun b3 a w s=>yQ (uB false) rfl s kA iiz fun a w s=>zD rfl<|lP ?_
 replace s:=s.drop [4]
 exact rgE ((5,.X (fQN q) 0)::(6,.Z (fNV ((q).num)))::(7,.X (fQN q) 0)::(8,.Z (fNV ((q).num)))::(9,.Z (uB true))::(10,.Z (uB true))::(11,.X (fQN q) 2)::(12,.Z (qZ ((q).den)))::(13,.X (fQN q) 2)::(14,.Z (qZ ((q).den)))::(15,.Z (uB true))::(16,.Z (uB true))::(4,.u (uB true))::[]) s
  (oc (zL (C:=cg (fQN q)) 0 kA)<|oc (zQ (C:=cg (fQN q)) (k:=0) 2 kA (h:=zBl))<|oc (zL (C:=cg (fQN q)) 0 kA)<|oc (zQ (C:=cg (fQN q)) (k:=0) 2 kA (h:=zBl))<|oc (zH zC zYg (fun O J W hb (I:NV W O ((q).num)) (h1:NV W J ((q).num))=>zQM I h1))<|oc zA<|oc (zE 10 true kA iiz (fun _=>zL (C:=cg (fQN q)) 2 kA) arf)<|oc (zE 10 true kA iiz (fun _=>jP (C:=cg (fQN q)) (k:=2) kA (h:=zA8)) arf)<|oc (zE 10 true kA iiz (fun _=>zL (C:=cg (fQN q)) 2 kA) arf)<|oc (zE 10 true kA iiz (fun _=>jP (C:=cg (fQN q)) (k:=2) kA (h:=zA8)) arf)<|oc (zE 10 true kA iiz (fun _=>zH zC zYf (fun O J W hb (I:qN W O ((q).den)) (h1:qN W J ((q).den))=>zQP I h1)) arf)<|oc (yC true iiz (fun _ _ _ h=>h) fS)<|oc zF<|zB) fun a w2 s=>pS<|wF s (t:=4) rfl iiz
structure QX where
 n:Nat
 n':Nat
 k:Int
 d:Nat
abbrev QX.cu(x:QX):CU:=CU.agg (fQX x.n x.n' x.k x.d)
def zXV(L:List QX)(k:Nat):Nat:=((L.take k).map fun x=>min (x.n+x.n') 1000).sum
def gq(L:List QX):Bool:=decide (((L.map QX.cu).length:Int)>60)||decide (((zXV L (min (L.map QX.cu).length 61):Nat):Int)>40)
theorem wrap64(u:Int)(r:Nat)(h:u=r)(hr:r<9223372036854775808):IntKind.i64.wrap u=r:=by
 subst h
 rw[sT]
 omega
def T2(m:Nat)(op:Rat->Rat->Rat)(xs:Array WE)(W:WB)(R:SF):Prop:=∃u v p q,xs=#[u,v]/\RVp m p u W/\RVp m q v W/\Tab W/\R=(fQN (op p q)).tS
def T3(m:Nat)(op:Rat->Rat->Rat)(xs:Array WE)(W:WB)(R:SF):Prop:=∃u v,∃p q:V2,xs=#[u,v]/\(fPV m p).p u W/\(fPV m q).p v W/\Tab W/\R=(fPN (op p.1 q.1,op p.2 q.2)).tS
def G1(g:FuncId)(m:Nat)(op:Rat->Rat->Rat):Prop:=∀(W:WB) (s:WE) (p q:Rat),(fQS m [p,q]).p s W->QB p m->QB q m->Tab W->Calls prog g #[s] W (Ret W (fQN (op p q)).tS)
theorem zAS:∀cs W,(wD [u]).p cs W->∃x,cs[0]?=some x/\(UF.eq u).p x W:=fun cs W h=>by
 obtain rfl:cs=[u]:=h
 exact⟨u,rfl,rfl⟩
theorem zG5(h:v=u)(I:u.cells=#[u])(J:zY u=true:=by rfl):(wD [u]).p v.cells.toList W/\v.cells.toList.all zY=true:=by
 subst h
 rw[I]
 exact⟨rfl,by simp[J]⟩
section
variable {F:Fence}{m:Nat}{P:WH}{w0:WB}{ops:Array Oper}{G:Nat->SF}{d:Tmp}{ty:WF}{pos:String}{aft:Array Edge}
end
theorem zWq(J:m<=650)(I:0<m)(W:WB):(SF.fn prog (T2 m (· - ·))).p (.func (.func 79) #[] #[]) W:=
 zSI (enters_of func79 kA rfl) fun W' _ args R ⟨u,v,p,q,e,U,h2,O,hR⟩=>by
  subst e hR
  simpa using zSi U h2 J I O
theorem zSv{F:Fence}{P:WH}{w0:WB}{ops:Array Oper}{G:Nat->SF}{d:Tmp}{ty:WF}{pos:String}{aft:Array Edge}{y x I:WL}{ats:Array WF}(T:Array WE->WB->SF->Prop)(hF:zJQ F m P)(O:∀v W,bW w0 W->(fct G y).p v W->(SF.fn P T).p v W)(h:∀u v W,bW w0 W->(fct G x).p u W->(fct G I).p v W->T #[u,v] W (G d)):qO F m P w0 ops G ⟨some d,.call ⟨.value y,#[x,I],ats⟩,ty,pos,aft,none⟩:=
 zOr T hF O fun b W hb J=>by simpa using h _ _ W hb (J x fC) (J I fC)
theorem zQ2{b:WE}{p q:V2}(h1:(fPV m p).p u W)(h2:(fPV m q).p v W)(hb:(wC (wD [f]).cf).p b W)(I:(SF.fn prog (T2 m op)).p f W)(J:Tab W):Calls prog 110 #[u,v,b] W (Ret W (fPN (op p.1 q.1,op p.2 q.2)).tS):=by
 refine zZ [(fPV m p).tS,(fPV m q).tS,wC (wD [f]).cf] func110 rfl kA ⟨h1,h2,hb,trivial⟩ fun a s=>lP<|rgK 0 [] s
  zB fun a w1 s=>yL (CU.agg (fPV m p)) rfl s kA (fun v W h=>yV h) fun b3 a w s=>yL (CU.agg (fPV m q)) rfl s kA (fun v W h=>yV h) fun b4 a w s=>zX (CU.len 6) (cs:=zP6) kA rfl s kA (fun W=>rfl) rfl fun b5 a w s=>zD rfl<|lP<|yJ [] 13 ((6,.Z (UF.eq f))::(7,.X (fPV m p) 0)::(8,.Z (fRV m ((p).1)))::(9,.X (fPV m q) 0)::(10,.Z (fRV m ((q).1)))::(11,.Z (fQN (op (p).1 (q).1)))::(12,.Z (UF.eq f))::(13,.X (fPV m p) 3)::(14,.Z (fRV m ((p).2)))::(15,.X (fPV m q) 3)::(16,.Z (fRV m ((q).2)))::(17,.Z (fQN (op (p).2 (q).2)))::(18,.u (fPN (op p.1 q.1,op p.2 q.2)))::[]) hmix s kA
  (oc (qE (C:=(wD [f]).cf) kA iiz zAS)<|oc (zL (C:=cg (fPV m p)) 0 kA)<|oc (zQ (C:=cg (fPV m p)) (k:=0) 3 kA (h:=zFc))<|oc (zL (C:=cg (fPV m q)) 0 kA)<|oc (zQ (C:=cg (fPV m q)) (k:=0) 3 kA (h:=zFc))<|oc (zSv (T2 m op) zC (fun v W hb h=>by rw[show v=f from h];exact(SF.fn prog (T2 m op)).st _ _ _ I (s.up hb)) (fun u v W hb (h1:RVp m ((p).1) u W) (h2:RVp m ((q).1) v W)=>⟨u,v,_,_,rfl,h1,h2,J.below (s.up hb),rfl⟩))<|oc (qE (C:=(wD [f]).cf) kA iiz zAS)<|oc (zL (C:=cg (fPV m p)) 3 kA)<|oc (zQ (C:=cg (fPV m p)) (k:=3) 3 kA (h:=zDL))<|oc (zL (C:=cg (fPV m q)) 3 kA)<|oc (zQ (C:=cg (fPV m q)) (k:=3) 3 kA (h:=zDL))<|oc (zSv (T2 m op) zC (fun v W hb h=>by rw[show v=f from h];exact(SF.fn prog (T2 m op)).st _ _ _ I (s.up hb)) (fun u v W hb (h1:RVp m ((p).2) u W) (h2:RVp m ((q).2) v W)=>⟨u,v,_,_,rfl,h1,h2,J.below (s.up hb),rfl⟩))<|oc (q8 (fun u v W (O:QNp (op (p).1 (q).1) u W) (hv:QNp (op (p).2 (q).2) v W)=>zU1 (zBe _) (zBe _) O hv))<|zB) fun Q' U a w2 s=>zM (fPN (op p.1 q.1,op p.2 q.2)) rfl s yY fun a w s=>zD rfl (U _ _ ?_)
 exact pS<|wK s (CU.agg (fPN (op p.1 q.1,op p.2 q.2))) rfl kA rfl rfl (y9 _ _) (fun cs W h=>h)
theorem zUe(J:(SF.fn prog (T2 m op)).p f W):Calls prog 81 #[f] W (Ret W (SF.fn prog (T3 m op))):=by
 have I:f.cells=#[f]/\zY f=true:=by obtain⟨g,caps,rfl,_⟩:=J;exact⟨rfl,rfl⟩
 refine zZ [(UF.eq f).tS] func81 rfl kA ⟨rfl,trivial⟩ fun a s=>lP<|rgK 0 [] s
  zB fun a w1 s=>yL (wD [f]) rfl s kA (fun v W h=>zG5 h I.1 I.2) fun O a w s=>yQ (UF.eq (.nilFunc)) rfl s kA iiz fun a w s=>zD rfl<|lP ?_
 replace s:=s.drop [2]
 exact rgN ((3,.s (SF.fn prog (T3 m op)))::(2,.s (SF.fn prog (T3 m op)))::[]) s
  (oc (zLv (fun u W hb (h:(wL O (wD [f]).cf).p u W)=>zSI (enters_of func110 kA rfl) (fun W' hb' args R ⟨u1,v1,p,q,e,h1,h2,U,hR⟩=>by subst e hR;simpa using zQ2 h1 h2 ((wC (wD [f]).cf).st _ _ _ h.2 hb') ((SF.fn prog (T2 m op)).st _ _ _ ((SF.fn prog (T2 m op)).st _ _ _ J (s.up hb)) hb') U)))<|oc zF<|zB) fun a w2 s hr=>pS<|StS.resN s (xG _ _) rfl (hr (_,_) mz1)
theorem zKJ{p q:V2}(h1:(fPV m p).p u W)(h2:(fPV m q).p v W)(J:m<=650)(I:0<m)(O:Tab W):Calls prog 54 #[u,v] W (Ret W (fPN (p.1-q.1,p.2-q.2)).tS):=by
 refine zZ [(fPV m p).tS,(fPV m q).tS] func54 rfl kA ⟨h1,h2,trivial⟩ fun a s=>lP<|rgK 0 [] s
  zB fun a w1 s=>yL (CU.agg (fPV m p)) rfl s kA (fun v W h=>yV h) fun b2 a w s=>yL (CU.agg (fPV m q)) rfl s kA (fun v W h=>yV h) fun b3 a w s=>zX (CU.len 6) (cs:=zP6) kA rfl s kA (fun W=>rfl) rfl fun b4 a w s=>zD rfl<|lP<|yJ [] 4 ((5,.s (SF.fn prog (T3 m (· - ·))))::(6,.Z (fPV m p))::(7,.Z (fPV m q))::(8,.u (fPN (p.1-q.1,p.2-q.2)))::[]) hmix s kA
  (oc (zG zC zYp (fun U W hb h0=>by rw[show U=_ from h0];exact zUe (zWq J I W)))<|oc (zK m p)<|oc (zK m q)<|oc (zWd (T3 m (· - ·)) zC iiz (fun u v W hb (h1:(fPV m p).p u W) (h2:(fPV m q).p v W)=>⟨u,v,p,q,rfl,h1,h2,O.below (s.up hb),rfl⟩))<|zB) fun Q' hQ a w2 s=>zM (fPN (p.1-q.1,p.2-q.2)) rfl s yY fun a w s=>zD rfl (hQ _ _ ?_)
 exact pS<|wK s (CU.agg (fPN (p.1-q.1,p.2-q.2))) rfl kA rfl rfl (y9 _ _) (fun cs W h=>h)
theorem zHl{p q:V2}(h1:(fPV m p).p u W)(h2:(fPV m q).p v W)(U:QB p.1 m/\QB p.2 m)(O:QB q.1 m/\QB q.2 m)(hm:m<=320)(hm0:0<m)(hT:Tab W):Calls prog 53 #[u,v] W (Ret W (fQN (p.1*q.2-p.2*q.1)).tS):=by
 refine zZ [(fPV m p).tS,(fPV m q).tS] func53 rfl kA ⟨h1,h2,trivial⟩ fun a s=>lP<|rgK 0 [] s
  zB fun a w1 s=>yL (CU.agg (fPV m p)) rfl s kA (fun v W h=>yV h) fun b2 a w s=>yL (CU.agg (fPV m q)) rfl s kA (fun v W h=>yV h) fun b3 a w s=>zX (CU.len 3) (cs:=zR3) kA rfl s kA (fun W=>rfl) rfl fun b4 a w s=>zD rfl<|lP<|yJ [] 13 ((5,.X (fPV m p) 0)::(6,.Z (fRV m ((p).1)))::(7,.X (fPV m q) 3)::(8,.Z (fRV m ((q).2)))::(9,.s (fQS m [(p).1,(q).2]))::(10,.Z (fQN ((p).1*(q).2)))::(11,.X (fPV m p) 3)::(12,.Z (fRV m ((p).2)))::(13,.X (fPV m q) 0)::(14,.Z (fRV m ((q).1)))::(15,.s (fQS m [(p).2,(q).1]))::(16,.Z (fQN ((p).2*(q).1)))::(17,.u (fQN ((p).1*(q).2-(p).2*(q).1)))::[]) hmix s kA
  (oc (zL (C:=cg (fPV m p)) 0 kA)<|oc (zQ (C:=cg (fPV m p)) (k:=0) 3 kA (h:=zFc))<|oc (zL (C:=cg (fPV m q)) 3 kA)<|oc (zQ (C:=cg (fPV m q)) (k:=3) 3 kA (h:=zDL))<|oc (z9 (fun u v W (hu:RVp m ((p).1) u W) (hv:RVp m ((q).2) v W)=>zFW hu hv))<|oc (zG zC zWA (fun I W hb (J:(fQS m [(p).1,(q).2]).p I W)=>zNz J U.1 O.2 oA (hT.below (s.up hb))))<|oc (zL (C:=cg (fPV m p)) 3 kA)<|oc (zQ (C:=cg (fPV m p)) (k:=3) 3 kA (h:=zDL))<|oc (zL (C:=cg (fPV m q)) 0 kA)<|oc (zQ (C:=cg (fPV m q)) (k:=0) 3 kA (h:=zFc))<|oc (z9 (fun u v W (hu:RVp m ((p).2) u W) (hv:RVp m ((q).1) v W)=>zFW hu hv))<|oc (zG zC zWA (fun I W hb (J:(fQS m [(p).2,(q).1]).p I W)=>zNz J U.2 O.1 oA (hT.below (s.up hb))))<|oc (zH zC zYq (fun I u1 W hb (J:QNp ((p).1*(q).2) I W) (h1:QNp ((p).2*(q).1) u1 W)=>zSi (wH J (U.1.mul O.2)) (wH h1 (U.2.mul O.1)) oA oA (hT.below (s.up hb))))<|zB) fun Q' hQ a w2 s=>zM (fQN ((p).1*(q).2-(p).2*(q).1)) rfl s zW fun a w s=>zD rfl (hQ _ _ ?_)
 exact pS<|wK s (CU.agg (fQN (p.1*q.2-p.2*q.1))) rfl kA rfl rfl (yW _) (fun cs W h=>h)
end Go.Proofs.Wd

namespace Lb
set_option maxHeartbeats 2000000
theorem zVo{l:List Nat}(ht:Lt l){j s x:Nat}(hj:j<l.length)(hz:∀i,i<j->lm l i=0)(J:lm l j=2^s*x)(ho:x%2=1):TZ (val l) (32*j+s)/\s<32:=by
 have hb:=qQ ht j
 have U:s<32:=by
  have O:2^s*1<=2^s*x:=uS _ oA
  rw[gK,<-J]at O
  exact(Nat.pow_lt_pow_iff_right dA).1 (mW O (by rw[zY7]at hb;simpa using hb))
 refine⟨?_,U⟩
 have e0:val (l.take j)=0:=by
  rw[zHk oA]
  have:sm (lm l) j=sm (lm l) 0:=zDJ (vS _) fun i _ hi=>hz i hi
  rw[this];rfl
 have I:=j7 l j oA
 rw[e0,uM,zBS hj,J,zHh]at I
 obtain⟨y,hy⟩:∃y,val (l.drop (j+1))=y:=⟨_,rfl⟩
 rw[hy,show BB=2^s*(2*2^(31-s))from by rw[<-gR,<-uC,show s+(31-s+1)=32 from oA];rfl,vX,<-uH,<-vX,<-uC]at I
 refine⟨x/2+2^(31-s)*y,?_⟩
 rw[I]
 congr 1
 rw[uH,<-vX]
 omega
end Lb
namespace Go.Proofs.Wd
open Tryz
open Go.RowKit Lb
variable {W:WB}{a m:Nat}{v:WE}
theorem zP2(A:WG Addr)(n c:Nat)(l:List Nat)(w:WB)(h:Rd w A n c l)(ht:Lt l)(h0:0<val l)(hn:n<=2000):
  ∃q t:Nat,TZ (val l) (32*q+t)/\t<=31/\q<n/\Calls prog 112 #[.slice A n c] w fun e w'=>e=.returned (.int .i64 ((32*q+t:Nat):Int))/\w'=w:=by
 obtain⟨j,hjn,hjz,hj0⟩:∃j,j<n/\(∀i,i<j->lm l i=0)/\lm l j≠0:=by
  have hex:∃j,lm l j≠0:=by
   refine rC fun hc=>?_
   have hz:∀i,lm l i=0:=fun i=>rC fun e=>hc ⟨i,e⟩
   have:sm (lm l) l.length=sm (lm l) 0:=zDJ (vS _) fun i _ _=>hz i
   have e:val l=sm (lm l) l.length:=rfl
   rw[e,this]at h0
   simp[sm]at h0
  have hmin:∀k,(∃j,j<=k/\lm l j≠0)->∃j,(∀i,i<j->lm l i=0)/\lm l j≠0:=by
   intro k
   induction k with
   |zero=>rintro⟨j,hj,e⟩;exact⟨j,fun i hi=>oA,e⟩
   |succ k ih=>
    rintro⟨j,hj,e⟩
    by_cases hk:∃j,j<=k/\lm l j≠0
    .exact ih hk
    .exact⟨j,fun i hi=>rC fun e'=>hk ⟨i,oA,e'⟩,e⟩
  obtain⟨j0,hj0⟩:=hex
  obtain⟨j,h1,h2⟩:=hmin j0 ⟨j0,vQ _,hj0⟩
  refine⟨j,?_,h1,h2⟩
  rw[<-h.len]
  exact Nat.lt_of_not_le fun e=>h2 (zEw e)
 obtain⟨s,hs⟩:=vL (lm l j) oA
 obtain⟨m,hm⟩:=hs
 obtain⟨htz,hs32⟩:=zVo ht (s:=s) (x:=2*m+1) (by rw[h.len];exact hjn) hjz hm oA
 refine⟨j,s,htz,oA,hjn,?_⟩
 have hb:=qQ ht j
 have hle:=h.le;have hcap:=h.cap
 have HJZ:=hid hjz;have HM:=hid hm;have HB:=hid hb
 obtain⟨d,hd⟩:∃d:Nat->Nat,d=fun i=>2^(s-i)*(2*m+1):=⟨_,rfl⟩
 have hd0:d 0=lm l j:=by rw[hd,hm];rfl
 have hds:d s%2=1:=by rw[hd];simp
 have hdi:∀i,i<s->d i%2=0/\d i/2=d (i+1):=fun i hi=>by
  rw[hd]
  show 2^(s-i)*(2*m+1)%2=0/\2^(s-i)*(2*m+1)/2=2^(s-(i+1))*(2*m+1)
  rw[show s-i=(s-(i+1))+1 from oA,gR,vX]
  omega
 have hdl:∀i,d i<=d 0:=fun i=>by
  rw[hd]
  exact uF _ (vZ oA oA)
 have HD0:=hid hd0;have HDS:=hid hds;have HDI:=hid hdi;have HDL:=hid hdl
 clear hd hd0 hds hdi hdl
 have HL:Hid (∀i,lm l i<4294967296):=hid fun i=>qQ ht i
 clear hjz hm htz hb h0
 go_enter func112,ntmps112
 go_wp2
 go_loopw [3,4] (fun t i wr=>∃k:Nat,k<=j/\i=.int .i64 k/\t=.int .i64 ((32*k:Nat):Int)/\wr=w) (fun _ i _=>j-(intOf i).toNat)
 case atStart=>exact⟨0,vS _,rfl,rfl,rfl⟩
 case round=>
  obtain⟨k,hk,rfl,rfl,rfl⟩:=hrel
  obtain⟨b,o,rfl,hc⟩:=h.cells k oA
  by_cases hkj:k<j
  .have hz:=HJZ.out k hkj
   rw[hz]at hc
   clear hz
   go_wp2
   go_roundw
   case rel=>exact⟨k+1,oA,fR,fR,trivial⟩
   case measure=>simp[intOf];omega
  .obtain rfl:k=j:=oA
   have hlk:=HL.out k
   obtain⟨x,hx⟩:∃x,lm l k=x:=⟨_,rfl⟩
   rw[hx]at hc hj0 hlk
   have HX:=hid hx
   clear hx
   have e1:((32*k:Nat):Int).tdiv 32=(k:Int):=by rw[sV oA];omega
   have e2:(((32*k:Nat):Int)/32)=(k:Int):=oA
   have hx2:((x:Int)==0)=false:=by simpa using hj0
   go_wp2
   go_loopw [3,5] (fun t y wr2=>∃i:Nat,i<=s/\t=.int .i64 ((32*k+i:Nat):Int)/\y=.int .u32 (d i:Nat)/\wr2=wr) (fun t _ _=>32*k+s-(intOf t).toNat)
   case atStart=>exact⟨0,vS _,rfl,by rw[HD0.out,HX.out],rfl⟩
   case round=>
    obtain⟨i,hi,rfl,rfl,rfl⟩:=hrel
    have hdx:=HDL.out i
    rw[HD0.out,HX.out]at hdx
    by_cases his:i<s
    .obtain⟨q1,q2⟩:=HDI.out i his
     obtain⟨y,hy⟩:∃y,d i=y:=⟨_,rfl⟩
     rw[hy]at q1 q2 hdx ⊢
     have HY:=hid q2
     clear q2 hy
     go_wp2
     go_roundw
     case rel=>exact⟨i+1,oA,fR,by rw[<-HY.out];go_num,trivial⟩
     case measure=>simp[intOf];omega
    .obtain rfl:i=s:=oA
     have q1:=HDS.out
     obtain⟨y,hy⟩:∃y,d i=y:=⟨_,rfl⟩
     rw[hy]at q1 hdx ⊢
     clear hy
     go_wp2
     go_ret
     exact⟨rfl,rfl⟩
theorem zNy{v':WE}{b:Nat}(h:LV W m v a)(O:LV W m v' b)(hm:m<=100000):Calls prog 57 #[v,v'] W (zPO W (a*b)):=by
 obtain⟨A,n,c,l,rfl,U,h2,h3,rfl⟩:=h
 obtain⟨A',n',c',l',rfl,J,I,h3',rfl⟩:=O
 exact(zLc A n c l A' n' c' l' W U J h2 I oA oA).mono fun _ _=>jH.v
theorem zER(h:LV W m v a)(hm:m<=100000):Calls prog 40 #[v] W (zPO W a):=by
 obtain⟨A,n,c,l,rfl,I,h2,h3,rfl⟩:=h
 exact(jL A n c l W I h2 oA).mono fun _ _=>jH.v
theorem qN.open{x:Nat}(h:qN W v x):∃A n c,v=.slice A n c/\(x=0->n=0)/\(0<x->0<n)/\n<=c/\c<=9223372036854775807/\qN W (.slice A n c) x:=by
 obtain⟨A,n,c,l,rfl,I,h2⟩:=h
 have h3:=I.zero_iff;have J:=I.pos_iff
 rw[h2.len]at h3 J
 exact⟨A,n,c,rfl,h3.1,J.1,h2.le,h2.cap,⟨A,n,c,l,rfl,I,h2⟩⟩
end Go.Proofs.Wd

namespace Lb
set_option maxHeartbeats 2000000
theorem zSw{x k:Nat}(h:TZ x k):x/2^k%2=1/\x/2^k<=x/\0<x/2^k:=by
 have:=h.part.2
 exact⟨this,rP _ _,Nat.pos_of_ne_zero fun e=>by rw[e]at this;simp at this⟩
def Bin(G x y:Nat):Prop:=0<y/\(x=0->y=G)/\∀i j,TZ x i->TZ y j->Nat.gcd (x/2^i) (y/2^j)=G
theorem Bin.start{a b i j:Nat}(hi:TZ a i)(I:TZ b j):Bin (Nat.gcd (a/2^i) (b/2^j)) a b:=
 ⟨I.pos,fun e=>by have:=hi.pos;omega,fun i' j' J h2=>by rw[J.unique hi,h2.unique I]⟩
theorem Bin.turn{G x y:Nat}(hx:x%2=1)(O:y%2=1)(J:Nat.gcd x y=G)(I:y<=x):Bin G (x-y) y:=by
 refine⟨oA,fun e=>?_,fun i j U h2=>?_⟩
 .have:x=y:=oA
  rw[<-J,this,Nat.gcd_self]
 .have hj:j=0:=h2.unique (wX O)
  rw[hj,Nat.pow_zero,Nat.div_one,uQ,vC O U,uQ,zIi I,J]
end Lb
namespace Go.Proofs.Wd
open Tryz
open Go.RowKit Lb
variable {W W0 w0:WB}{M N c d i k m n z:Nat}{A:WG Addr}{hi lo x y:WL}{e e' t t' ty:WF}{l l0 v v':WE}{a r:V2}{F:Fence}{P:WH}{ops:Array Oper}{G:Nat->SF}{pos:String}{aft:Array Edge}{cs:List WE}{qs:List Rat}{f:Nat->Bool}{g:UF}{ps:List V2}{Cs:List CU}{L:List Int}{ie:TypeInfo}
theorem zND{x q t:Nat}(h:qN W (.slice A n c) x)(O:x<BB^m)(hm:m<=2000)(J:t<=31)(hq:q<n):Calls prog 113 #[.slice A n c,.int .i64 ((32*q+t:Nat):Int)] W (zPO W (x/2^(32*q+t))):=by
 obtain⟨A1,n1,c1,l1,U,I,h2⟩:=h
 cases U
 have hn:n<=m:=zJw I h2 O
 have:=zNE A n c l1 q t W h2 I.lt J oA oA oA
 rw[I.val]at this
 exact this.mono fun _ _=>jH.v
theorem zXQ{x q t:Nat}(h:LV W m (.slice A n c) x)(hm:m<=2000)(I:t<=31)(hq:q<=2000):Calls prog 116 #[.slice A n c,.int .i64 ((32*q+t:Nat):Int)] W (zPO W (x*2^(32*q+t))):=by
 obtain⟨A1,n1,c1,J,U,O,h2,h3,rfl⟩:=h
 cases U
 exact(zNt A n c J q t W O h2 I oA oA).mono fun _ _=>jH.v
def zY0(w:WB)(x:Nat):Ending->WB->Prop:=fun e w'=>∃v,e=.returned (.tuple #[v,.int .i64 0])/\qN w' v x/\bW w w'
theorem zSg{a b:Nat}(h:LV W m v a)(h':LV W m v' b)(hm:m<=2000)(I:b<=a):Calls prog 115 #[v,v'] W (zY0 W (a-b)):=by
 obtain⟨A,n,c,l,rfl,h1,h2,h3,rfl⟩:=h
 obtain⟨A',n',c',l',rfl,J,O,h3',rfl⟩:=h'
 refine(zHD A n c l A' n' c' l' W h1 J h2 O I oA).mono ?_
 rintro e w' ⟨U,n1,c1,l1,rfl,i1,r1,hb⟩
 exact⟨_,rfl,⟨U,n1,c1,l1,rfl,i1,r1⟩,hb⟩
theorem zKM{x:Nat}(h:qN W (.slice A n c) x)(O:x<BB^m)(hm:m<=2000)(h0:0<x):
  ∃q t:Nat,TZ x (32*q+t)/\t<=31/\q<n/\n<=m/\Calls prog 112 #[.slice A n c] W fun e w'=>e=.returned (.int .i64 ((32*q+t:Nat):Int))/\w'=W:=by
 obtain⟨A1,n1,c1,l1,e1,I,h2⟩:=h
 cases e1
 have hn:n<=m:=zJw I h2 O
 obtain⟨q,t,J,k2,U,k4⟩:=zP2 A n c l1 W h2 I.lt (by rw[I.val];exact h0) oA
 rw[I.val]at J
 exact⟨q,t,J,k2,U,hn,k4⟩
theorem qN.rdv{x:Nat}(h:qN W v x):rdv W v=x:=by
 obtain⟨A1,n1,c1,l1,rfl,I,h2⟩:=h
 exact h2.rdv I
def RgI(w:WB)(m G:Nat)(u v:WE)(W:WB):Prop:=∃A n c A' n' c' x y,u=.slice A n c/\v=.slice A' n' c'/\qN W (.slice A n c) x/\qN W (.slice A' n' c') y/\x<BB^m/\y<BB^m/\Bin G x y/\bW w W
theorem zT6{a b:Nat}(h:LV W m v a)(h':LV W m v' b)(hm:m<=2000):Calls prog 84 #[v,v'] W (zPO W (Nat.gcd a b)):=by
 have hla:=h.bound;have hlb:=h'.bound
 obtain⟨A0,n0,c0,rfl,-,k1,k2,h⟩:=h.open
 obtain⟨B0,m0,d0,rfl,-,k3,k4,h'⟩:=h'.open
 go_enter func84,ntmps84
 go_wp2_with fail
 refine(zER h oA).mono ?_
 rintro e w1 ⟨va,rfl,ha,b1⟩
 obtain⟨A,n,c,rfl,za,pa,ia,ja,ha⟩:=ha.open
 go_wp2_with fail
 refine(zER (h'.below b1) oA).mono ?_
 rintro e w2 ⟨vb,rfl,hb,b2⟩
 obtain⟨A',n',c',rfl,zb,pb,ib,jb,hb⟩:=hb.open
 have b02:=b1.trans (b2.mono b1.size)
 have ha2:=ha.below b2
 clear h h' ha b1 b2 k1 k2 k3 k4
 by_cases h0:a=0∨b=0
 .have hg:Nat.gcd a b=a+b:=by
   rcases h0 with e|e
   .rw[e];simp
   .rw[e];simp
  have h00:n=0∨(0<n/\n'=0):=by
   rcases uJ n with e|e
   .exact .inl e
   .refine .inr ⟨e,zb (h0.resolve_left fun e'=>?_)⟩
    have:=za e';omega
  have HG:=hid hg
  clear za pa zb pb h0 hg
  have ad:=zTS (ha2.lv hla) (hb.lv hlb) oA 24
  have bS:bW w2 (w2.alloc (.cells #[.slice A n c,.slice A' n' c'] 24)):=(xG _ w2).alloc (vQ _) _
  have HLA:=hid hla;have HLB:=hid hlb
  clear hla hlb
  rcases h00 with rfl|⟨e1,rfl⟩
  all_goals
   go_wp2_with fail
   refine ad.mono ?_
   rintro e w4 ⟨vs,rfl,hs,b4⟩
   go_wp2_with fail
   go_ret
   exact⟨vs,rfl,by rw[HG.out];exact hs,b02.trans ((bS.trans (b4.mono bS.size)).mono b02.size)⟩
 .have hn0:0<n:=pa oA
  have hn0':0<n':=pb oA
  have hnb:((n:Int)==0)=false:=fM
  have hnb':((n':Int)==0)=false:=fM
  obtain⟨q,t,hz,ht,hq,hnm,htw⟩:=zKM ha2 hla hm oA
  obtain⟨q',t',hz',ht',hq',hnm',htw'⟩:=zKM hb hlb hm oA
  have hgcd:=hz.gcd hz'
  have hbin:=Bin.start hz hz'
  have hG0:Nat.gcd (a/2^(32*q+t)) (b/2^(32*q'+t'))<BB^m:=zSH (mW (rP _ _) hla) (mW (rP _ _) hlb)
  obtain⟨G,hG⟩:∃G,Nat.gcd (a/2^(32*q+t)) (b/2^(32*q'+t'))=G:=⟨_,rfl⟩
  rw[hG]at hgcd hbin hG0
  obtain⟨p,s,hs,hps,hpq⟩:∃p s:Nat,s<=31/\p<=2000/\min (32*q+t) (32*q'+t')=32*p+s:=by
   rcases gS (32*q+t) (32*q'+t')with e|e
   .exact⟨q,t,ht,oA,oA⟩
   .exact⟨q',t',ht',oA,oA⟩
  rw[hpq]at hgcd
  have hmin:min ((32*q+t:Nat):Int) ((32*q'+t':Nat):Int)=((32*p+s:Nat):Int):=oA
  have HGC:=hid hgcd;have HBI:=hid hbin;have HG0:=hid hG0
  obtain⟨k,hk⟩:∃k,32*q+t=k:=⟨_,rfl⟩
  obtain⟨k',hk'⟩:∃k,32*q'+t'=k:=⟨_,rfl⟩
  rw[hk]at htw hmin
  rw[hk']at htw' hmin
  obtain⟨K,hK⟩:∃K,32*p+s=K:=⟨_,rfl⟩
  rw[hK]at hmin
  have HK:=hid hK
  have hK2:K<=64500:=oA
  have hk2:k<=64500:=oA
  have hk2':k'<=64500:=oA
  have HLA:=hid hla;have HLB:=hid hlb
  clear hgcd hbin hG0 hz hz' hG hpq hk hk' hK za pa zb pb hq hq' ht ht' hnm hnm' h0 hla hlb
  go_wp2_with fail
  refine htw.mono ?_
  rintro e w3 ⟨rfl,rfl⟩
  go_wp2_with fail
  refine htw'.mono ?_
  rintro e w3 ⟨rfl,rfl⟩
  go_wp2
  go_loopw [0,1] (RgI W m G) (fun u v wr=>rdv wr u+rdv wr v)
  case atStart=>exact⟨A,n,c,A',n',c',a,b,rfl,rfl,ha2,hb,HLA.out,HLB.out,HBI.out,b02⟩
  case round=>
   clear ha2 hb b02 hn0 hn0' hnb hnb' htw htw' ia ja ib jb hmin
   obtain⟨A1,n1,c1,A2,n2,c2,x,y,rfl,rfl,hx,hy,hxl,hyl,hbn,hB⟩:=hrel
   obtain⟨_,_,_,e1,zx,px,ix,jx,_⟩:=hx.open
   cases e1
   obtain⟨_,_,_,e1,zy,py,iy,jy,_⟩:=hy.open
   cases e1
   have hy0:=hbn.1
   have HBN:=hid hbn
   have HXL:=hid hxl;have HYL:=hid hyl
   rcases uJ n1 with h0|h0
   .have hx0:x=0:=by
     rcases uJ x with e|e
     .exact e
     .have:=px e;omega
    have hyG:=hbn.2.1 hx0
    have HYG:=hid hyG
    have hup:=zXQ (q:=p) (t:=s) (hy.lv hyl) hm hs hps
    rw[HK.out]at hup
    subst h0
    clear hbn hxl hyl hx0 hyG zx px zy py
    go_wp2_with fail
    refine hup.mono ?_
    rintro e w5 ⟨v5,rfl,hv5,hb5⟩
    go_wp2_with fail
    go_ret
    exact⟨v5,rfl,by rw[HGC.out,HK.out,<-HYG.out,vT];exact hv5,hB.trans (hb5.mono hB.size)⟩
   .have hx0:0<x:=Nat.pos_of_ne_zero fun e=>by have:=zx e;omega
    obtain⟨q1,t1,z1,ht1,hq1,hnm1,htw1⟩:=zKM hx hxl hm hx0
    have hd1:=zND hx hxl hm ht1 hq1
    obtain⟨o1,o2,o3⟩:=zSw z1
    obtain⟨k1,hk1⟩:∃k,32*q1+t1=k:=⟨_,rfl⟩
    have hk1l:k1<=64500:=oA
    rw[hk1]at htw1 hd1 z1 o1 o2 o3
    have Z1:=hid z1
    obtain⟨X,hX⟩:∃X,x/2^k1=X:=⟨_,rfl⟩
    have HX:=hid hX
    rw[hX]at hd1 o1 o2 o3
    clear z1 hX hk1 ht1 hq1 hnm1 hbn zx px zy py
    have HO1:=hid o1
    have hrx:=hx.rdv;have hry:=hy.rdv
    have HRX:=hid hrx;have HRY:=hid hry
    clear hrx hry o1
    go_wp2_with fail
    refine htw1.mono ?_
    rintro e w5 ⟨rfl,rfl⟩
    go_wp2_with fail
    refine hd1.mono ?_
    rintro e w6 ⟨v6,rfl,h6,b6⟩
    obtain⟨A6,n6,c6,rfl,z6,p6,i6,j6,h6⟩:=h6.open
    have hy6:=hy.below b6
    obtain⟨q2,t2,z2,ht2,hq2,hnm2,htw2⟩:=zKM hy6 hyl hm hy0
    have hd2:=zND hy6 hyl hm ht2 hq2
    obtain⟨o4,o5,o6⟩:=zSw z2
    obtain⟨k2,hk2⟩:∃k,32*q2+t2=k:=⟨_,rfl⟩
    have hk2l:k2<=64500:=oA
    rw[hk2]at htw2 hd2 z2 o4 o5 o6
    have Z2:=hid z2
    obtain⟨Y,hY⟩:∃Y,y/2^k2=Y:=⟨_,rfl⟩
    have HY:=hid hY
    rw[hY]at hd2 o4 o5 o6
    clear z2 hY hk2 ht2 hq2 hnm2 htw1 hd1 z6 p6
    have HO4:=hid o4
    clear o4
    go_wp2_with fail
    refine htw2.mono ?_
    rintro e w7 ⟨rfl,rfl⟩
    go_wp2_with fail
    refine hd2.mono ?_
    rintro e w8 ⟨v8,rfl,h8,b8⟩
    obtain⟨A8,n8,c8,rfl,z8,p8,i8,j8,h8⟩:=h8.open
    have h68:=h6.below b8
    have b68:=b6.trans (b8.mono b6.size)
    have hB8:=hB.trans (b68.mono hB.size)
    have hXl:X<BB^m:=mW o2 HXL.out
    have hYl:Y<BB^m:=mW o5 HYL.out
    have hXY:Nat.gcd X Y=G:=by rw[<-HX.out,<-HY.out];exact HBN.out.2.2 _ _ Z1.out Z2.out
    have HXY:=hid hXY
    obtain⟨cz,hcz⟩:∃cz,zAN X Y=cz:=⟨_,rfl⟩
    have hc1:=zVP (h68.lv hXl) (h8.lv hYl)
    have hcl:cz<0↔X<Y:=by
     rw[<-hcz]
     unfold zAN
     split
     .exact⟨fun _=>by assumption,fun _=>oA⟩
     .split
      .exact⟨fun h=>oA,fun h=>oA⟩
      .exact⟨fun h=>oA,fun h=>oA⟩
    rw[hcz]at hc1
    clear htw2 hd2 z8 p8 h6 hy6 hx hy hXY hcz hxl hyl
    have HXl:=hid hXl;have HYl:=hid hYl
    clear hXl hYl
    rcases bJ X Y with hlt|hge
    .have hcz:cz<0:=hcl.2 hlt
     have hsb:=zSg (h8.lv HYl.out) (h68.lv HXl.out) hm (nL hlt)
     have hbt:=Bin.turn (G:=G) HO4.out HO1.out (by rw[uQ];exact HXY.out) (nL hlt)
     have HBT:=hid hbt
     clear hbt hcl
     go_wp2_with fail
     refine hc1.mono ?_
     rintro e w9 ⟨rfl,rfl⟩
     go_wp2_with fail
     refine hsb.mono ?_
     rintro e w10 ⟨v10,rfl,h10,b10⟩
     obtain⟨A10,n10,c10,rfl,z10,p10,i10,j10,h10⟩:=h10.open
     clear z10 p10
     go_wp2_with fail
     refine⟨⟨A10,n10,c10,A6,n6,c6,Y-X,X,rfl,rfl,h10,h68.below b10,mW (nR _ _) HYl.out,HXl.out,HBT.out,hB8.trans (b10.mono hB8.size)⟩,?_⟩
     show rdv _ _+rdv _ _<rdv _ _+rdv _ _
     rw[h10.rdv,(h68.below b10).rdv,HRX.out,HRY.out]
     omega
    .have hcz: ¬cz<0:=fun e=>by have:=hcl.1 e;omega
     have hsb:=zSg (h68.lv HXl.out) (h8.lv HYl.out) hm hge
     have hbt:=Bin.turn (G:=G) HO1.out HO4.out HXY.out hge
     have HBT:=hid hbt
     clear hbt hcl
     go_wp2_with fail
     refine hc1.mono ?_
     rintro e w9 ⟨rfl,rfl⟩
     go_wp2_with fail
     refine hsb.mono ?_
     rintro e w10 ⟨v10,rfl,h10,b10⟩
     obtain⟨A10,n10,c10,rfl,z10,p10,i10,j10,h10⟩:=h10.open
     clear z10 p10
     go_wp2_with fail
     refine⟨⟨A10,n10,c10,A8,n8,c8,X-Y,Y,rfl,rfl,h10,h8.below b10,mW (nR _ _) HXl.out,HYl.out,HBT.out,hB8.trans (b10.mono hB8.size)⟩,?_⟩
     show rdv _ _+rdv _ _<rdv _ _+rdv _ _
     rw[h10.rdv,(h8.below b10).rdv,HRX.out,HRY.out]
     omega
theorem zVU{u:WE}(k:Int)(I:u=.int .i64 k)(h: -9223372036854775808<=k/\k<=9223372036854775807):Calls prog 38 #[u] W (zIz W k):=by
 subst I
 exact zVV k h
set_option maxRecDepth 100000
def zO3:Nat:=10000
theorem zWj{x:Nat}(h:x<18446744073709551616)(m:Nat)(I:2<=m):x<BB^m:=vV h (xR (show 18446744073709551616<=BB^2 from fH) (vZ qC I))
theorem zI3{x:Nat}(h:LV W m v x)(hm:m<=100000):Calls prog 82 #[v] W (Ret W (zBH (UF.eq (.int .u64 ((zJ x:Nat):Int))) (fB (yZ x))).tS):=by
 obtain⟨A,n,c,l,rfl,I,h2,h3,rfl⟩:=h
 refine(zMh A n c l W I h2 oA).mono ?_
 rintro e w' ⟨rfl,hb⟩
 exact⟨_,rfl,⟨_,_,rfl,rfl,rfl⟩,hb⟩
theorem zSk(x:Nat)(J:x<18446744073709551616)(I:v=.int .u64 (x:Int)):Calls prog 68 #[v] W (Ret W (qZ x).tS):=by
 subst I
 exact(zJ1 x J W).mono fun _ _ h=>jH.v h
theorem zA6(x:Nat):zJ x<18446744073709551616:=by unfold zJ;split<;>omega
theorem zOn{d:Tmp}(k:IntKind)(u v r:Int)(I:∀q W,(fct G x).p q W->q=.int k u)(hy:∀q W,(fct G y).p q W->q=.int k v)(U:v≠0)(O:k.wrap (u.tdiv v)=r)(J:∀W,(G d).p (.int k r) W:=by exact fun _=>rfl):qO F m P w0 ops G ⟨some d,.binOp .quo t x y t',ty,pos,aft,none⟩:=
 zDN (.int k u) (.int k v) (.int k r) I hy (fun W=>by simp[eqGuard]) (fun W=>by simp[binOp,Op.intDiv,U,O]) J
theorem zVl(u:Int)(r:Nat)(h:u=r)(hr:r<18446744073709551616):IntKind.u64.wrap u=r:=by
 subst h
 rw[mY]
 omega
theorem zLr{x:Nat}(h:qN W v x):Calls prog 71 #[v] W (Ret W (fNV (x:Int)).tS):=by
 exact zZ [(qZ x).tS] func71 rfl kA ⟨h,trivial⟩ fun a s=>lP<|rgK 0 [] s
  zB fun a w1 s=>zX (CU.len 2) (cs:=[.bool false, sN]) kA rfl s kA (fun W=>rfl) rfl fun b2 a w s=>zD rfl<|lP<|rgK 2 ((3,.Z (qZ x))::(4,.u (fNV (x:Int)))::[]) s
  (oc zA<|oc (zGg (fun u W (I:qN W u x)=>zPA I))<|zB) fun a w2 s=>zM (fNV (x:Int)) rfl s zHX fun a w s=>zD rfl<|pS<|wK s (CU.agg (fNV (x:Int))) rfl kA rfl rfl (zSx _) (fun cs W h=>h)
theorem zDK(z:Int)(J:v=.int .i64 z)(hz: -9223372036854775808<=z/\z<=9223372036854775807):Calls prog 10 #[v] W (Ret W (fQN (z:Rat)).tS):=by
 exact zZ [(fI z).tS] func10 rfl kA ⟨J,trivial⟩ fun a s=>lP<|rgK 0 [] s
  zB fun a w1 s=>zX (CU.len 3) (cs:=zR3) kA rfl s kA (fun W=>rfl) rfl fun b2 a w s=>zD rfl<|lP<|rgK 4 ((3,.Z (uI z))::(4,.Z (fNV z))::(5,.Z (qZ 1))::(6,.u (fQN (z:Rat)))::[]) s
  (oc zA<|oc (zG zC zYC (fun U W hb (O:U=.int .i64 z)=>zVU z O hz))<|oc (jV (fun u W (I:u=.int .u32 1)=>zSd I))<|oc (q8 (fun u v W (I:NV W u z) (J:qN W v 1)=>zJJ (q:=(z:Rat)) I J))<|zB) fun a w2 s=>zM (fQN (z:Rat)) rfl s zW fun a w s=>zD rfl<|pS<|wK s (CU.agg (fQN (z:Rat))) rfl kA rfl rfl (yW _) (fun cs W h=>h)
theorem zFf(k:Int)(d:Nat)(h:0<d):(if decide (k<0)then -((k.natAbs/Nat.gcd k.natAbs d:Nat):Int)else((k.natAbs/Nat.gcd k.natAbs d:Nat):Int))=(mkRat k d).num:=by
 have I:=zEt k d h
 have h2:=zCM k d h
 rw[<-I,<-h2]
 by_cases hs:(mkRat k d).num<0
 .rw[lH hs,if_pos rfl]
  omega
 .rw[xZ hs,if_neg dA]
  omega
theorem zTX{k:Int}(h:UV W m v k)(h':LV W m v' d)(hm:m<=2000)(U:d=0):Calls prog 55 #[v,v'] W (Ret W (zBH (fQN (mkRat k d)) (fI 30)).tS):=by
 have bk:k.natAbs<BB^m:=h.bound
 have hz:true=decide (d=0):=(lH U).symm
 have I:mkRat k d=((0:Int):Rat):=by rw[U,rZ];rfl
 refine zZ [(fUV m k).tS,(fLV m d).tS] func55 rfl kA ⟨h,h',trivial⟩ fun a s=>lP<|rgK 0 [] s
  zB fun a w1 s=>yL (CU.agg (fUV m k)) rfl s kA (fun v W h=>zR0 h) fun b2 a w s=>zX (CU.len 3) (cs:=zR3) kA rfl s kA (fun W=>rfl) rfl fun b4 a w s=>yQ (uI 0) rfl s kA iiz fun a w s=>zD rfl<|lP<|rgQ ((18,.Z (fLV m d))::(19,.Z (qZ d))::(20,.s (zSL d))::(21,.u (uB true))::[]) s
  (oc zA<|oc (zG zC zRD (fun J W hb (O:LV W m J d)=>(zER O oA)))<|oc (zEX kA iiz)<|oc (zEY hz)<|zB) fun a w2 s=>StS.cond s true iiz (fun e=>?_) fS
 refine lP ?_
 replace s:=s.drop [5]
 exact rgK 1 ((22,.u (fQN ((0:Int):Rat)))::[]) s
  (oc (zG zC zGM (fun J W hb (O:J=.int .i64 0)=>zDK 0 O dA))<|zB) fun a w3 s=>zM (fQN ((0:Int):Rat)) rfl s zW fun a w s=>yQ (uI 30) rfl s kA iiz fun a w s=>zD rfl<|pS<|wW s (CU.agg (fQN ((0:Int):Rat))) rfl kA rfl rfl (yW _) (fun cs v W h1 h2=>⟨_,_,rfl,by rw[I];exact h1,h2⟩)
theorem zNP{k:Int}(h:UV W m v k)(h':LV W m v' d)(hm:m<=2000)(O:0<d):Calls prog 55 #[v,v'] W (Ret W (zBH (fQN (mkRat k d)) (fI 0)).tS):=by
 have bk:k.natAbs<BB^m:=h.bound
 have hz:false=decide (d=0):=(xZ oA).symm
 have h9:∀W I u1 x,LV W m I x->qN W u1 (Nat.gcd k.natAbs d)->Calls prog 85 #[I,u1] W (Ret W (zGL (qZ (x/(Nat.gcd k.natAbs d))) (qZ (x%(Nat.gcd k.natAbs d))) (fI 0)).tS):=fun W I u1 x U h2=>by
  refine(zVO U (qN.lv (m:=m) h2 (mW (Nat.gcd_le_right _ O) h'.bound)) oA (Nat.gcd_pos_of_pos_right _ O)).mono ?_
  rintro e w' ⟨v1,v2,rfl,h3,h4,hb⟩
  exact⟨_,rfl,⟨v1,v2,_,rfl,h3,h4,rfl⟩,hb⟩
 refine zZ [(fUV m k).tS,(fLV m d).tS] func55 rfl kA ⟨h,h',trivial⟩ fun a s=>lP<|rgK 0 [] s
  zB fun a w1 s=>yL (CU.agg (fUV m k)) rfl s kA (fun v W h=>zR0 h) fun b2 a w s=>zX (CU.len 3) (cs:=zR3) kA rfl s kA (fun W=>rfl) rfl fun b4 a w s=>yQ (uI 0) rfl s kA iiz fun a w s=>zD rfl<|lP<|rgQ ((18,.Z (fLV m d))::(19,.Z (qZ d))::(20,.s (zSL d))::(21,.u (uB false))::[]) s
  (oc zA<|oc (zG zC zRD (fun I W hb (J:LV W m I d)=>(zER J oA)))<|oc (zEX kA iiz)<|oc (zEY hz)<|zB) fun a w2 s=>StS.cond s false iiz fS (fun e=>?_)
 refine pT<|lP<|rgK 2 ((23,.Z (fUV m k))::(24,.u (fNV k))::[]) s
  (oc (zT (f:=fUV m k) 2 kA (hz:=zRZ _ _))<|oc (zG zC zUJ (fun I W hb (J:UV W m I k)=>zHL J oA))<|zB) fun a w3 s=>zAr (CU.agg (fNV k)) ((fNV k).tS) rfl s kA rfl rfl rfl (zRZ _ _) iiz zHX fun a w s=>zD rfl<|rgQ ((26,.X (fNV k) 1)::(27,.Z (qZ ((k).natAbs)))::(28,.Z (zBH (UF.eq (.int .u64 ((zJ ((k).natAbs):Nat):Int))) (uB (yZ ((k).natAbs)))))::(25,.Z (zBH (UF.eq (.int .u64 ((zJ ((k).natAbs):Nat):Int))) (uB (yZ ((k).natAbs)))))::(29,.Z (UF.eq (.int .u64 ((zJ ((k).natAbs):Nat):Int))))::(30,.Z (uB (yZ ((k).natAbs))))::(6,.u (UF.eq (.int .u64 ((zJ ((k).natAbs):Nat):Int))))::(7,.u (uB (yZ ((k).natAbs))))::[]) s
  (oc (zL (C:=cg (fNV k)) 1 kA)<|oc (jP (C:=cg (fNV k)) (k:=1) kA (h:=zJm))<|oc (zG zC zWz (fun I W hb (J:qN W I ((k).natAbs))=>zI3 (qN.lv (m:=m) J bk) oA))<|oc zA<|oc (zBX (A:=(UF.eq (.int .u64 ((zJ ((k).natAbs):Nat):Int))).tS) (B:=(uB (yZ ((k).natAbs))).tS) iiz)<|oc (zBW (A:=(UF.eq (.int .u64 ((zJ ((k).natAbs):Nat):Int))).tS) (B:=(uB (yZ ((k).natAbs))).tS) iiz)<|oc zF<|oc zF<|zB) fun a w4 s=>rgQ ((32,.Z (fLV m d))::(33,.Z (zBH (UF.eq (.int .u64 ((zJ d:Nat):Int))) (uB (yZ d))))::(31,.Z (zBH (UF.eq (.int .u64 ((zJ d:Nat):Int))) (uB (yZ d))))::(34,.Z (UF.eq (.int .u64 ((zJ d:Nat):Int))))::(35,.Z (uB (yZ d)))::(8,.u (UF.eq (.int .u64 ((zJ d:Nat):Int))))::(9,.u (uB (yZ d)))::[]) s
  (oc zA<|oc (zG zC zWz (fun I W hb (J:LV W m I d)=>zI3 J oA))<|oc zA<|oc (zBX (A:=(UF.eq (.int .u64 ((zJ d:Nat):Int))).tS) (B:=(uB (yZ d)).tS) iiz)<|oc (zBW (A:=(UF.eq (.int .u64 ((zJ d:Nat):Int))).tS) (B:=(uB (yZ d)).tS) iiz)<|oc zF<|oc zF<|zB) fun a w5 s=>lP<|rgQ ((36,.Z (uB (yZ ((k).natAbs))))::(37,.Z (uB (yZ ((k).natAbs))))::(38,.s (SF.imp ((yZ ((k).natAbs))=true) ((uB (yZ d)).tS)))::(39,.u (uB ((yZ ((k).natAbs))&&(yZ d))))::[]) s
  (oc zA<|oc zA<|oc (zE 37 (yZ ((k).natAbs)) kA iiz (fun e=>z5 [] ((uB (yZ d)).tS) fnz fO kA zA) fN)<|oc (yC (yZ ((k).natAbs)) iiz (fun e v W h=>zA0 (zN e h) e) (fun e v W h=>zAe h e))<|zB) fun a w6 s=>StS.cond s ((yZ ((k).natAbs))&&(yZ d)) iiz (fun e=>?_) (fun e=>?_)
 .rw[xW]at e
  have ha:zJ k.natAbs=k.natAbs:=by have:=e.1;unfold yZ at this;unfold zJ;rw[if_pos (xX this)]
  have hc:zJ d=d:=by have:=e.2;unfold yZ at this;unfold zJ;rw[if_pos (xX this)]
  have hf:((Nat.gcd (zJ k.natAbs) (zJ d):Nat):Int)≠0:=by rw[ha,hc];have:=Nat.gcd_pos_of_pos_right k.natAbs O;omega
  have h8:(mkRat k d).den=zJ d/(Nat.gcd (zJ k.natAbs) (zJ d)):=by rw[ha,hc];exact zDa k d O
  have hd:∀x,x<18446744073709551616->x<BB^zO3:=fun x hx=>zWj hx _ dA
  have h6:∀W u,UV W zO3 u (if decide (k<0)then -(((zJ k.natAbs/(Nat.gcd (zJ k.natAbs) (zJ d))):Nat):Int)else(((zJ k.natAbs/(Nat.gcd (zJ k.natAbs) (zJ d))):Nat):Int))->Calls prog 69 #[u] W (zIz W (mkRat k d).num):=fun W u hu=>by
   have:=zHL hu dA
   rw[ha,hc,zFf k d O]at this
   exact this
  refine rgQ ((40,.Z (UF.eq (.int .u64 ((zJ ((k).natAbs):Nat):Int))))::(41,.Z (UF.eq (.int .u64 ((zJ d:Nat):Int))))::(42,.Z (UF.eq (.int .u64 ((Nat.gcd (zJ k.natAbs) (zJ d):Nat):Int))))::(10,.u (UF.eq (.int .u64 ((Nat.gcd (zJ k.natAbs) (zJ d):Nat):Int))))::[]) s
   (oc zA<|oc zA<|oc (zH zC zYo (fun I u1 W hb (J:I=.int .u64 ((zJ ((k).natAbs):Nat):Int)) (U:u1=.int .u64 ((zJ d:Nat):Int))=>zNO _ _ J U (zA6 _) (zA6 _)))<|oc zF<|zB) fun a w7 s=>lP ?_
  replace s:=s.drop [5]
  refine yJ [2,3,8,9] 13 ((43,.X (fNV k) 0)::(44,.Z (uB (decide (k<0))))::(45,.Z (UF.eq (.int .u64 ((zJ ((k).natAbs):Nat):Int))))::(46,.Z (UF.eq (.int .u64 ((Nat.gcd (zJ k.natAbs) (zJ d):Nat):Int))))::(47,.Z (UF.eq (.int .u64 ((zJ k.natAbs/(Nat.gcd (zJ k.natAbs) (zJ d)):Nat):Int))))::(48,.Z (qZ (zJ k.natAbs/(Nat.gcd (zJ k.natAbs) (zJ d)))))::(49,.Z (fUV zO3 (if decide (k<0)then -((zJ k.natAbs/(Nat.gcd (zJ k.natAbs) (zJ d)):Nat):Int)else((zJ k.natAbs/(Nat.gcd (zJ k.natAbs) (zJ d)):Nat):Int))))::(50,.Z (fNV ((mkRat k d).num)))::(51,.Z (UF.eq (.int .u64 ((zJ d:Nat):Int))))::(52,.Z (UF.eq (.int .u64 ((Nat.gcd (zJ k.natAbs) (zJ d):Nat):Int))))::(53,.Z (UF.eq (.int .u64 ((zJ d/(Nat.gcd (zJ k.natAbs) (zJ d)):Nat):Int))))::(54,.Z (qZ (zJ d/(Nat.gcd (zJ k.natAbs) (zJ d)))))::(55,.u (fQN (mkRat k d)))::[]) hmix s kA
   (oc (zL (C:=cg (fNV k)) 0 kA)<|oc (jP (C:=cg (fNV k)) (k:=0) kA (h:=zOs))<|oc zA<|oc zA<|oc (zOn .u64 ((zJ ((k).natAbs):Nat):Int) ((Nat.gcd (zJ k.natAbs) (zJ d):Nat):Int) ((zJ k.natAbs/(Nat.gcd (zJ k.natAbs) (zJ d)):Nat):Int) iiz iiz hf (zVl _ _ (by rw[sV oA,pD]) (mW (rP _ _) (zA6 _))))<|oc (zG zC zWE (fun I W hb (J:I=.int .u64 ((zJ k.natAbs/(Nat.gcd (zJ k.natAbs) (zJ d)):Nat):Int))=>zSk _ (mW (rP _ _) (zA6 _)) J))<|oc (q8 (fun u v W (hu:u=.bool (decide (k<0))) (hv:qN W v (zJ k.natAbs/(Nat.gcd (zJ k.natAbs) (zJ d))))=>zU3 hu hv (hd _ (by first|exact mW (rP _ _) (zA6 _)|exact hk64|exact mW (rP _ _) (vV bk (vZ qC (xR hm dA)))))))<|oc (zG zC zUJ (fun I W hb (J:UV W zO3 I (if decide (k<0)then -((zJ k.natAbs/(Nat.gcd (zJ k.natAbs) (zJ d)):Nat):Int)else((zJ k.natAbs/(Nat.gcd (zJ k.natAbs) (zJ d)):Nat):Int)))=>h6 W I (J:UV W zO3 I _)))<|oc zA<|oc zA<|oc (zOn .u64 ((zJ d:Nat):Int) ((Nat.gcd (zJ k.natAbs) (zJ d):Nat):Int) ((zJ d/(Nat.gcd (zJ k.natAbs) (zJ d)):Nat):Int) iiz iiz hf (zVl _ _ (by rw[sV oA,pD]) (mW (rP _ _) (zA6 _))))<|oc (zG zC zWE (fun I W hb (J:I=.int .u64 ((zJ d/(Nat.gcd (zJ k.natAbs) (zJ d)):Nat):Int))=>zSk _ (mW (rP _ _) (zA6 _)) J))<|oc (q8 (fun u v W (hu:NV W u ((mkRat k d).num)) (hv:qN W v (zJ d/(Nat.gcd (zJ k.natAbs) (zJ d))))=>zJJ (q:=mkRat k d) hu (by first|exact hv|(rw[h8];exact hv))))<|zB) fun Q' hQ a w8 s=>zM (fQN (mkRat k d)) rfl s zW fun a w s=>yQ (uI 0) rfl s kA iiz fun a w s=>zD rfl (hQ _ _ ?_)
  exact pS<|wW s (CU.agg (fQN (mkRat k d))) rfl kA rfl rfl (yW _) (fun cs v W U h2=>⟨_,_,rfl,U,h2⟩)
 .have hd:∀x,x<BB^zO3->x<BB^zO3:=fun x hx=>hx
  have h8:(mkRat k d).den=d/(Nat.gcd k.natAbs d):=zDa k d O
  have h6:∀W u,UV W zO3 u (if decide (k<0)then -((((k).natAbs/(Nat.gcd k.natAbs d)):Nat):Int)else((((k).natAbs/(Nat.gcd k.natAbs d)):Nat):Int))->Calls prog 69 #[u] W (zIz W (mkRat k d).num):=fun W u hu=>by
   have:=zHL hu dA
   rw[zFf k d O]at this
   exact this
  refine pT<|rgQ ((56,.X (fNV k) 1)::(57,.Z (qZ ((k).natAbs)))::(58,.Z (fLV m d))::(59,.Z (qZ (Nat.gcd k.natAbs d)))::(11,.u (qZ (Nat.gcd k.natAbs d)))::[]) s
   (oc (zL (C:=cg (fNV k)) 1 kA)<|oc (jP (C:=cg (fNV k)) (k:=1) kA (h:=zJm))<|oc zA<|oc (zH zC zYn (fun I u1 W hb (J:qN W I ((k).natAbs)) (U:LV W m u1 d)=>zT6 (qN.lv (m:=m) J bk) U oA))<|oc zF<|zB) fun a w9 s=>rgQ ((61,.X (fNV k) 1)::(62,.Z (qZ ((k).natAbs)))::(63,.Z (qZ (Nat.gcd k.natAbs d)))::(64,.Z (zGL (qZ (((k).natAbs)/(Nat.gcd k.natAbs d))) (qZ (((k).natAbs)%(Nat.gcd k.natAbs d))) (uI 0)))::(60,.Z (zGL (qZ (((k).natAbs)/(Nat.gcd k.natAbs d))) (qZ (((k).natAbs)%(Nat.gcd k.natAbs d))) (uI 0)))::(65,.Z (qZ (((k).natAbs)/(Nat.gcd k.natAbs d))))::(66,.Z (qZ (((k).natAbs)%(Nat.gcd k.natAbs d))))::(67,.Z (uI 0))::(12,.u (qZ (((k).natAbs)/(Nat.gcd k.natAbs d))))::(13,.Z (qZ (((k).natAbs)%(Nat.gcd k.natAbs d))))::(14,.Z (uI 0))::[]) s
   (oc (zL (C:=cg (fNV k)) 1 kA)<|oc (jP (C:=cg (fNV k)) (k:=1) kA (h:=zJm))<|oc zA<|oc (zH zC zWy (fun I u1 W hb (J:qN W I ((k).natAbs)) (U:qN W u1 (Nat.gcd k.natAbs d))=>h9 W I u1 _ (qN.lv (m:=m) J bk) U))<|oc zA<|oc (zFD (A:=(qZ (((k).natAbs)/(Nat.gcd k.natAbs d))).tS) (B:=(qZ (((k).natAbs)%(Nat.gcd k.natAbs d))).tS) (C:=(uI 0).tS) iiz)<|oc (zFC (A:=(qZ (((k).natAbs)/(Nat.gcd k.natAbs d))).tS) (B:=(qZ (((k).natAbs)%(Nat.gcd k.natAbs d))).tS) (C:=(uI 0).tS) iiz)<|oc (zFB (A:=(qZ (((k).natAbs)/(Nat.gcd k.natAbs d))).tS) (B:=(qZ (((k).natAbs)%(Nat.gcd k.natAbs d))).tS) (C:=(uI 0).tS) iiz)<|oc zF<|oc zF<|oc zF<|zB) fun a w10 s=>rgQ ((69,.Z (fLV m d))::(70,.Z (qZ (Nat.gcd k.natAbs d)))::(71,.Z (zGL (qZ (d/(Nat.gcd k.natAbs d))) (qZ (d%(Nat.gcd k.natAbs d))) (uI 0)))::(68,.Z (zGL (qZ (d/(Nat.gcd k.natAbs d))) (qZ (d%(Nat.gcd k.natAbs d))) (uI 0)))::(72,.Z (qZ (d/(Nat.gcd k.natAbs d))))::(73,.Z (qZ (d%(Nat.gcd k.natAbs d))))::(74,.Z (uI 0))::(15,.u (qZ (d/(Nat.gcd k.natAbs d))))::(16,.Z (qZ (d%(Nat.gcd k.natAbs d))))::(17,.Z (uI 0))::[]) s
   (oc zA<|oc zA<|oc (zH zC zWy (fun I u1 W hb (J:LV W m I d) (U:qN W u1 (Nat.gcd k.natAbs d))=>h9 W I u1 _ J U))<|oc zA<|oc (zFD (A:=(qZ (d/(Nat.gcd k.natAbs d))).tS) (B:=(qZ (d%(Nat.gcd k.natAbs d))).tS) (C:=(uI 0).tS) iiz)<|oc (zFC (A:=(qZ (d/(Nat.gcd k.natAbs d))).tS) (B:=(qZ (d%(Nat.gcd k.natAbs d))).tS) (C:=(uI 0).tS) iiz)<|oc (zFB (A:=(qZ (d/(Nat.gcd k.natAbs d))).tS) (B:=(qZ (d%(Nat.gcd k.natAbs d))).tS) (C:=(uI 0).tS) iiz)<|oc zF<|oc zF<|oc zF<|zB) fun a w11 s=>lP ?_
  replace s:=s.drop [5]
  exact rgK 7 ((75,.X (fNV k) 0)::(76,.Z (uB (decide (k<0))))::(77,.Z (qZ (((k).natAbs)/(Nat.gcd k.natAbs d))))::(78,.Z (fUV zO3 (if decide (k<0)then -((((k).natAbs)/(Nat.gcd k.natAbs d):Nat):Int)else((((k).natAbs)/(Nat.gcd k.natAbs d):Nat):Int))))::(79,.Z (fNV ((mkRat k d).num)))::(80,.Z (qZ (d/(Nat.gcd k.natAbs d))))::(81,.u (fQN (mkRat k d)))::[]) s
   (oc (zL (C:=cg (fNV k)) 0 kA)<|oc (jP (C:=cg (fNV k)) (k:=0) kA (h:=zOs))<|oc zA<|oc (q8 (fun u v W (hu:u=.bool (decide (k<0))) (hv:qN W v (((k).natAbs)/(Nat.gcd k.natAbs d)))=>zU3 hu hv (hd _ (by first|exact mW (rP _ _) (zA6 _)|exact hk64|exact mW (rP _ _) (vV bk (vZ qC (xR hm dA)))))))<|oc (zG zC zUJ (fun I W hb (J:UV W zO3 I (if decide (k<0)then -((((k).natAbs)/(Nat.gcd k.natAbs d):Nat):Int)else((((k).natAbs)/(Nat.gcd k.natAbs d):Nat):Int)))=>h6 W I (J:UV W zO3 I _)))<|oc zA<|oc (q8 (fun u v W (hu:NV W u ((mkRat k d).num)) (hv:qN W v (d/(Nat.gcd k.natAbs d)))=>zJJ (q:=mkRat k d) hu (by first|exact hv|(rw[h8];exact hv))))<|zB) fun a w12 s=>zM (fQN (mkRat k d)) rfl s zW fun a w s=>yQ (uI 0) rfl s kA iiz fun a w s=>zD rfl<|pS<|wW s (CU.agg (fQN (mkRat k d))) rfl kA rfl rfl (yW _) (fun cs v W U h2=>⟨_,_,rfl,U,h2⟩)
theorem zJ3{k:Int}(h:UV W m v k)(I:LV W m v' d)(J:m<=2000):Calls prog 55 #[v,v'] W (Ret W (zBH (fQN (mkRat k d)) (fI (if d=0 then 30 else 0))).tS):=by
 by_cases hd:d=0
 .rw[if_pos hd]
  exact zTX h I J hd
 .rw[if_neg hd]
  exact zNP h I J oA
theorem zQJ{k:Int}(h:QVp m k d v W)(O:m<=2000):Calls prog 43 #[v] W (Ret W (fQN (mkRat k d)).tS):=by
 exact zZ [(fQV m k d).tS] func43 rfl kA ⟨h,trivial⟩ fun a s=>lP<|rgK 0 [] s
  zB fun a w1 s=>yL (CU.agg (fQV m k d)) rfl s kA (fun v W h=>zF5 h) fun b1 a w s=>zX (CU.len 3) (cs:=zR3) kA rfl s kA (fun W=>rfl) rfl fun b2 a w s=>zD rfl<|lP<|rgK 8 ((6,.X (fQV m k d) 0)::(7,.Z (fUV m k))::(8,.X (fQV m k d) 2)::(9,.Z (fLV m d))::(10,.Z (zBH (fQN (mkRat k d)) (uI (if d=0 then 30 else 0))))::(5,.Z (zBH (fQN (mkRat k d)) (uI (if d=0 then 30 else 0))))::(11,.u (fQN (mkRat k d)))::(12,.u (uI (if d=0 then 30 else 0)))::[]) s
  (oc (zL (C:=cg (fQV m k d)) 0 kA)<|oc (zQ (C:=cg (fQV m k d)) (k:=0) 2 kA (h:=zNX))<|oc (zL (C:=cg (fQV m k d)) 2 kA)<|oc (jP (C:=cg (fQV m k d)) (k:=2) kA (h:=zI5))<|oc (zH zC zRB (fun J U W hb (I:UV W m J k) (h1:LV W m U d)=>zJ3 I h1 O))<|oc zA<|oc (zBX (A:=(fQN (mkRat k d)).tS) (B:=(uI (if d=0 then 30 else 0)).tS) iiz)<|oc (zBW (A:=(fQN (mkRat k d)).tS) (B:=(uI (if d=0 then 30 else 0)).tS) iiz)<|zB) fun a w2 s=>zX (CU.len 3) (cs:=zR3) kA rfl s kA (fun W=>rfl) rfl fun b3 a w s=>zM (fQN (mkRat k d)) rfl s zW fun a w s=>yQ (uI (if d=0 then 30 else 0)) rfl s kA iiz fun a w s=>zD rfl<|lP<|rgK 1 ((13,.u (fQN (mkRat k d)))::[]) s
  (oc (zT (f:=fQN (mkRat k d)) 3 kA (hz:=yW _))<|zB) fun a w3 s=>zM (fQN (mkRat k d)) rfl s zW fun a w s=>zD rfl<|pS<|wK s (CU.agg (fQN (mkRat k d))) rfl kA rfl rfl (yW _) (fun cs W h=>h)
theorem zBU{q:Rat}(h:RVp m q v W)(I:m<=2000):Calls prog 43 #[v] W (Ret W (fQN q).tS):=by
 obtain⟨k,d,J,rfl⟩:=h
 exact zQJ J I
theorem zNN(n:Int)(d:Nat)(J:0<d):(mkRat n d).num.sign=n.sign:=by
 have I:=rR.1 (zCM n d J)
 have h2:(mkRat n d).num=0↔n=0:=by rw[tY,Rat.mkRat_eq_zero oA]
 rcases nU n 0 with h|h|h
 .rw[nS h,nS (I.2 h)]
 .rw[h2.2 h,h]
 .rw[nT h,nT (by have:=mt I.1 oA;have:=mt h2.1 oA;omega)]
theorem zQH{k:Int}(h:QVp m k d v W)(hm:m<=2000)(I:d=0):Calls prog 12 #[v] W (Ret W (fI 0).tS):=by
 have U:true=decide (d=0):=(lH I).symm
 refine zZ [(fQV m k d).tS] func12 rfl kA ⟨h,trivial⟩ fun a s=>lP<|rgK 0 [] s
  zB fun a w1 s=>yL (CU.agg (fQV m k d)) rfl s kA (fun v W h=>zF5 h) fun b1 a w s=>yQ (uI 0) rfl s kA iiz fun a w s=>zD rfl<|lP<|rgQ ((3,.X (fQV m k d) 2)::(4,.Z (fLV m d))::(5,.Z (qZ d))::(6,.s (zSL d))::(7,.u (uB true))::[]) s
  (oc (zL (C:=cg (fQV m k d)) 2 kA)<|oc (jP (C:=cg (fQV m k d)) (k:=2) kA (h:=zI5))<|oc (zG zC zRD (fun J W hb (O:LV W m J d)=>(zER O oA)))<|oc (zEX kA iiz)<|oc (zEY U)<|zB) fun a w2 s=>StS.cond s true iiz (fun e=>?_) fS
 refine lP ?_
 replace s:=s.drop [2]
 exact rgE ((2,.u (uI 0))::[]) s
  (oc zF<|zB) fun a w3 s=>pS<|wF s (t:=2) rfl iiz
theorem zQI{k:Int}(h:QVp m k d v W)(hm:m<=2000)(hd:0<d):Calls prog 12 #[v] W (Ret W (fI k.sign).tS):=by
 have O:false=decide (d=0):=(xZ oA).symm
 refine zZ [(fQV m k d).tS] func12 rfl kA ⟨h,trivial⟩ fun a s=>lP<|rgK 0 [] s
  zB fun a w1 s=>yL (CU.agg (fQV m k d)) rfl s kA (fun v W h=>zF5 h) fun b1 a w s=>yQ (uI 0) rfl s kA iiz fun a w s=>zD rfl<|lP<|rgQ ((3,.X (fQV m k d) 2)::(4,.Z (fLV m d))::(5,.Z (qZ d))::(6,.s (zSL d))::(7,.u (uB false))::[]) s
  (oc (zL (C:=cg (fQV m k d)) 2 kA)<|oc (jP (C:=cg (fQV m k d)) (k:=2) kA (h:=zI5))<|oc (zG zC zRD (fun J W hb (I:LV W m J d)=>(zER I oA)))<|oc (zEX kA iiz)<|oc (zEY O)<|zB) fun a w2 s=>StS.cond s false iiz fS (fun e=>?_)
 refine pT<|lP ?_
 replace s:=s.drop [2]
 exact rgE ((8,.X (fQV m k d) 0)::(9,.Z (fUV m k))::(10,.Z (uI (k.sign)))::(2,.u (uI (k.sign)))::[]) s
  (oc (zL (C:=cg (fQV m k d)) 0 kA)<|oc (zQ (C:=cg (fQV m k d)) (k:=0) 2 kA (h:=zNX))<|oc (zG zC zWM (fun J W hb (I:UV W m J k)=>zFJ (zLi I oA)))<|oc zF<|zB) fun a w3 s=>pS<|wF s (t:=2) rfl iiz
theorem zEl{q:Rat}(h:RVp m q v W)(I:m<=2000):Calls prog 12 #[v] W (Ret W (fI q.num.sign).tS):=by
 obtain⟨k,d,J,rfl⟩:=h
 by_cases hd:d=0
 .have:=zQH J I hd
  rw[hd,rZ]
  exact this
 .rw[zNN k d oA]
  exact zQI J I oA
theorem zTV{u:WE}{p q:Rat}(h:QNp p u W)(h':QNp q v W)(hp:QB p m)(U:QB q m)(hm:m<=990):Calls prog 42 #[u,v] W (Ret W (fQN (p+q)).tS):=by
 have h6:∀W I O,NV W I (((p).num*((q).den:Int))+((q).num*((p).den:Int)))->qN W O ((p).den*(q).den)->Calls prog 55 #[I,O] W (Ret W (zBH (fQN (p+q)) UF.any).tS):=fun W I O J h1=>by
  have:=zJ3 (m:=m+m+1) (J.uv' (hp.num_add U)) (h1.lv (vV (hp.den_mul U) (vZ qC oA))) oA
  rw[<-Rat.add_def' p q]at this
  exact this.mono fun e w' ⟨v,e1,⟨x,y,e2,h2,_⟩,hb⟩=>⟨v,e1,⟨x,y,e2,h2,trivial⟩,hb⟩
 refine zZ [(fQN p).tS,(fQN q).tS] func42 rfl kA ⟨h,h',trivial⟩ fun a s=>lP<|rgK 0 [] s
  zB fun a w1 s=>yL (CU.agg (fQN p)) rfl s kA (fun v W h=>zLl h) fun b2 a w s=>yL (CU.agg (fQN q)) rfl s kA (fun v W h=>zLl h) fun b3 a w s=>zX (CU.len 3) (cs:=zR3) kA rfl s kA (fun W=>rfl) rfl fun b4 a w s=>zD rfl<|lP ?_
 have so:=s.old;have sg:=s.gr
 refine zBs [24] [⟨25,5,28, [.bool false, sN, sN],wJ w 28 (CU.len 3)⟩] 26 ((8,.X (fQN p) 0)::(9,.Z (fNV ((p).num)))::(10,.X (fQN q) 2)::(11,.Z (qZ ((q).den)))::(12,.Z (fNV ((q).den:Int)))::(13,.s (zMD (m+m) [(p).num,((q).den:Int)]))::(14,.Z (fNV ((p).num*((q).den:Int))))::(15,.X (fQN q) 0)::(16,.Z (fNV ((q).num)))::(17,.X (fQN p) 2)::(18,.Z (qZ ((p).den)))::(19,.Z (fNV ((p).den:Int)))::(20,.s (zMD (m+m) [(q).num,((p).den:Int)]))::(21,.Z (fNV ((q).num*((p).den:Int))))::(22,.s (zMD (m+m) [((p).num*((q).den:Int)),((q).num*((p).den:Int))]))::(23,.Z (fNV (((p).num*((q).den:Int))+((q).num*((p).den:Int)))))::(24,.X (fQN p) 2)::(25,.Z (qZ ((p).den)))::(26,.X (fQN q) 2)::(27,.Z (qZ ((q).den)))::(28,.Z (qZ ((p).den*(q).den)))::(29,.Z (zBH (fQN (p+q)) (UF.any)))::(7,.Z (zBH (fQN (p+q)) (UF.any)))::(30,.u (fQN (p+q)))::(5,.s (wJ w 28 (CU.len 3)))::[]) hmix s (fU ⟨by show 25<26;decide,.tail _ (.tail _ (.tail _ (.tail _ (.tail _ (.tail _ (.tail _ (.tail _ (.tail _ zZf)))))))),⟨_,_,_,rfl⟩,fJ,zAK (fun _=>rfl) rfl⟩ fnz) kA
  (oc (zL (C:=cg (fQN p)) 0 kA)<|oc (zQ (C:=cg (fQN p)) (k:=0) 2 kA (h:=zBl))<|oc (zL (C:=cg (fQN q)) 2 kA)<|oc (jP (C:=cg (fQN q)) (k:=2) kA (h:=zA8))<|oc (zG zC zRA (fun I W hb (J:qN W I ((q).den))=>zLr J))<|oc (z9 (fun u v W (hu:NV W u ((p).num)) (hv:NV W v ((q).den:Int))=>zBp (NV.uv' hu (Bd.mono (hp).1 (m':=(m+m)) fP)) (NV.uv' hv (Bd.mono (jF U.2) (m':=(m+m)) fP))))<|oc (zG zC zME (fun I W hb (J:ISV W (m+m) I [(p).num,((q).den:Int)])=>zES J (by show(m+m)*2+(m+m)+1<=40000;omega) fC fC))<|oc (zL (C:=cg (fQN q)) 0 kA)<|oc (zQ (C:=cg (fQN q)) (k:=0) 2 kA (h:=zBl))<|oc (zL (C:=cg (fQN p)) 2 kA)<|oc (jP (C:=cg (fQN p)) (k:=2) kA (h:=zA8))<|oc (zG zC zRA (fun I W hb (J:qN W I ((p).den))=>zLr J))<|oc (z9 (fun u v W (hu:NV W u ((q).num)) (hv:NV W v ((p).den:Int))=>zBp (NV.uv' hu (Bd.mono (U).1 (m':=(m+m)) fP)) (NV.uv' hv (Bd.mono (jF hp.2) (m':=(m+m)) fP))))<|oc (zG zC zME (fun I W hb (J:ISV W (m+m) I [(q).num,((p).den:Int)])=>zES J (by show(m+m)*2+(m+m)+1<=40000;omega) fC fC))<|oc (z9 (fun u v W (hu:NV W u ((p).num*((q).den:Int))) (hv:NV W v ((q).num*((p).den:Int)))=>zBp (NV.uv' hu (Bd.mul (hp).1 (jF U.2))) (NV.uv' hv (Bd.mul (U).1 (jF hp.2)))))<|oc (zG zC zYu (fun I W hb (J:ISV W (m+m) I [((p).num*((q).den:Int)),((q).num*((p).den:Int))])=>zT4 J oA fC fC))<|oc (zL (C:=cg (fQN p)) 2 kA)<|oc (jP (C:=cg (fQN p)) (k:=2) kA (h:=zA8))<|oc (zL (C:=cg (fQN q)) 2 kA)<|oc (jP (C:=cg (fQN q)) (k:=2) kA (h:=zA8))<|oc (zH zC zUK (fun I O W hb (J:qN W I ((p).den)) (h1:qN W O ((q).den))=>zNy (qN.lv (m:=m) J hp.2) (qN.lv (m:=m) h1 U.2) oA))<|oc (zH zC zRB (fun I O W hb (J:NV W I (((p).num*((q).den:Int))+((q).num*((p).den:Int)))) (h1:qN W O ((p).den*(q).den))=>h6 W I O J h1))<|oc zA<|oc (zBX (A:=(fQN (p+q)).tS) (B:=(UF.any).tS) iiz)<|oc (zBW (A:=(fQN (p+q)).tS) (B:=(UF.any).tS) iiz)<|oc (zBY (cs:=zR3) kA (zAK (fun _=>rfl) rfl))<|zB) fun Q' hQ a w2 s hr hd=>?_
 obtain⟨b5,_,e5,s⟩:=s.adoptA false 5 (hr (_,_) (.tail _ (.tail _ (.tail _ (.tail _ (.tail _ (.tail _ (.tail _ (.tail _ (.tail _ zZf)))))))))) sg (fun y hy=>.inl (so y hy))
 refine zM (fQN (p+q)) rfl s zW fun a w s=>yQ UF.any rfl s kA (fun _ _ _=>trivial) fun a w s=>zD rfl (hQ _ _ ?_)
 exact lP<|rgK 1 ((32,.u (fQN (p+q)))::[]) s
  (oc (zT (f:=fQN (p+q)) 3 kA (hz:=yW _))<|zB) fun a w3 s=>zM (fQN (p+q)) rfl s zW fun a w s=>zD rfl<|pS<|wK s (CU.agg (fQN (p+q))) rfl kA rfl rfl (yW _) (fun cs W h=>h)
theorem zTY{q:Rat}(h:RVp m q v W)(hm:m<=990)(I:0<m):Calls prog 45 #[v] W (Ret W (fQN (-q)).tS):=by
 have U:QB q m:=h.qb I
 refine zZ [(fRV m q).tS] func45 rfl kA ⟨h,trivial⟩ fun a s=>lP<|rgK 0 [] s
  zB fun a w1 s=>yL (CU.agg (fRV m q)) rfl s kA (fun v W h=>zAm h) fun b1 a w s=>zX (CU.len 3) (cs:=zR3) kA rfl s kA (fun W=>rfl) rfl fun b2 a w s=>zD rfl<|lP<|rgK 2 ((3,.Z (fRV m q))::(4,.u (fQN q))::[]) s
  (oc (zT (f:=fRV m q) 3 kA (hz:=qS _ _))<|oc (zG zC zIp (fun J W hb (O:RVp m q J W)=>zBU O oA))<|zB) fun a w2 s=>zAr (CU.agg (fQN q)) ((fQN q).tS) rfl s kA rfl rfl rfl (qS _ _) iiz zW fun a w s=>zD rfl<|lP<|yJ [] 6 ((5,.X (fQN q) 0)::(6,.Z (fNV ((q).num)))::(7,.Z (fNV (-(q).num)))::(8,.X (fQN q) 2)::(9,.Z (qZ ((q).den)))::(10,.u (fQN (-q)))::[]) hmix s kA
  (oc (zL (C:=cg (fQN q)) 0 kA)<|oc (zQ (C:=cg (fQN q)) (k:=0) 2 kA (h:=zBl))<|oc (zG zC zYt (fun J W hb (O:NV W J ((q).num))=>zT2 (NV.uv' O (U).1) oA))<|oc (zL (C:=cg (fQN q)) 2 kA)<|oc (jP (C:=cg (fQN q)) (k:=2) kA (h:=zA8))<|oc (q8 (fun u v W (hu:NV W u (-(q).num)) (hv:qN W v ((q).den))=>zJJ (q:= -q) hu hv))<|zB) fun Q' hQ a w3 s=>zM (fQN (-q)) rfl s zW fun a w s=>zD rfl (hQ _ _ ?_)
 exact pS<|wK s (CU.agg (fQN (-q))) rfl kA rfl rfl (yW _) (fun cs W h=>h)
theorem zC4{u:WE}{p q:Rat}(h:RVp m p u W)(h':RVp m q v W)(hm:m<=990)(h4:0<m):Calls prog 46 #[u,v] W (Ret W (fI (qsg p q)).tS):=by
 have U:QB p m:=h.qb h4
 have O:QB q m:=h'.qb h4
 refine zZ [(fRV m p).tS,(fRV m q).tS] func46 rfl kA ⟨h,h',trivial⟩ fun a s=>lP<|rgK 0 [] s
  zB fun a w1 s=>yL (CU.agg (fRV m p)) rfl s kA (fun v W h=>zAm h) fun b2 a w s=>yL (CU.agg (fRV m q)) rfl s kA (fun v W h=>zAm h) fun b3 a w s=>yQ (uI 0) rfl s kA iiz fun a w s=>zD rfl<|lP<|yJ [] 4 ((5,.Z (fRV m p))::(6,.u (fQN p))::(7,.Z (fRV m q))::(8,.u (fQN q))::[]) hmix s kA
  (oc (zT (f:=fRV m p) 3 kA (hz:=qS _ _))<|oc (zG zC zIp (fun I W hb (J:RVp m p I W)=>zBU J oA))<|oc (zT (f:=fRV m q) 3 kA (hz:=qS _ _))<|oc (zG zC zIp (fun I W hb (J:RVp m q I W)=>zBU J oA))<|zB) fun Q' hQ a w2 s=>zAr (CU.agg (fQN p)) ((fQN p).tS) rfl s kA rfl rfl rfl (qS _ _) iiz zW fun a w s=>zAr (CU.agg (fQN q)) ((fQN q).tS) rfl s kA rfl rfl rfl (qS _ _) iiz zW fun a w s=>zD rfl (hQ _ _ ?_)
 refine lP ?_
 replace s:=s.drop [4]
 exact rgE ((9,.X (fQN p) 0)::(10,.Z (fNV ((p).num)))::(11,.X (fQN q) 2)::(12,.Z (qZ ((q).den)))::(13,.Z (fNV ((q).den:Int)))::(14,.s (zMD (m+m) [(p).num,((q).den:Int)]))::(15,.Z (fNV ((p).num*((q).den:Int))))::(16,.X (fQN q) 0)::(17,.Z (fNV ((q).num)))::(18,.X (fQN p) 2)::(19,.Z (qZ ((p).den)))::(20,.Z (fNV ((p).den:Int)))::(21,.s (zMD (m+m) [(q).num,((p).den:Int)]))::(22,.Z (fNV ((q).num*((p).den:Int))))::(23,.Z (fNV (((p).num*((q).den:Int))-((q).num*((p).den:Int)))))::(24,.Z (uI (qsg p q)))::(4,.u (uI (qsg p q)))::[]) s
  (oc (zL (C:=cg (fQN p)) 0 kA)<|oc (zQ (C:=cg (fQN p)) (k:=0) 2 kA (h:=zBl))<|oc (zL (C:=cg (fQN q)) 2 kA)<|oc (jP (C:=cg (fQN q)) (k:=2) kA (h:=zA8))<|oc (zG zC zRA (fun I W hb (J:qN W I ((q).den))=>zLr J))<|oc (z9 (fun u v W (hu:NV W u ((p).num)) (hv:NV W v ((q).den:Int))=>zBp (NV.uv' hu (Bd.mono (U).1 (m':=(m+m)) fP)) (NV.uv' hv (Bd.mono (jF O.2) (m':=(m+m)) fP))))<|oc (zG zC zME (fun I W hb (J:ISV W (m+m) I [(p).num,((q).den:Int)])=>zES J (by show(m+m)*2+(m+m)+1<=40000;omega) fC fC))<|oc (zL (C:=cg (fQN q)) 0 kA)<|oc (zQ (C:=cg (fQN q)) (k:=0) 2 kA (h:=zBl))<|oc (zL (C:=cg (fQN p)) 2 kA)<|oc (jP (C:=cg (fQN p)) (k:=2) kA (h:=zA8))<|oc (zG zC zRA (fun I W hb (J:qN W I ((p).den))=>zLr J))<|oc (z9 (fun u v W (hu:NV W u ((q).num)) (hv:NV W v ((p).den:Int))=>zBp (NV.uv' hu (Bd.mono (O).1 (m':=(m+m)) fP)) (NV.uv' hv (Bd.mono (jF U.2) (m':=(m+m)) fP))))<|oc (zG zC zME (fun I W hb (J:ISV W (m+m) I [(q).num,((p).den:Int)])=>zES J (by show(m+m)*2+(m+m)+1<=40000;omega) fC fC))<|oc (zH zC zYs (fun I u1 W hb (J:NV W I ((p).num*((q).den:Int))) (h1:NV W u1 ((q).num*((p).den:Int)))=>zT1 (NV.uv' J (Bd.mul (U).1 (jF O.2))) (NV.uv' h1 (Bd.mul (O).1 (jF U.2))) oA))<|oc (zG zC zWM (fun I W hb (J:NV W I (((p).num*((q).den:Int))-((q).num*((p).den:Int))))=>zFJ (zLi (NV.uv' J (Bd.sub (Bd.mul (U).1 (jF O.2)) (Bd.mul (O).1 (jF U.2)))) oA)))<|oc zF<|zB) fun a w3 s=>pS<|wF s (t:=4) rfl iiz
theorem zLh{u:WE}{p q:Rat}(h:RVp m p u W)(J:RVp m q v W)(O:m<=990)(I:0<m):Calls prog 17 #[u,v] W (Ret W (fB (qsg p q==0)).tS):=by
 refine zZ [(fRV m p).tS,(fRV m q).tS] func17 rfl kA ⟨h,J,trivial⟩ fun a s=>lP<|rgK 0 [] s
  zB fun a w1 s=>yL (CU.agg (fRV m p)) rfl s kA (fun v W h=>zAm h) fun b2 a w s=>yL (CU.agg (fRV m q)) rfl s kA (fun v W h=>zAm h) fun b3 a w s=>yQ (uB false) rfl s kA iiz fun a w s=>zD rfl<|lP ?_
 replace s:=s.drop [4]
 exact rgE ((5,.Z (fRV m p))::(6,.Z (fRV m q))::(7,.Z (uI (qsg p q)))::(8,.Z (uB ((qsg p q)==0)))::(4,.u (uB ((qsg p q)==0)))::[]) s
  (oc (zT (f:=fRV m p) 3 kA (hz:=qS _ _))<|oc (zT (f:=fRV m q) 3 kA (hz:=qS _ _))<|oc (zH zC zJC (fun U u1 W hb (h0:RVp m p U W) (h1:RVp m q u1 W)=>zC4 h0 h1 O I))<|oc (zI .i64 (qsg p q) 0 ((qsg p q)==0) iiz iiz rfl rfl)<|oc zF<|zB) fun a w2 s=>pS<|wF s (t:=4) rfl iiz
theorem zTW{u:WE}{p q:Rat}(h:RVp m p u W)(h':RVp m q v W)(hm:m<=990)(h4:0<m):Calls prog 25 #[u,v] W (Ret W (zBH (fQN (p/q)) (fI (if q=0 then 30 else 0))).tS):=by
 have hp:QB p m:=h.qb h4
 have hq:QB q m:=h'.qb h4
 have ha:Bd (if decide ((q).num<0)then -((q).den:Int)else((q).den:Int)) m:=by split;exact(jF hq.2).neg;exact jF hq.2
 have h5:mkRat ((p).num*(if decide ((q).num<0)then -((q).den:Int)else((q).den:Int))) ((p).den*(q).num.natAbs)=p/q:=zTQ p q
 have h8:((p).den*(q).num.natAbs=0)=(q=0):=by rw[Nat.mul_eq_zero,Int.natAbs_eq_zero,tY];have:=p.den_pos;simp;omega
 have h7:∀W I O,NV W I ((p).num*(if decide ((q).num<0)then -((q).den:Int)else((q).den:Int)))->qN W O ((p).den*(q).num.natAbs)->Calls prog 55 #[I,O] W (Ret W (zBH (fQN (p/q)) (fI (if q=0 then 30 else 0))).tS):=fun W I O J U=>by
  have:=zJ3 (m:=m+m) (J.uv' (Bd.mul hp.1 ha)) (U.lv (zEV hp.2 hq.1)) oA
  simp only[h5,h8]at this
  exact this
 refine zZ [(fRV m p).tS,(fRV m q).tS] func25 rfl kA ⟨h,h',trivial⟩ fun a s=>lP<|rgK 0 [] s
  zB fun a w1 s=>yL (CU.agg (fRV m p)) rfl s kA (fun v W h=>zAm h) fun b2 a w s=>yL (CU.agg (fRV m q)) rfl s kA (fun v W h=>zAm h) fun b3 a w s=>zX (CU.len 3) (cs:=zR3) kA rfl s kA (fun W=>rfl) rfl fun b4 a w s=>yQ (uI 0) rfl s kA iiz fun a w s=>zD rfl<|lP<|yJ [] 4 ((6,.Z (fRV m p))::(7,.u (fQN p))::(8,.Z (fRV m q))::(9,.u (fQN q))::[]) hmix s kA
  (oc (zT (f:=fRV m p) 3 kA (hz:=qS _ _))<|oc (zG zC zIp (fun I W hb (J:RVp m p I W)=>zBU J oA))<|oc (zT (f:=fRV m q) 3 kA (hz:=qS _ _))<|oc (zG zC zIp (fun I W hb (J:RVp m q I W)=>zBU J oA))<|zB) fun Q' hQ a w2 s=>zAr (CU.agg (fQN p)) ((fQN p).tS) rfl s kA rfl rfl rfl (qS _ _) iiz zW fun a w s=>zAr (CU.agg (fQN q)) ((fQN q).tS) rfl s kA rfl rfl rfl (qS _ _) iiz zW fun a w s=>zD rfl (hQ _ _ ?_)
 refine lP ?_
 replace s:=s.drop [5]
 refine yJ [] 19 ((10,.X (fQN p) 0)::(11,.Z (fNV ((p).num)))::(12,.X (fQN q) 0)::(13,.X (fQN q) 0)::(14,.Z (uB (decide ((q).num<0))))::(15,.X (fQN q) 2)::(16,.Z (qZ ((q).den)))::(17,.Z (fUV m (if decide ((q).num<0)then -((q).den:Int)else((q).den:Int))))::(18,.s (zMD (m+m) [(p).num,(if decide ((q).num<0)then -((q).den:Int)else((q).den:Int))]))::(19,.Z (fNV ((p).num*(if decide ((q).num<0)then -((q).den:Int)else((q).den:Int)))))::(20,.X (fQN p) 2)::(21,.Z (qZ ((p).den)))::(22,.X (fQN q) 0)::(23,.X (fQN q) 1)::(24,.Z (qZ ((q).num.natAbs)))::(25,.Z (qZ ((p).den*(q).num.natAbs)))::(26,.Z (zBH (fQN (p/q)) (uI (if q=0 then 30 else 0))))::(27,.u (fQN (p/q)))::(28,.u (uI (if q=0 then 30 else 0)))::[]) hmix s kA
  (oc (zL (C:=cg (fQN p)) 0 kA)<|oc (zQ (C:=cg (fQN p)) (k:=0) 2 kA (h:=zBl))<|oc (zL (C:=cg (fQN q)) 0 kA)<|oc (qK (C:=cg (fQN q)) 0 0 kA)<|oc (jP (C:=cg (fQN q)) (k:=0) kA (h:=zVX))<|oc (zL (C:=cg (fQN q)) 2 kA)<|oc (jP (C:=cg (fQN q)) (k:=2) kA (h:=zA8))<|oc (q8 (fun u v W (hu:u=.bool (decide ((q).num<0))) (hv:qN W v ((q).den))=>zU3 hu hv hq.2))<|oc (z9 (fun u v W (hu:NV W u ((p).num)) (hv:UV W m v (if decide ((q).num<0)then -((q).den:Int)else((q).den:Int)))=>zBp (NV.uv' hu (Bd.mono (hp).1 (m':=(m+m)) fP)) (UV.mono hv (m':=(m+m)) fP)))<|oc (zG zC zME (fun I W hb (J:ISV W (m+m) I [(p).num,(if decide ((q).num<0)then -((q).den:Int)else((q).den:Int))])=>zES J (by show(m+m)*2+(m+m)+1<=40000;omega) fC fC))<|oc (zL (C:=cg (fQN p)) 2 kA)<|oc (jP (C:=cg (fQN p)) (k:=2) kA (h:=zA8))<|oc (zL (C:=cg (fQN q)) 0 kA)<|oc (qK (C:=cg (fQN q)) 0 1 kA)<|oc (jP (C:=cg (fQN q)) (k:=1) kA (h:=zVY))<|oc (zH zC zUK (fun I O W hb (J:qN W I ((p).den)) (U:qN W O ((q).num.natAbs))=>zNy (qN.lv (m:=m) J hp.2) (qN.lv (m:=m) U hq.1) oA))<|oc (zH zC zRB (fun I O W hb (J:NV W I ((p).num*(if decide ((q).num<0)then -((q).den:Int)else((q).den:Int)))) (U:qN W O ((p).den*(q).num.natAbs))=>h7 W I O J U))<|oc (zBX (A:=(fQN (p/q)).tS) (B:=(uI (if q=0 then 30 else 0)).tS) iiz)<|oc (zBW (A:=(fQN (p/q)).tS) (B:=(uI (if q=0 then 30 else 0)).tS) iiz)<|zB) fun Q' hQ a w3 s=>zM (fQN (p/q)) rfl s zW fun a w s=>yQ (uI (if q=0 then 30 else 0)) rfl s kA iiz fun a w s=>zD rfl (hQ _ _ ?_)
 exact pS<|wW s (CU.agg (fQN (p/q))) rfl kA rfl rfl (yW _) (fun cs v W U h2=>⟨_,_,rfl,U,h2⟩)
theorem zOC{b o:Nat}{ds:List WE}(k:Nat)(h:Mem W b o cs)(I:∀j u,ds[j]?=some u->cs[k+j]?=some u):Mem W b (o+k) ds:=fun j u J=>by
 have:=h (k+j) u (I j u J)
 rwa [<-uT]at this
abbrev rvs(m:Nat)(qs:List Rat):List CU:=qs.map fun q=>CU.agg (fRV m q)
theorem zNr(h:k<qs.length):(rvs m qs)[k]?=some (CU.agg (fRV m (qAt qs k))):=by
 rw[tK,nE h]
 simp[qAt,h]
theorem zN0(h:k<qs.length):qAt qs k∈qs:=by
 simp[qAt,h]
theorem zK8{q:Rat}(h:RVp m q v W):∃s A n c D i j,v=.agg #[.bool s,.slice A n c,.slice D i j]:=by
 obtain⟨k,d,I,_⟩:=h
 exact zET I
theorem zB5{u:WE}{p q:Rat}(hu:RVp m p u W)(hv:RVp m q v W):∃e cs,yI prog 73 2 [(0,u),(1,v)]=some (e,cs)/\(SF.row 3 (rvs m [p,q])).p (.slice (some ⟨W.heap.size,0,none⟩) 2 2) (W.alloc (.cells cs e)):=by
 obtain⟨s,A,n,c,D,i,j,rfl⟩:=zK8 hu
 obtain⟨s',A',n',c',J,U,O,rfl⟩:=zK8 hv
 refine⟨_,_,zSf s s' A A' D J n n' c c' i U j O,some ⟨W.heap.size,0,none⟩,2,rfl,vQ _,fH,fun e=>(by cases e),fun x C hx=>?_⟩
 have hb:=zCs W (.cells #[.bool s,.slice A n c,.slice D i j,.bool s',.slice A' n' c',.slice J U O] 28)
 have hm:=zBw W #[.bool s,.slice A n c,.slice D i j,.bool s',.slice A' n' c',.slice J U O] 28
 rcases(by have:=(bE.1 hx).1;simp at this;omega:x=0∨x=1)with rfl|rfl
 .obtain rfl:CU.agg (fRV m p)=C:=by simpa using hx
  exact⟨W.heap.size,0, [.bool s,.slice A n c,.slice D i j],rfl,zOC 0 hm (fun j u I=>by match j with|0=>exact I|1=>exact I|2=>exact I|j+3=>simp at I),(fRV m p).tS.st _ _ _ hu hb⟩
 .obtain rfl:CU.agg (fRV m q)=C:=by simpa using hx
  exact⟨W.heap.size,0, [.bool s',.slice A' n' c',.slice J U O],rfl,zOC 3 hm (fun j u I=>by match j with|0=>exact I|1=>exact I|2=>exact I|j+3=>simp at I),(fRV m q).tS.st _ _ _ hv hb⟩
theorem zT0(M:Nat)(h:(SF.row 3 (rvs m qs)).p v W)(_hm0:0<m)(hmM:m<=M)(hM:M<=990)(hl:qs.length<=1000000)(hq:∀q,q∈qs->QB q m)(hp:∀k,k<qs.length->QB (zEm qs k) M):Calls prog 13 #[v] W (Ret W (fQN (zEm qs qs.length)).tS):=by
 refine zZ [SF.row 3 (rvs m qs)] func13 rfl kA ⟨h,trivial⟩ fun a s=>lP<|rgK 0 [] s
  zB fun a w1 s=>zX (CU.len 3) (cs:=zR3) kA rfl s kA (fun W=>rfl) rfl fun b2 a w s=>zD rfl<|lP<|rgK 1 ((5,.u (fQN ((0:Int):Rat)))::[]) s
  (oc (zG zC zGM (fun J W hb (O:J=.int .i64 0)=>zDK 0 O dA))<|zB) fun a w2 s=>zX (CU.len 3) (cs:=zR3) kA rfl s kA (fun W=>rfl) rfl fun b3 a w s=>zM (fQN ((0:Int):Rat)) rfl s zW fun a w s=>zD rfl<|lP<|rgQ ((4,.u (uI 0))::[]) s
  (oc zF<|zB) fun a w3 s=>tT<|zB4 3 (fun p=>CU.agg (fQN (zEm qs p))) (fun p=>p<=qs.length) (fun p=> [(0,.o (SF.row 3 (rvs m qs))),(4,.u (fI ((p:Nat):Int)))]) (fun p=>qs.length-p) (0:Nat) (vS _) (s.keepK _ (fU mz2<|fU (.head _) fnz)) rfl fun p a w hx s=>lP<|rgQ ((6,.Z (fI (p:Int)))::(7,.s (SF.row 3 (rvs m qs)))::(8,.Z (uI ((rvs m qs).length:Int)))::(9,.u (uB (ltz p ((rvs m qs).length))))::[]) s
  (oc zA<|oc zA<|oc (zGd (z:=3) (Cs:=rvs m qs) kA iiz (fun _=>rfl))<|oc (zI .i64 (p:Int) ((rvs m qs).length:Int) (ltz p ((rvs m qs).length)) iiz iiz rfl rfl)<|zB) fun a w4 s=>StS.cond s (ltz p ((rvs m qs).length)) iiz (fun e=>?_) (fun e=>?_)
 .have I:p+1<=qs.length:=by have:=xX e;rw[bF]at this;omega
  have h4:=zNr (m:=m) (k:=p) I
  have U:=hq _ (zN0 (k:=p) I)
  refine pT<|lP<|tT<|yJ [1,2] 7 ((12,.Z (fQN (zEm qs p)))::(13,.s (SF.row 3 (rvs m qs)))::(14,.Z (fI (p:Int)))::(15,.Y (fRV m (qAt qs p)))::(16,.Z (fRV m (qAt qs p)))::(17,.Z (fQN (qAt qs p)))::(18,.u (fQN (zEm qs p+qAt qs p)))::[]) hmix s kA
   (oc (zT (f:=fQN (zEm qs p)) 3 kA (hz:=yW _))<|oc zA<|oc zA<|oc (zCm (z:=3) (Cs:=rvs m qs) (i:=p) (C:=CU.agg (fRV m (qAt qs p))) kA h4 iiz iiz)<|oc (zT (f:=fRV m (qAt qs p)) 3 kA (hz:=qS _ _))<|oc (zG zC zIp (fun J W hb (O:RVp m (qAt qs p) J W)=>zBU O oA))<|oc (zH zC zYB (fun J u1 W hb (O:QNp (zEm qs p) J W) (h1:QNp (qAt qs p) u1 W)=>zTV O h1 (hp p I) (U.mono oA) oA))<|zB) fun Q' hQ a w5 s=>zAr (CU.agg (fQN (zEm qs p+qAt qs p))) ((fQN (zEm qs p+qAt qs p)).tS) rfl s kA rfl rfl rfl (yW _) iiz zW fun a w s=>zD rfl (hQ _ _ ?_)
  refine zV 2 ((10,.Z (fI (p:Int)))::(11,.u (fI ((p+1:Nat):Int)))::[]) s kA
   (oc zA<|oc (yB .i64 (p:Int) 1 ((p+1:Nat):Int) iiz iiz (wrap64 _ _ oA oA))<|zB) fun a w6 s=>?_
  replace s:=s.drop [4]
  exact yQ (fI ((p+1:Nat):Int)) rfl s kA iiz fun a w s=>zD rfl<|⟨p+1,I,(by show qs.length-(p+1)<qs.length-p;omega),s.keepK _ (fU mz4<|fU (.head _) fnz)⟩
 .have I:p=qs.length:=by have:=nF e;rw[bF]at this;omega
  exact tU<|lP<|rgK 1 ((19,.u (fQN (zEm qs p)))::[]) s
   (oc (zT (f:=fQN (zEm qs p)) 3 kA (hz:=yW _))<|zB) fun a w7 s=>zM (fQN (zEm qs p)) rfl s zW fun a w s=>zD rfl<|pS<|wK s (CU.agg (fQN (zEm qs p))) rfl kA rfl rfl (yW _) (fun cs W h=>by rw[I]at h;exact h)
theorem zTZ(M:Nat)(h:(SF.row 3 (rvs m qs)).p v W)(_hm0:0<m)(hmM:m<=M)(hM:M<=990)(hl:qs.length<=1000000)(hq:∀q,q∈qs->QB q m)(hp:∀k,k<qs.length->QB (q9 qs k) M):Calls prog 58 #[v] W (Ret W (fQN (q9 qs qs.length)).tS):=by
 refine zZ [SF.row 3 (rvs m qs)] func58 rfl kA ⟨h,trivial⟩ fun a s=>lP<|rgK 0 [] s
  zB fun a w1 s=>zX (CU.len 3) (cs:=zR3) kA rfl s kA (fun W=>rfl) rfl fun b2 a w s=>zD rfl<|lP<|rgK 1 ((6,.u (fQN ((1:Int):Rat)))::[]) s
  (oc (zG zC zGM (fun J W hb (O:J=.int .i64 1)=>zDK 1 O dA))<|zB) fun a w2 s=>zX (CU.len 3) (cs:=zR3) kA rfl s kA (fun W=>rfl) rfl fun b3 a w s=>zM (fQN ((1:Int):Rat)) rfl s zW fun a w s=>zD rfl<|lP<|rgQ ((4,.u (uI 0))::[]) s
  (oc zF<|zB) fun a w3 s=>tT<|zB4 3 (fun p=>CU.agg (fQN (q9 qs p))) (fun p=>p<=qs.length) (fun p=> [(0,.o (SF.row 3 (rvs m qs))),(4,.u (fI ((p:Nat):Int)))]) (fun p=>qs.length-p) (0:Nat) (vS _) (s.keepK _ (fU mz2<|fU (.head _) fnz)) rfl fun p a w hx s=>lP<|rgQ ((7,.Z (fI (p:Int)))::(8,.s (SF.row 3 (rvs m qs)))::(9,.Z (uI ((rvs m qs).length:Int)))::(10,.u (uB (ltz p ((rvs m qs).length))))::[]) s
  (oc zA<|oc zA<|oc (zGd (z:=3) (Cs:=rvs m qs) kA iiz (fun _=>rfl))<|oc (zI .i64 (p:Int) ((rvs m qs).length:Int) (ltz p ((rvs m qs).length)) iiz iiz rfl rfl)<|zB) fun a w4 s=>StS.cond s (ltz p ((rvs m qs).length)) iiz (fun e=>?_) (fun e=>?_)
 .have I:p+1<=qs.length:=by have:=xX e;rw[bF]at this;omega
  have h8:=zNr (m:=m) (k:=p) I
  have U:=hq _ (zN0 (k:=p) I)
  have h6:∀W J u1,NV W J ((q9 qs p).num*(qAt qs p).num)->qN W u1 ((q9 qs p).den*(qAt qs p).den)->Calls prog 55 #[J,u1] W (Ret W (zBH (fQN (q9 qs p*qAt qs p)) (fI 0)).tS):=fun W J u1 O h1=>by
   have:=zNP (m:=M+m) (O.uv' (Bd.mul (hp p I).1 U.1)) (h1.lv (zEV (hp p I).2 U.2)) oA (gQ (Rat.den_pos _) (Rat.den_pos _))
   rw[<-Rat.mul_def']at this
   exact this
  refine pT<|lP<|tT<|lP<|rgK 5 ((13,.s (SF.row 3 (rvs m qs)))::(14,.Z (fI (p:Int)))::(15,.Y (fRV m (qAt qs p)))::(16,.Z (fRV m (qAt qs p)))::(17,.u (fQN (qAt qs p)))::[]) s
   (oc zA<|oc zA<|oc (zCm (z:=3) (Cs:=rvs m qs) (i:=p) (C:=CU.agg (fRV m (qAt qs p))) kA h8 iiz iiz)<|oc (zT (f:=fRV m (qAt qs p)) 3 kA (hz:=qS _ _))<|oc (zG zC zIp (fun J W hb (O:RVp m (qAt qs p) J W)=>zBU O oA))<|zB) fun a w5 s=>zX (CU.len 3) (cs:=zR3) kA rfl s kA (fun W=>rfl) rfl fun b5 a w s=>zM (fQN (qAt qs p)) rfl s zW fun a w s=>zD rfl<|zBs [14] [] 15 ((19,.X (fQN (q9 qs p)) 0)::(20,.Z (fNV ((q9 qs p).num)))::(21,.X (fQN (qAt qs p)) 0)::(22,.Z (fNV ((qAt qs p).num)))::(23,.s (zMD (M+m) [(q9 qs p).num,(qAt qs p).num]))::(24,.Z (fNV ((q9 qs p).num*(qAt qs p).num)))::(25,.X (fQN (q9 qs p)) 2)::(26,.Z (qZ ((q9 qs p).den)))::(27,.X (fQN (qAt qs p)) 2)::(28,.Z (qZ ((qAt qs p).den)))::(29,.Z (qZ ((q9 qs p).den*(qAt qs p).den)))::(30,.Z (zBH (fQN (q9 qs p*qAt qs p)) (uI 0)))::(18,.Z (zBH (fQN (q9 qs p*qAt qs p)) (uI 0)))::(31,.u (fQN (q9 qs p*qAt qs p)))::(32,.Z (uI 0))::[]) hmix s fnz kA
   (oc (zL (C:=cg (fQN (q9 qs p))) 0 kA)<|oc (zQ (C:=cg (fQN (q9 qs p))) (k:=0) 2 kA (h:=zBl))<|oc (zL (C:=cg (fQN (qAt qs p))) 0 kA)<|oc (zQ (C:=cg (fQN (qAt qs p))) (k:=0) 2 kA (h:=zBl))<|oc (z9 (fun u v W (hu:NV W u ((q9 qs p).num)) (hv:NV W v ((qAt qs p).num))=>zBp (NV.uv' hu (Bd.mono (hp p I).1 (m':=(M+m)) fP)) (NV.uv' hv (Bd.mono (U).1 (m':=(M+m)) fP))))<|oc (zG zC zME (fun J W hb (O:ISV W (M+m) J [(q9 qs p).num,(qAt qs p).num])=>zES O (by show(M+m)*2+(M+m)+1<=40000;omega) fC fC))<|oc (zL (C:=cg (fQN (q9 qs p))) 2 kA)<|oc (jP (C:=cg (fQN (q9 qs p))) (k:=2) kA (h:=zA8))<|oc (zL (C:=cg (fQN (qAt qs p))) 2 kA)<|oc (jP (C:=cg (fQN (qAt qs p))) (k:=2) kA (h:=zA8))<|oc (zH zC zUK (fun J u1 W hb (O:qN W J ((q9 qs p).den)) (h1:qN W u1 ((qAt qs p).den))=>zNy (qN.lv (m:=M+m) O (vV (hp p I).2 (vZ qC oA))) (qN.lv (m:=M+m) h1 (vV U.2 (vZ qC oA))) oA))<|oc (zH zC zRB (fun J u1 W hb (O:NV W J ((q9 qs p).num*(qAt qs p).num)) (h1:qN W u1 ((q9 qs p).den*(qAt qs p).den))=>h6 W J u1 O h1))<|oc zA<|oc (zBX (A:=(fQN (q9 qs p*qAt qs p)).tS) (B:=(uI 0).tS) iiz)<|oc (zBW (A:=(fQN (q9 qs p*qAt qs p)).tS) (B:=(uI 0).tS) iiz)<|zB) fun Q' hQ a w6 s hr hd=>zAr (CU.agg (fQN (q9 qs p*qAt qs p))) ((fQN (q9 qs p*qAt qs p)).tS) rfl s kA rfl rfl rfl (yW _) iiz zW fun a w s=>zD rfl (hQ _ _ ?_)
  refine zV 2 ((11,.Z (fI (p:Int)))::(12,.u (fI ((p+1:Nat):Int)))::[]) s kA
   (oc zA<|oc (yB .i64 (p:Int) 1 ((p+1:Nat):Int) iiz iiz (wrap64 _ _ oA oA))<|zB) fun a w7 s=>?_
  replace s:=s.drop [4]
  refine yQ (fI ((p+1:Nat):Int)) rfl s kA iiz fun a w s=>zD rfl ?_
  replace s:=s.popB
  exact⟨p+1,I,(by show qs.length-(p+1)<qs.length-p;omega),s.keepK _ (fU mz5<|fU (.head _) fnz)⟩
 .have I:p=qs.length:=by have:=nF e;rw[bF]at this;omega
  exact tU<|lP<|rgK 1 ((33,.u (fQN (q9 qs p)))::[]) s
   (oc (zT (f:=fQN (q9 qs p)) 3 kA (hz:=yW _))<|zB) fun a w8 s=>zM (fQN (q9 qs p)) rfl s zW fun a w s=>zD rfl<|pS<|wK s (CU.agg (fQN (q9 qs p))) rfl kA rfl rfl (yW _) (fun cs W h=>by rw[I]at h;exact h)
theorem zCH{p q:Rat}(h:(SF.row 3 (rvs m [p,q])).p v W)(I:QB p m)(U:QB q m)(O:m<=990):Calls prog 13 #[v] W (Ret W (fQN (p+q)).tS):=by
 have:=zT0 m h I.pos lr O fC (fun x J=>by simp at J;rcases J with rfl|rfl;exact I;exact U) (fun k hk=>by
  rcases(by simp at hk;omega:k=0∨k=1)with rfl|rfl
  .exact QB.zero I.pos
  .show QB (0+p) _
   rw[Rat.zero_add]
   exact I)
 rw[show([p,q]:List Rat).length=2 from rfl,zT8]at this
 exact this
theorem zCj{p q:Rat}(h:(SF.row 3 (rvs m [p,q])).p v W)(I:QB p m)(hq:QB q m)(U:m<=990):Calls prog 58 #[v] W (Ret W (fQN (p*q)).tS):=by
 have J:=I.pos
 have:=zTZ m h J lr U fC (fun x O=>by simp at O;rcases O with rfl|rfl;exact I;exact hq) (fun k hk=>by
  rcases(by simp at hk;omega:k=0∨k=1)with rfl|rfl
  .exact QB.one I.pos
  .show QB (1*p) _
   rw[zZW]
   exact I)
 rw[show([p,q]:List Rat).length=2 from rfl,zNY]at this
 exact this
theorem zEW{d:Tmp}(k:IntKind)(u v r:Int)(U:∀q W,(fct G x).p q W->q=.int k u)(J:∀q W,(fct G y).p q W->q=.int k v)(O:k.wrap (u-v)=r)(I:∀W,(G d).p (.int k r) W:=by exact fun _=>rfl):qO F m P w0 ops G ⟨some d,.binOp .sub t x y t',ty,pos,aft,none⟩:=
 zDN (.int k u) (.int k v) (.int k r) U J (fun W=>by simp[eqGuard]) (fun W=>by simp[binOp,Op.intArith,O]) I
theorem zF4{u:WE}{p q:Rat}(h:RVp m p u W)(U:RVp m q v W)(hm:m<=990)(I:0<m):Calls prog 16 #[u,v] W (Ret W (fQN (p-q)).tS):=by
 have hp:QB p m:=h.qb I
 have hq:QB q m:=U.qb I
 refine zZ [(fRV m p).tS,(fRV m q).tS] func16 rfl kA ⟨h,U,trivial⟩ fun a s=>lP<|rgK 0 [] s
  zB fun a w1 s=>yL (CU.agg (fRV m p)) rfl s kA (fun v W h=>zAm h) fun b2 a w s=>yL (CU.agg (fRV m q)) rfl s kA (fun v W h=>zAm h) fun b3 a w s=>zX (CU.len 3) (cs:=zR3) kA rfl s kA (fun W=>rfl) rfl fun b4 a w s=>zD rfl<|lP<|yJ [] 5 ((5,.Z (fRV m p))::(6,.Z (fRV m q))::(7,.Z (fQN (-q)))::(8,.s (SF.row 3 (rvs m [p,(-q)])))::(9,.u (fQN (p+ -q)))::[]) hmix s kA
  (oc (zT (f:=fRV m p) 3 kA (hz:=qS _ _))<|oc (zT (f:=fRV m q) 3 kA (hz:=qS _ _))<|oc (zG zC zYA (fun J W hb (O:RVp m q J W)=>zTY O oA I))<|oc (z9 (fun u v W (hu:RVp m p u W) (hv:QNp (-q) v W)=>zB5 hu (wH hv hq.neg)))<|oc (zG zC zKs (fun J W hb (O:(SF.row 3 (rvs m [p,(-q)])).p J W)=>zCH O hp hq.neg oA))<|zB) fun Q' hQ a w2 s=>zM (fQN (p+ -q)) rfl s zW fun a w s=>zD rfl (hQ _ _ ?_)
 exact pS<|wK s (CU.agg (fQN (p+ -q))) rfl kA rfl rfl (yW _) (fun cs W h=>by rw[sJ];exact h)
abbrev QX.q(x:QX):Rat:=mkRat x.k x.d
theorem zZb{n':Nat}{k:Int}(h:QXp n n' k d v W)(h1:n<=m)(h2:n'<=m):RVp m (mkRat k d) v W:=⟨k,d,zXU h h1 h2,rfl⟩
theorem zVL(z:Int)(I:v=.int .i64 z)(hz: -9223372036854775808<=z/\z<=9223372036854775807):Calls prog 51 #[v] W (Ret W (fQN (z:Rat)).tS):=by
 subst I
 exact zQz z hz
set_option maxHeartbeats 2000000
theorem zI0{u:WE}{x y:Int}(U:u=.int .i64 x)(J:v=.int .i64 y)(hx: -9223372036854775808<=x/\x<=9223372036854775807)(hy: -9223372036854775808<=y/\y<=9223372036854775807):Calls prog 32 #[u,v] W (Ret W (fPN (((x:Int):Rat),((y:Int):Rat))).tS):=by
 exact zZ [(uI x).tS,(uI y).tS] func32 rfl kA ⟨U,J,trivial⟩ fun a s=>lP<|rgK 0 [] s
  zB fun a w1 s=>zX (CU.len 6) (cs:=zP6) kA rfl s kA (fun W=>rfl) rfl fun b4 a w s=>zD rfl<|lP<|rgK 5 ((5,.Z (uI x))::(6,.Z (fQN ((x:Int):Rat)))::(7,.Z (uI y))::(8,.Z (fQN ((y:Int):Rat)))::(9,.u (fPN (((x:Int):Rat),((y:Int):Rat))))::[]) s
  (oc zA<|oc (zG zC zGM (fun I W hb (O:I=.int .i64 x)=>zDK x O hx))<|oc zA<|oc (zG zC zGM (fun I W hb (O:I=.int .i64 y)=>zDK y O hy))<|oc (q8 (fun u v W (U:QNp ((x:Int):Rat) u W) (J:QNp ((y:Int):Rat) v W)=>zU1 (zBe _) (zBe _) U J))<|zB) fun a w2 s=>zM (fPN (((x:Int):Rat),((y:Int):Rat))) rfl s yY fun a w s=>zD rfl<|pS<|wK s (CU.agg (fPN (((x:Int):Rat),((y:Int):Rat)))) rfl kA rfl rfl (y9 _ _) (fun cs W h=>h)
theorem zTU{u:WE}{p q:V2}(h1:(fPV m p).p u W)(h2:(fPV m q).p v W)(hp:QB p.1 m/\QB p.2 m)(hq:QB q.1 m/\QB q.2 m)(U:m<=990):Calls prog 27 #[u,v] W (Ret W (fPN (p.1+q.1,p.2+q.2)).tS):=by
 refine zZ [(fPV m p).tS,(fPV m q).tS] func27 rfl kA ⟨h1,h2,trivial⟩ fun a s=>lP<|rgK 0 [] s
  zB fun a w1 s=>yL (CU.agg (fPV m p)) rfl s kA (fun v W h=>yV h) fun b2 a w s=>yL (CU.agg (fPV m q)) rfl s kA (fun v W h=>yV h) fun b3 a w s=>zX (CU.len 6) (cs:=zP6) kA rfl s kA (fun W=>rfl) rfl fun b4 a w s=>zD rfl<|lP<|yJ [] 13 ((5,.X (fPV m p) 0)::(6,.Z (fRV m ((p).1)))::(7,.X (fPV m q) 0)::(8,.Z (fRV m ((q).1)))::(9,.s (SF.row 3 (rvs m [(p).1,(q).1])))::(10,.Z (fQN ((p).1+(q).1)))::(11,.X (fPV m p) 3)::(12,.Z (fRV m ((p).2)))::(13,.X (fPV m q) 3)::(14,.Z (fRV m ((q).2)))::(15,.s (SF.row 3 (rvs m [(p).2,(q).2])))::(16,.Z (fQN ((p).2+(q).2)))::(17,.u (fPN (p.1+q.1,p.2+q.2)))::[]) hmix s kA
  (oc (zL (C:=cg (fPV m p)) 0 kA)<|oc (zQ (C:=cg (fPV m p)) (k:=0) 3 kA (h:=zFc))<|oc (zL (C:=cg (fPV m q)) 0 kA)<|oc (zQ (C:=cg (fPV m q)) (k:=0) 3 kA (h:=zFc))<|oc (z9 (fun u v W (I:RVp m ((p).1) u W) (hv:RVp m ((q).1) v W)=>zB5 I hv))<|oc (zG zC zKs (fun J W hb (O:(SF.row 3 (rvs m [(p).1,(q).1])).p J W)=>zCH O hp.1 hq.1 U))<|oc (zL (C:=cg (fPV m p)) 3 kA)<|oc (zQ (C:=cg (fPV m p)) (k:=3) 3 kA (h:=zDL))<|oc (zL (C:=cg (fPV m q)) 3 kA)<|oc (zQ (C:=cg (fPV m q)) (k:=3) 3 kA (h:=zDL))<|oc (z9 (fun u v W (I:RVp m ((p).2) u W) (hv:RVp m ((q).2) v W)=>zB5 I hv))<|oc (zG zC zKs (fun J W hb (O:(SF.row 3 (rvs m [(p).2,(q).2])).p J W)=>zCH O hp.2 hq.2 U))<|oc (q8 (fun u v W (I:QNp ((p).1+(q).1) u W) (hv:QNp ((p).2+(q).2) v W)=>zU1 (zBe _) (zBe _) I hv))<|zB) fun Q' hQ a w2 s=>zM (fPN (p.1+q.1,p.2+q.2)) rfl s yY fun a w s=>zD rfl (hQ _ _ ?_)
 exact pS<|wK s (CU.agg (fPN (p.1+q.1,p.2+q.2))) rfl kA rfl rfl (y9 _ _) (fun cs W h=>h)
theorem zBL{u:WE}{p q:V2}(h1:(fPV m p).p u W)(h2:(fPV m q).p v W)(hm:m<=990)(I:0<m):Calls prog 29 #[u,v] W (Ret W (fPN (p.1-q.1,p.2-q.2)).tS):=by
 refine zZ [(fPV m p).tS,(fPV m q).tS] func29 rfl kA ⟨h1,h2,trivial⟩ fun a s=>lP<|rgK 0 [] s
  zB fun a w1 s=>yL (CU.agg (fPV m p)) rfl s kA (fun v W h=>yV h) fun b2 a w s=>yL (CU.agg (fPV m q)) rfl s kA (fun v W h=>yV h) fun b3 a w s=>zX (CU.len 6) (cs:=zP6) kA rfl s kA (fun W=>rfl) rfl fun b4 a w s=>zD rfl<|lP<|yJ [] 11 ((5,.X (fPV m p) 0)::(6,.Z (fRV m ((p).1)))::(7,.X (fPV m q) 0)::(8,.Z (fRV m ((q).1)))::(9,.Z (fQN ((p).1-(q).1)))::(10,.X (fPV m p) 3)::(11,.Z (fRV m ((p).2)))::(12,.X (fPV m q) 3)::(13,.Z (fRV m ((q).2)))::(14,.Z (fQN ((p).2-(q).2)))::(15,.u (fPN (p.1-q.1,p.2-q.2)))::[]) hmix s kA
  (oc (zL (C:=cg (fPV m p)) 0 kA)<|oc (zQ (C:=cg (fPV m p)) (k:=0) 3 kA (h:=zFc))<|oc (zL (C:=cg (fPV m q)) 0 kA)<|oc (zQ (C:=cg (fPV m q)) (k:=0) 3 kA (h:=zFc))<|oc (zH zC zPb (fun J O W hb (U:RVp m ((p).1) J W) (h1:RVp m ((q).1) O W)=>zF4 U h1 hm I))<|oc (zL (C:=cg (fPV m p)) 3 kA)<|oc (zQ (C:=cg (fPV m p)) (k:=3) 3 kA (h:=zDL))<|oc (zL (C:=cg (fPV m q)) 3 kA)<|oc (zQ (C:=cg (fPV m q)) (k:=3) 3 kA (h:=zDL))<|oc (zH zC zPb (fun J O W hb (U:RVp m ((p).2) J W) (h1:RVp m ((q).2) O W)=>zF4 U h1 hm I))<|oc (q8 (fun u v W (hu:QNp ((p).1-(q).1) u W) (hv:QNp ((p).2-(q).2) v W)=>zU1 (zBe _) (zBe _) hu hv))<|zB) fun Q' hQ a w2 s=>zM (fPN (p.1-q.1,p.2-q.2)) rfl s yY fun a w s=>zD rfl (hQ _ _ ?_)
 exact pS<|wK s (CU.agg (fPN (p.1-q.1,p.2-q.2))) rfl kA rfl rfl (y9 _ _) (fun cs W h=>h)
theorem zNK{u:WE}{p:V2}{t:Rat}(h1:(fPV m p).p u W)(h2:RVp m t v W)(U:QB p.1 m/\QB p.2 m)(ht:QB t m)(hm:m<=990):Calls prog 26 #[u,v] W (Ret W (fPN (p.1*t,p.2*t)).tS):=by
 refine zZ [(fPV m p).tS,(fRV m t).tS] func26 rfl kA ⟨h1,h2,trivial⟩ fun a s=>lP<|rgK 0 [] s
  zB fun a w1 s=>yL (CU.agg (fPV m p)) rfl s kA (fun v W h=>yV h) fun b2 a w s=>yL (CU.agg (fRV m t)) rfl s kA (fun v W h=>zAm h) fun b3 a w s=>zX (CU.len 6) (cs:=zP6) kA rfl s kA (fun W=>rfl) rfl fun b4 a w s=>zD rfl<|lP<|yJ [] 11 ((5,.X (fPV m p) 0)::(6,.Z (fRV m ((p).1)))::(7,.Z (fRV m t))::(8,.s (SF.row 3 (rvs m [(p).1,t])))::(9,.Z (fQN ((p).1*t)))::(10,.X (fPV m p) 3)::(11,.Z (fRV m ((p).2)))::(12,.Z (fRV m t))::(13,.s (SF.row 3 (rvs m [(p).2,t])))::(14,.Z (fQN ((p).2*t)))::(15,.u (fPN (p.1*t,p.2*t)))::[]) hmix s kA
  (oc (zL (C:=cg (fPV m p)) 0 kA)<|oc (zQ (C:=cg (fPV m p)) (k:=0) 3 kA (h:=zFc))<|oc (zT (f:=fRV m t) 3 kA (hz:=qS _ _))<|oc (z9 (fun u v W (I:RVp m ((p).1) u W) (hv:RVp m t v W)=>zB5 I hv))<|oc (zG zC zJB (fun J W hb (O:(SF.row 3 (rvs m [(p).1,t])).p J W)=>zCj O U.1 ht oA))<|oc (zL (C:=cg (fPV m p)) 3 kA)<|oc (zQ (C:=cg (fPV m p)) (k:=3) 3 kA (h:=zDL))<|oc (zT (f:=fRV m t) 3 kA (hz:=qS _ _))<|oc (z9 (fun u v W (I:RVp m ((p).2) u W) (hv:RVp m t v W)=>zB5 I hv))<|oc (zG zC zJB (fun J W hb (O:(SF.row 3 (rvs m [(p).2,t])).p J W)=>zCj O U.2 ht oA))<|oc (q8 (fun u v W (I:QNp ((p).1*t) u W) (hv:QNp ((p).2*t) v W)=>zU1 (zBe _) (zBe _) I hv))<|zB) fun Q' hQ a w2 s=>zM (fPN (p.1*t,p.2*t)) rfl s yY fun a w s=>zD rfl (hQ _ _ ?_)
 exact pS<|wK s (CU.agg (fPN (p.1*t,p.2*t))) rfl kA rfl rfl (y9 _ _) (fun cs W h=>h)
theorem zC3{u:WE}{p q:V2}(h1:(fPV m p).p u W)(h2:(fPV m q).p v W)(U:QB p.1 m/\QB p.2 m)(O:QB q.1 m/\QB q.2 m)(hm:m<=495)(hm0:0<m):Calls prog 39 #[u,v] W (Ret W (fQN (p.1*q.2-p.2*q.1)).tS):=by
 refine zZ [(fPV m p).tS,(fPV m q).tS] func39 rfl kA ⟨h1,h2,trivial⟩ fun a s=>lP<|rgK 0 [] s
  zB fun a w1 s=>yL (CU.agg (fPV m p)) rfl s kA (fun v W h=>yV h) fun b2 a w s=>yL (CU.agg (fPV m q)) rfl s kA (fun v W h=>yV h) fun b3 a w s=>zX (CU.len 3) (cs:=zR3) kA rfl s kA (fun W=>rfl) rfl fun b4 a w s=>zD rfl<|lP<|yJ [] 13 ((5,.X (fPV m p) 0)::(6,.Z (fRV m ((p).1)))::(7,.X (fPV m q) 3)::(8,.Z (fRV m ((q).2)))::(9,.s (SF.row 3 (rvs m [(p).1,(q).2])))::(10,.Z (fQN ((p).1*(q).2)))::(11,.X (fPV m p) 3)::(12,.Z (fRV m ((p).2)))::(13,.X (fPV m q) 0)::(14,.Z (fRV m ((q).1)))::(15,.s (SF.row 3 (rvs m [(p).2,(q).1])))::(16,.Z (fQN ((p).2*(q).1)))::(17,.u (fQN (((p).1*(q).2)-((p).2*(q).1))))::[]) hmix s kA
  (oc (zL (C:=cg (fPV m p)) 0 kA)<|oc (zQ (C:=cg (fPV m p)) (k:=0) 3 kA (h:=zFc))<|oc (zL (C:=cg (fPV m q)) 3 kA)<|oc (zQ (C:=cg (fPV m q)) (k:=3) 3 kA (h:=zDL))<|oc (z9 (fun u v W (hu:RVp m ((p).1) u W) (hv:RVp m ((q).2) v W)=>zB5 hu hv))<|oc (zG zC zJB (fun I W hb (J:(SF.row 3 (rvs m [(p).1,(q).2])).p I W)=>zCj J U.1 O.2 oA))<|oc (zL (C:=cg (fPV m p)) 3 kA)<|oc (zQ (C:=cg (fPV m p)) (k:=3) 3 kA (h:=zDL))<|oc (zL (C:=cg (fPV m q)) 0 kA)<|oc (zQ (C:=cg (fPV m q)) (k:=0) 3 kA (h:=zFc))<|oc (z9 (fun u v W (hu:RVp m ((p).2) u W) (hv:RVp m ((q).1) v W)=>zB5 hu hv))<|oc (zG zC zJB (fun I W hb (J:(SF.row 3 (rvs m [(p).2,(q).1])).p I W)=>zCj J U.2 O.1 oA))<|oc (zH zC zPb (fun I u1 W hb (J:QNp ((p).1*(q).2) I W) (h1:QNp ((p).2*(q).1) u1 W)=>zF4 (wH J (U.1.mul O.2)) (wH h1 (U.2.mul O.1)) oA oA))<|zB) fun Q' hQ a w2 s=>zM (fQN (((p).1*(q).2)-((p).2*(q).1))) rfl s zW fun a w s=>zD rfl (hQ _ _ ?_)
 exact pS<|wK s (CU.agg (fQN (p.1*q.2-p.2*q.1))) rfl kA rfl rfl (yW _) (fun cs W h=>h)
theorem zVT(M:Nat){W:WB}{u v x:WE}{p q:V2}{t:Rat}(h1:(fPV m p).p u W)(h2:(fPV m q).p v W)(h3:RVp k t x W)(I:QB p.1 m/\QB p.2 m)(J:QB q.1 m/\QB q.2 m)(ht:QB t k)(h5:0<m)(hM:m+m+1+k<=M)(hM2:M<=990):Calls prog 118 #[u,v,x] W (Ret W (fPN (seg p q t)).tS):=by
 refine zZ [(fPV m p).tS,(fPV m q).tS,(fRV k t).tS] func118 rfl kA ⟨h1,h2,h3,trivial⟩ fun a s=>lP<|rgK 0 [] s
  zB fun a w1 s=>yL (CU.agg (fPV m p)) rfl s kA (fun v W h=>yV h) fun b3 a w s=>yL (CU.agg (fPV m q)) rfl s kA (fun v W h=>yV h) fun b4 a w s=>yL (CU.agg (fRV k t)) rfl s kA (fun v W h=>zAm h) fun b5 a w s=>zX (CU.len 6) (cs:=zP6) kA rfl s kA (fun W=>rfl) rfl fun b6 a w s=>zD rfl<|lP<|yJ [] 7 ((7,.Z (fPV m p))::(8,.Z (fPV m q))::(9,.Z (fPV m p))::(10,.Z (fPN ((q).1-(p).1,(q).2-(p).2)))::(11,.Z (fRV k t))::(12,.Z (fPN (((q).1-(p).1)*t,((q).2-(p).2)*t)))::(13,.u (fPN (seg p q t)))::[]) hmix s kA
  (oc (zK m p)<|oc (zK m q)<|oc (zK m p)<|oc (zH zC zFl (fun O U W hb (h0:(fPV m q).p O W) (h1:(fPV m p).p U W)=>zBL (p:=q) (q:=p) h0 h1 oA h5))<|oc (zT (f:=fRV k t) 3 kA (hz:=qS _ _))<|oc (zH zC zYG (fun O U W hb (h0:(fPN ((q).1-(p).1,(q).2-(p).2)).p O W) (h1:RVp k t U W)=>zNK (p:=((q).1-(p).1,(q).2-(p).2)) (zBu (p:=((q).1-(p).1,(q).2-(p).2)) (m:=M) ((show QB _ _/\QB _ _ from⟨J.1.sub I.1,J.2.sub I.2⟩).1.mono fP) ((show QB _ _/\QB _ _ from⟨J.1.sub I.1,J.2.sub I.2⟩).2.mono fP) h0) (RVp.mono h1 oA) ⟨(show QB _ _/\QB _ _ from⟨J.1.sub I.1,J.2.sub I.2⟩).1.mono oA,(show QB _ _/\QB _ _ from⟨J.1.sub I.1,J.2.sub I.2⟩).2.mono oA⟩ (ht.mono oA) oA))<|oc (zH zC zYF (fun O U W hb (h0:(fPV m p).p O W) (h1:(fPN (((q).1-(p).1)*t,((q).2-(p).2)*t)).p U W)=>zTU (p:=p) (q:=(((q).1-(p).1)*t,((q).2-(p).2)*t)) (zF6 (m':=M) oA h0) (zBu (p:=(((q).1-(p).1)*t,((q).2-(p).2)*t)) (m:=M) ((show QB _ _/\QB _ _ from⟨(J.1.sub I.1).mul ht,(J.2.sub I.2).mul ht⟩).1.mono fP) ((show QB _ _/\QB _ _ from⟨(J.1.sub I.1).mul ht,(J.2.sub I.2).mul ht⟩).2.mono fP) h1) ⟨I.1.mono oA,I.2.mono oA⟩ ⟨(show QB _ _/\QB _ _ from⟨(J.1.sub I.1).mul ht,(J.2.sub I.2).mul ht⟩).1.mono oA,(show QB _ _/\QB _ _ from⟨(J.1.sub I.1).mul ht,(J.2.sub I.2).mul ht⟩).2.mono oA⟩ oA))<|zB) fun Q' hQ a w2 s=>zM (fPN (seg p q t)) rfl s yY fun a w s=>zD rfl (hQ _ _ ?_)
 exact pS<|wK s (CU.agg (fPN (seg p q t))) rfl kA rfl rfl (y9 _ _) (fun cs W h=>h)
theorem zNM{u:WE}{p:V2}(h1:(fPN p).p u W)(h2:(fPN p).p v W):Calls prog 48 #[u,v] W (Ret W (fB true).tS):=by
 refine zZ [(fPN p).tS,(fPN p).tS] func48 rfl kA ⟨h1,h2,trivial⟩ fun a s=>lP<|rgK 0 [] s
  zB fun a w1 s=>yL (CU.agg (fPN p)) rfl s kA (fun v W h=>yV h) fun b2 a w s=>yL (CU.agg (fPN p)) rfl s kA (fun v W h=>yV h) fun b3 a w s=>yQ (uB false) rfl s kA iiz fun a w s=>zD rfl<|lP ?_
 replace s:=s.drop [4]
 exact rgE ((5,.X (fPN p) 0)::(6,.Z (fQN ((p).1)))::(7,.X (fPN p) 0)::(8,.Z (fQN ((p).1)))::(9,.Z (uB true))::(10,.Z (uB true))::(11,.X (fPN p) 3)::(12,.Z (fQN ((p).2)))::(13,.X (fPN p) 3)::(14,.Z (fQN ((p).2)))::(15,.Z (uB true))::(16,.Z (uB true))::(4,.u (uB true))::[]) s
  (oc (zL (C:=cg (fPN p)) 0 kA)<|oc (zQ (C:=cg (fPN p)) (k:=0) 3 kA (h:=zFc))<|oc (zL (C:=cg (fPN p)) 0 kA)<|oc (zQ (C:=cg (fPN p)) (k:=0) 3 kA (h:=zFc))<|oc (zH zC zWC (fun J O W hb (I:QNp ((p).1) J W) (h1:QNp ((p).1) O W)=>zLg I h1))<|oc zA<|oc (zE 10 true kA iiz (fun _=>zL (C:=cg (fPN p)) 3 kA) arf)<|oc (zE 10 true kA iiz (fun _=>zQ (C:=cg (fPN p)) (k:=3) 3 kA (h:=zDL)) arf)<|oc (zE 10 true kA iiz (fun _=>zL (C:=cg (fPN p)) 3 kA) arf)<|oc (zE 10 true kA iiz (fun _=>zQ (C:=cg (fPN p)) (k:=3) 3 kA (h:=zDL)) arf)<|oc (zE 10 true kA iiz (fun _=>zH zC zWC (fun J O W hb (I:QNp ((p).2) J W) (h1:QNp ((p).2) O W)=>zLg I h1)) arf)<|oc (yC true iiz (fun _ _ _ h=>h) fS)<|oc zF<|zB) fun a w2 s=>pS<|wF s (t:=4) rfl iiz
theorem zZs(s:Bool)(A A':WG Addr)(n n' c c':Nat)(s2:Bool)(B B':WG Addr)(k k' d d':Nat):yI prog 22 1 [(0,.agg #[.bool s,.slice A n c,.slice A' n' c',.bool s2,.slice B k d,.slice B' k' d'])]=some (30,#[.bool s,.slice A n c,.slice A' n' c',.bool s2,.slice B k d,.slice B' k' d']):=fJ
theorem zFX{f:UF}{u:WE}(h:(fPT f g).p u W):∃e cs,yI prog 22 1 [(0,u)]=some (e,cs)/\(SF.row 6 [CU.agg (fPT f g)]).p (.slice (some ⟨W.heap.size,0,none⟩) 1 1) (W.alloc (.cells cs e)):=by
 obtain⟨s,A,n,c,A',n',c',s2,B,k,d,B',k',d',rfl,J,h2⟩:=h
 refine⟨_,_,zZs s A A' n n' c c' s2 B B' k k' d d',some ⟨W.heap.size,0,none⟩,1,rfl,vQ _,fH,fun e=>(by cases e),fun i C hi=>?_⟩
 have hb:=zCs W (.cells #[.bool s,.slice A n c,.slice A' n' c',.bool s2,.slice B k d,.slice B' k' d'] 30)
 have I:=zBw W #[.bool s,.slice A n c,.slice A' n' c',.bool s2,.slice B k d,.slice B' k' d'] 30
 obtain rfl:i=0:=by have:=(bE.1 hi).1;simp at this;omega
 obtain rfl:CU.agg (fPT f g)=C:=by simpa using hi
 refine⟨W.heap.size,0, [.bool s,.slice A n c,.slice A' n' c',.bool s2,.slice B k d,.slice B' k' d'],rfl,?_,(CU.agg (fPT f g)).us _ _ _ ⟨s,A,n,c,A',n',c',s2,B,k,d,B',k',d',rfl,J,h2⟩ (zR hb)⟩
 rw[show 0+0*6=0 from rfl]
 exact I
theorem zOg(f g:UF):∀C,C∈ [CU.agg (fPT f g)]->CU.ok 6 C:=fun C I=>by
 obtain rfl:C=CU.agg (fPT f g):=by simpa using I
 exact zBV f g
theorem zLp(h:k<ps.length):pns (ps.take (k+1))=pns (ps.take k)++ [CU.agg (fPN (at_ ps k))]:=by
 unfold pns at_
 rw[nW,rQ,rG,nE h]
 rfl
theorem zQG(hl:(SF.row 6 (pvs m ps)).p l W)(hm:m<=2000)(hps:ps.length<=1000000):Calls prog 140 #[l] W (Ret W (wI W 30 6 (pns ps))):=by
 refine zZ [(UF.eq l).tS] func140 rfl kA ⟨rfl,trivial⟩ fun a s=>?_
 replace s:=s.renew [(0,.u (UF.eq l))] (fU (.inr ⟨_,rfl,.head _⟩) fnz)
 refine rgQ ((2,.u (UF.eq (sN)))::[]) s
  (oc zF<|zB) fun a w1 s=>rgQ ((3,.u (UF.eq (sN)))::[]) s
  (oc zF<|zB) fun a w2 s=>lP<|rgQ ((4,.u (uI 0))::[]) s
  (oc zF<|zB) fun a w3 s=>tT<|zHv (fun(p:Nat×WE) w=>p.1<=ps.length/\W.heap.size<=w.heap.size/\zAO w W.heap.size 30 6 p.2 (pns (ps.take p.1))) (fun p=> [(0,.u (UF.eq l)),(3,.u (UF.eq (p.2))),(4,.u (uI (p.1:Int)))]) (fun p=>ps.length-p.1) (0, sN) (⟨vS _,s.gr.size,zAO.nil _ _ _ _⟩) (s.keepK _ (fU mz3<|fU mz1<|fU (.head _) fnz)) fun p a w hI s=>?_
 have s0:=s
 replace s:=s.reb rfl [(0,.o (SF.row 6 (pvs m ps))),(0,.u (UF.eq l)),(3,.u (UF.eq (p.2))),(4,.u (uI (p.1:Int)))] (fU (.inr ⟨_,rfl,(SF.row 6 (pvs m ps)).st _ _ _ (by rw[show a.tmps.getD (0,KF.o (SF.row 6 (pvs m ps))).1 undef=l from s.val (.head _)];exact hl) s.below⟩)<|fU (.inl (.head _))<|fU (.inl mz1)<|fU (.inl mz2) fnz)
 refine lP<|rgQ ((5,.Z (uI (p.1:Int)))::(6,.s (SF.row 6 (pvs m ps)))::(7,.Z (uI ((pvs m ps).length:Int)))::(8,.u (uB (ltz p.1 ((pvs m ps).length))))::[]) s
  (oc zA<|oc zA<|oc (zGd (z:=6) (Cs:=pvs m ps) kA iiz (fun _=>rfl))<|oc (zI .i64 (p.1:Int) ((pvs m ps).length:Int) (ltz p.1 ((pvs m ps).length)) iiz iiz rfl rfl)<|zB) fun a w4 s=>StS.cond s (ltz p.1 ((pvs m ps).length)) iiz (fun e=>?_) (fun e=>?_)
 .have I:p.1<ps.length:=by have:=xX e;simp at this;omega
  refine pT<|lP<|tT<|zBF (K:=[(8,.u (uB (ltz p.1 ((pvs m ps).length)))),(0,.o (SF.row 6 (pvs m ps))),(0,.u (UF.eq l)),(4,.u (uI (p.1:Int)))]) [(3,.u (UF.eq (p.2)))] [0,1,2,7,8] 15 ((11,.u (UF.eq (p.2)))::(12,.s (SF.row 6 (pvs m ps)))::(13,.Z (uI (p.1:Int)))::(14,.Y (fPV m (at_ ps p.1)))::(15,.X (fPV m (at_ ps p.1)) 0)::(16,.Z (fRV m ((at_ ps p.1).1)))::(17,.Z (fQN ((at_ ps p.1).1)))::(18,.s (SF.row 6 (pvs m ps)))::(19,.Z (uI (p.1:Int)))::(20,.Y (fPV m (at_ ps p.1)))::(21,.X (fPV m (at_ ps p.1)) 3)::(22,.Z (fRV m ((at_ ps p.1).2)))::(23,.Z (fQN ((at_ ps p.1).2)))::(24,.Z (fPN ((at_ ps p.1).1,(at_ ps p.1).2)))::(25,.s (SF.row 6 [CU.agg (fPN ((at_ ps p.1).1,(at_ ps p.1).2))]))::[]) hmix (s.keepK _ (fU mz3<|fU (.head _)<|fU mz1<|fU mz2<|fU mz4 fnz)) kA
   (oc zA<|oc zA<|oc zA<|oc (zCm (z:=6) (Cs:=pvs m ps) (i:=p.1) (C:=CU.agg (fPV m (at_ ps p.1))) kA (qJ I) iiz iiz)<|oc (zL (C:=cg (fPV m (at_ ps p.1))) 0 kA)<|oc (zQ (C:=cg (fPV m (at_ ps p.1))) (k:=0) 3 kA (h:=zFc))<|oc (zG zC zIp (fun U W hb (h0:RVp m ((at_ ps p.1).1) U W)=>zBU h0 hm))<|oc zA<|oc zA<|oc (zCm (z:=6) (Cs:=pvs m ps) (i:=p.1) (C:=CU.agg (fPV m (at_ ps p.1))) kA (qJ I) iiz iiz)<|oc (zL (C:=cg (fPV m (at_ ps p.1))) 3 kA)<|oc (zQ (C:=cg (fPV m (at_ ps p.1))) (k:=3) 3 kA (h:=zDL))<|oc (zG zC zIp (fun U W hb (h0:RVp m ((at_ ps p.1).2) U W)=>zBU h0 hm))<|oc (q8 (fun u v W (hu:QNp ((at_ ps p.1).1) u W) (hv:QNp ((at_ ps p.1).2) v W)=>zU1 (zBe _) (zBe _) hu hv))<|oc (jV (fun u W (hu:(fPN ((at_ ps p.1).1,(at_ ps p.1).2)).p u W)=>zFX hu))<|zB) fun Q' hQ a w5 s hr=>zTv ([CU.agg (fPN ((at_ ps p.1).1,(at_ ps p.1).2))]) s0 (s.keepK [(11,.u (UF.eq (p.2))),(8,.u (uB (ltz p.1 ((pvs m ps).length)))),(0,.u (UF.eq l)),(4,.u (uI (p.1:Int)))] (fU (.head _)<|fU mz1<|fU mz3<|fU mz4 fnz)) lr hI.2 rfl kA kA kA (s.fct (.tmp 11)) (hr (_,_) zX5) (zOg _ _) fM (fun q hq=>by cases hq) fun v' a w O s=>?_
  have s1:=s
  replace s:=s.reb rfl [(26,.u (UF.eq v')),(11,.u (UF.eq (p.2))),(8,.u (uB (ltz p.1 ((pvs m ps).length)))),(0,.u (UF.eq l)),(4,.u (uI (p.1:Int)))] (fU (.inl (.head _))<|fU (.inl mz1)<|fU (.inl mz2)<|fU (.inl mz3)<|fU (.inl mz4) fnz)
  refine yQ (UF.eq v') rfl s kA iiz fun a w s=>zD rfl (hQ _ _ ?_)
  refine zV 2 ((9,.Z (uI (p.1:Int)))::(10,.u (uI ((p.1+1:Nat):Int)))::[]) s kA
   (oc zA<|oc (yB .i64 (p.1:Int) 1 ((p.1+1:Nat):Int) iiz iiz (wrap64 _ _ oA oA))<|zB) fun a w6 s=>?_
  replace s:=s.drop [4]
  refine yQ (uI ((p.1+1:Nat):Int)) rfl s kA iiz fun a w s=>zD rfl ?_
  have J:=s.below
  replace s:=s1.back (s.keepK [(4,.u (uI ((p.1+1:Nat):Int))),(10,.u (uI ((p.1+1:Nat):Int))),(3,.u (UF.eq v')),(26,.u (UF.eq v')),(11,.u (UF.eq (p.2))),(8,.u (uB (ltz p.1 ((pvs m ps).length)))),(0,.u (UF.eq l))] (fU (.head _)<|fU mz1<|fU mz2<|fU mz3<|fU mz4<|fU mz5<|fU mz6 fnz)) rfl
  exact⟨(p.1+1,v'),(by show ps.length-(p.1+1)<ps.length-p.1;omega),⟨I,xR O.1 J.size,by rw[zLp I];exact O.2.below J⟩,s.keepK _ (fU mz6<|fU mz2<|fU (.head _) fnz)⟩
 .have I:p.1=ps.length:=by have:=nF e;simp at this;omega
  exact tU<|rgQ ((27,.Z (UF.eq (p.2)))::(2,.u (UF.eq (p.2)))::[]) s
   (oc zA<|oc zF<|zB) fun a w7 s=>pS<|StS.resN s s0.below rfl (by rw[s.val (.head _)];have:=hI.2.2.below s.below;rw[I,rT]at this;exact this)
theorem zC6(I:0<m){p:V2}{v:WE}{W:WB}(h:(fPV m p).p v W):QB p.1 m/\QB p.2 m:=by
 obtain⟨_,_,_,_,_,_,_,_,_,_,_,_,_,_,_,J,h2⟩:=h
 exact⟨J.qb I,h2.qb I⟩
theorem zEi(h:(SF.row z Cs).p v W):v.cells=#[v]/\zY v=true:=by
 obtain⟨A,c,rfl,_⟩:=h
 exact⟨rfl,rfl⟩
section
variable {F:Fence}{m:Nat}{P:WH}{w0:WB}{ops:Array Oper}{G:Nat->SF}{d:Tmp}{ty:WF}{pos:String}{aft:Array Edge}
def zHf(P:WH)(t:WF)(i:Nat):WG Nat:=match P.underlying t with
 |some (.array n e)=>match P.info? e with
  |some ie=>if i<n then some (i*ie.size)else none
  |none=>none
 |_=>none
theorem zAM{C:CF}(i k:Nat)(I:zHf P t i=some k)(hx:∀v W,(fct G x).p v W->(wC C).p v W)(hy:∀v W,(fct G y).p v W->v=.int .i64 (i:Int))(hd:∀v W,(wC (C.at k)).p v W->(G d).p v W:=by exact fun _ _ h=>h):qO F m P w0 ops G ⟨some d,.indexAddr t x y,ty,pos,aft,none⟩:=
 qG (fun _ e=>by cases e) (fun _ e=>by cases e) fun b W hb U=>by
  obtain⟨a,q,cs,e,h2,h3⟩:=hx _ _ (U x (by simp[Op.operands]))
  have e2:=hy _ _ (U y (by simp[Op.operands]))
  unfold zHf at I
  split at I<;>try cases I
  rename_i n el hu
  split at I<;>try cases I
  rename_i ie O
  split at I<;>try cases I
  rename_i J
  refine⟨.pointer (some ⟨a,q+i*ie.size,none⟩),?_,hd _ _ ⟨_,_,_,rfl,⟨cs,h2,rfl⟩,h3.drop _⟩⟩
  have h9: ¬n<=i:=oA
  simp[execOp,Instr.indexAt,bI hu,e,e2,Instr.sureAddr,sizeOf,typeInfo,O,xI,asIntOf,J,h9]
end
abbrev V6:=V2×V2×V2
abbrev tl(t:V6):List V2:=[t.1,t.2.1,t.2.2]
def at3(l:List V6)(i:Nat):V6:=l.getD i ((0,0),(0,0),(0,0))
def TRp(m:Nat)(t:V6)(v:WE)(w:WB):Prop:=∃a b c:List WE,v=.agg (a++b++c).toArray/\(CU.agg (fPV m t.1)).p a w/\(CU.agg (fPV m t.2.1)).p b w/\(CU.agg (fPV m t.2.2)).p c w
def fTR(m:Nat)(t:V6):UF:=.mk' (TRp m t) fun _ _ _ ⟨a,b,c,e,h1,h2,h3⟩ k=>⟨a,b,c,e,(CU.agg _).us _ _ _ h1 k,(CU.agg _).us _ _ _ h2 k,(CU.agg _).us _ _ _ h3 k⟩
theorem zEc{t:V6}(h:TRp m t (.agg cs.toArray) W):∃a b c:List WE,cs=a++b++c/\a.length=6/\b.length=6/\c.length=6/\(CU.agg (fPV m t.1)).p a W/\(CU.agg (fPV m t.2.1)).p b W/\(CU.agg (fPV m t.2.2)).p c W:=by
 obtain⟨a,b,c,e,I,h2,h3⟩:=h
 have:=vR Array.toList (jX e)
 simp only[zZY]at this
 exact⟨a,b,c,this,(zBV _ _ a W I).1,(zBV _ _ b W h2).1,(zBV _ _ c W h3).1,I,h2,h3⟩
theorem zP5(m:Nat)(t:V6):CU.ok 18 (CU.agg (fTR m t)):=fun cs W h=>by
 obtain⟨a,b,c,rfl,l1,l2,l3,h1,h2,h3⟩:=zEc h
 have U:=zBV _ _ a W h1;have J:=zBV _ _ b W h2;have O:=zBV _ _ c W h3
 refine⟨by simp[l1,l2,l3],zD6 U.2.1 J.2.1 O.2.1,fun u I=>?_⟩
 rcases vW.1 I with I|I
 .rcases vW.1 I with I|I
  .exact U.2.2 u I
  .exact J.2.2 u I
 .exact O.2.2 u I
theorem zKS(m:Nat)(t:V6):∀cs:List WE,∀W,(fTR m t).p (.agg cs.toArray) W->cs.length=18:=fun cs W h=>(zP5 m t cs W h).1
theorem zM7{t:V6}(h:(fTR m t).p v W):(CU.agg (fTR m t)).p v.cells.toList W/\v.cells.toList.all zY=true:=by
 obtain⟨a,b,c,rfl,h1⟩:=id h
 exact⟨h,(zP5 m t _ W h).2.1⟩
theorem zKQ{t:V6}(v:WE)(W:WB)(h:(fTR m t).p v W):∃vs:List WE,v=.agg vs.toArray/\vs.length=18/\(∀u,u∈vs->u.oneCell'=true)/\vs.all zY=true/\(CU.agg (fTR m t)).p vs W:=by
 obtain⟨a,b,c,rfl,h1⟩:=id h
 have:=zP5 m t _ W h
 exact⟨_,rfl,this.1,this.2.2,this.2.1,h⟩
theorem zGQ{t:V6}(cs:List WE)(W:WB)(h:(CU.agg (fTR m t)).p cs W):0+6<=cs.length/\(fPV m t.1).p (.agg ((cs.drop 0).take 6).toArray) W:=by
 obtain⟨a,b,c,rfl,J,I,l3,O,_⟩:=zEc h
 refine⟨by simp[J,I,l3],?_⟩
 rw[nJ,sZ,tM oA,nK oA]
 exact O
theorem zKR{t:V6}(cs:List WE)(W:WB)(h:(CU.agg (fTR m t)).p cs W):6+6<=cs.length/\(fPV m t.2.1).p (.agg ((cs.drop 6).take 6).toArray) W:=by
 obtain⟨a,b,c,rfl,J,I,l3,_,h2,_⟩:=zEc h
 refine⟨by simp[J,I,l3],?_⟩
 rw[sZ,tO oA,pA oA,lS,tM oA,nK oA]
 exact h2
theorem zHn{t:V6}(cs:List WE)(W:WB)(h:(CU.agg (fTR m t)).p cs W):12+6<=cs.length/\(fPV m t.2.2).p (.agg ((cs.drop 12).take 6).toArray) W:=by
 obtain⟨a,b,c,rfl,J,I,l3,_,_,h3⟩:=zEc h
 refine⟨by simp[J,I,l3],?_⟩
 rw[tO fM,pA fM,lS,nK oA]
 exact h3
abbrev trs(m:Nat)(ts:List V6):List CU:=ts.map fun t=>CU.agg (fTR m t)
theorem zDT{ts:List V6}(h:i<ts.length):(trs m ts)[i]?=some (CU.agg (fTR m (at3 ts i))):=by
 unfold trs at3;rw[tK,rG,nE h];rfl
theorem zQU{m':Nat}(O:m<=m'){ps:List V2}(v:WE)(W:WB)(U:(SF.row 6 (pvs m ps)).p v W):(SF.row 6 (pvs m' ps)).p v W:=
 zHE fC (fun i C D I J cs W h=>by
  have hi:i<ps.length:=by have:=(bE.1 I).1;simpa using this
  rw[qJ hi]at I
  rw[qJ hi]at J
  cases I;cases J
  exact zF6 O h) v W U
section
variable {F:Fence}{m:Nat}{P:WH}{w0:WB}{ops:Array Oper}{G:Nat->SF}{d:Tmp}{ty:WF}{pos:String}{aft:Array Edge}
end
theorem zPC{l:List V6}(h:i<l.length):at3 l i∈l:=by
 unfold at3;rw[rG,nE h];exact uZ h
theorem qY{W':WB}(h:W.heap.size<=W'.heap.size)(v:WE)(w:WB)(I:(wI W' e z Cs).p v w):(wI W e z Cs).p v w:=zAO.mono I h
theorem zI9(I:0<m){ps:List V2}{v:WE}{W:WB}(h:(SF.row 6 (pvs m ps)).p v W):∀x,x∈ps->QB x.1 m/\QB x.2 m:=fun x U=>by
 obtain⟨i,hi,rfl⟩:=zFg U
 obtain⟨_,_,_,_,_,_,O⟩:=h
 obtain⟨b,o,cs,_,_,J⟩:=O i _ (qJ hi)
 exact zC6 I (v:=.agg cs.toArray) J
abbrev PX:=QX×QX
abbrev PX.p(x:PX):V2:=(x.1.q,x.2.q)
abbrev PX.u(x:PX):UF:=fPT (fQX x.1.n x.1.n' x.1.k x.1.d) (fQX x.2.n x.2.n' x.2.k x.2.d)
abbrev PX.cu(x:PX):CU:=CU.agg x.u
abbrev pxs(L:List PX):List CU:=L.map PX.cu
abbrev pps(L:List PX):List V2:=L.map PX.p
theorem zZw{x:PX}(cs:List WE)(W:WB)(h:(PX.cu x).p cs W):∃u,cs[1]?=some u/\(fSl x.1.n).p u W:=by
 obtain⟨s,A,n,c,A',n',c',s2,B,k,d,B',k',d',e,I,h2⟩:=h
 rw[zEJ e]
 have:=zSm _ W (show(QX.cu x.1).p [Value.bool s,.slice A n c,.slice A' n' c'] W from I)
 exact this
theorem zZv{x:PX}(cs:List WE)(W:WB)(h:(PX.cu x).p cs W):∃u,cs[2]?=some u/\(fSl x.1.n').p u W:=by
 obtain⟨s,A,n,c,A',n',c',s2,B,k,d,B',k',d',e,I,h2⟩:=h
 rw[zEJ e]
 have:=zSl _ W (show(QX.cu x.1).p [Value.bool s,.slice A n c,.slice A' n' c'] W from I)
 exact this
theorem zZu{x:PX}(cs:List WE)(W:WB)(h:(PX.cu x).p cs W):∃u,cs[4]?=some u/\(fSl x.2.n).p u W:=by
 obtain⟨s,A,n,c,A',n',c',s2,B,k,d,B',k',d',e,h1,h2⟩:=h
 rw[zEJ e]
 have:=zSm _ W (show(QX.cu x.2).p [Value.bool s2,.slice B k d,.slice B' k' d'] W from h2)
 exact this
theorem zZt{x:PX}(cs:List WE)(W:WB)(h:(PX.cu x).p cs W):∃u,cs[5]?=some u/\(fSl x.2.n').p u W:=by
 obtain⟨s,A,n,c,A',n',c',s2,B,k,d,B',k',d',e,h1,h2⟩:=h
 rw[zEJ e]
 have:=zSl _ W (show(QX.cu x.2).p [Value.bool s2,.slice B k d,.slice B' k' d'] W from h2)
 exact this
section
variable {F:Fence}{m:Nat}{P:WH}{w0:WB}{ops:Array Oper}{G:Nat->SF}{d:Tmp}{ty:WF}{pos:String}{aft:Array Edge}
theorem zUm{z u:WL}{ats:Array WF}(a b c e:Nat)(hx:∀q W,(fct G x).p q W->q=.int .i64 (a:Nat))(hy:∀q W,(fct G y).p q W->q=.int .i64 (b:Nat))(hz:∀q W,(fct G z).p q W->q=.int .i64 (c:Nat))(hu:∀q W,(fct G u).p q W->q=.int .i64 (e:Nat))(hd:∀W,(G d).p (.int .i64 ((max (max (max a b) c) e:Nat):Int)) W:=by exact fun _=>rfl):qO F m P w0 ops G ⟨some d,.call ⟨.builtin .max,#[x,y,z,u],ats⟩,ty,pos,aft,none⟩:=by
 intro bb W K Q hb hr hK
 have e1:=hx _ _ (qB hr (x:=x) (by simp[Op.operands,Call.operands]))
 have e2:=hy _ _ (qB hr (x:=y) (by simp[Op.operands,Call.operands]))
 have e3:=hz _ _ (qB hr (x:=z) (by simp[Op.operands,Call.operands]))
 have e4:=hu _ _ (qB hr (x:=u) (by simp[Op.operands,Call.operands]))
 refine⟨fun f hf=>(by
  unfold Oper.about at hf
  simp[resolve,go_sem]at hf),?_⟩
 rw[bH _ _ _ (fun _ e=>by cases e)]
 have:(execOp bb.eval ⟨some d,.call ⟨.builtin .max,#[x,y,z,u],ats⟩,ty,pos,aft,none⟩).run P W=.ok (.value (.int .i64 ((max (max (max a b) c) e:Nat):Int))) W:=by
  have m2:∀p q:Nat,(if(p:Int)<(q:Int)then Value.int .i64 (q:Nat)else .int .i64 (p:Nat))=.int .i64 ((max p q:Nat):Int):=fun p q=>by
   split<;>(congr 1;omega)
  simp only[execOp,resolve,invoke,builtin,e1,e2,e3,e4,cC,cF,cM,cQ,xY,bP]
  simp[Builtin.max_,Builtin.max2,m2,cC,cF]
  have m3:∀p q:Nat,(if(p:Int)<(q:Int)then(q:Int)else(p:Int))=((max p q:Nat):Int):=fun p q=>by split<;>omega
  try simp only[m3]
  try (congr 1;omega)
 rw[this]
 exact hK _ _ (fun d' e'=>by cases e';exact hd _) (xG _ _)
end
def zAy(p q:V2):Int:=if qsg p.1 q.1=0 then qsg p.2 q.2 else qsg p.1 q.1
theorem zSZ{p q:V2}(h:(qsg p.1 q.1 !=0)=true):zAy p q=qsg p.1 q.1:=by unfold zAy;rw[if_neg (by simpa using h)]
theorem zSY{p q:V2}(h:(qsg p.1 q.1 !=0)=false):zAy p q=qsg p.2 q.2:=by unfold zAy;rw[if_pos (by simpa using h)]
theorem zBK(a n:Nat):(a:Int).tmod (n:Int)=((a%n:Nat):Int):=rfl
theorem zBn{p q:V2}(J:QB p.1 m/\QB p.2 m)(I:QB q.1 m/\QB q.2 m):QB (p.1-q.1) (2*m+1)/\QB (p.2-q.2) (2*m+1):=⟨(J.1.sub I.1).mono oA,(J.2.sub I.2).mono oA⟩
theorem zNL{u:WE}{p q:V2}(h1:(fPV m p).p u W)(h2:(fPV m q).p v W)(hm:m<=990)(I:0<m):Calls prog 49 #[u,v] W (Ret W (fI (zAy p q)).tS):=by
 refine zZ [(fPV m p).tS,(fPV m q).tS] func49 rfl kA ⟨h1,h2,trivial⟩ fun a s=>lP<|rgK 0 [] s
  zB fun a w1 s=>yL (CU.agg (fPV m p)) rfl s kA (fun v W h=>yV h) fun b2 a w s=>yL (CU.agg (fPV m q)) rfl s kA (fun v W h=>yV h) fun b3 a w s=>yQ (uI 0) rfl s kA iiz fun a w s=>zD rfl<|rgQ ((6,.X (fPV m p) 0)::(7,.Z (fRV m ((p).1)))::(8,.X (fPV m q) 0)::(9,.Z (fRV m ((q).1)))::(10,.Z (uI (qsg (p).1 (q).1)))::(5,.u (uI (qsg (p).1 (q).1)))::[]) s
  (oc (zL (C:=cg (fPV m p)) 0 kA)<|oc (zQ (C:=cg (fPV m p)) (k:=0) 3 kA (h:=zFc))<|oc (zL (C:=cg (fPV m q)) 0 kA)<|oc (zQ (C:=cg (fPV m q)) (k:=0) 3 kA (h:=zFc))<|oc (zH zC zJC (fun J O W hb (U:RVp m ((p).1) J W) (h1:RVp m ((q).1) O W)=>zC4 U h1 hm I))<|oc zF<|zB) fun a w2 s=>lP<|rgQ ((11,.Z (uI (qsg (p).1 (q).1)))::(12,.u (uB (qsg (p).1 (q).1 !=0)))::[]) s
  (oc zA<|oc (zI .i64 (qsg (p).1 (q).1) 0 (qsg (p).1 (q).1 !=0) iiz iiz rfl rfl)<|zB) fun a w3 s=>StS.cond s (qsg (p).1 (q).1 !=0) iiz (fun e=>?_) (fun e=>?_)
 .refine lP ?_
  replace s:=s.drop [4]
  exact rgE ((13,.Z (uI (qsg (p).1 (q).1)))::(4,.u (uI (qsg (p).1 (q).1)))::[]) s
   (oc zA<|oc zF<|zB) fun a w4 s=>pS<|wF s (t:=4) rfl (fun v W h=>by rw[zSZ e];exact h)
 .refine pT ?_
  refine lP ?_
  replace s:=s.drop [4]
  exact rgE ((14,.X (fPV m p) 3)::(15,.Z (fRV m ((p).2)))::(16,.X (fPV m q) 3)::(17,.Z (fRV m ((q).2)))::(18,.Z (uI (qsg (p).2 (q).2)))::(4,.u (uI (qsg (p).2 (q).2)))::[]) s
   (oc (zL (C:=cg (fPV m p)) 3 kA)<|oc (zQ (C:=cg (fPV m p)) (k:=3) 3 kA (h:=zDL))<|oc (zL (C:=cg (fPV m q)) 3 kA)<|oc (zQ (C:=cg (fPV m q)) (k:=3) 3 kA (h:=zDL))<|oc (zH zC zJC (fun J O W hb (U:RVp m ((p).2) J W) (h1:RVp m ((q).2) O W)=>zC4 U h1 hm I))<|oc zF<|zB) fun a w5 s=>pS<|wF s (t:=4) rfl (fun v W h=>by rw[zSY e];exact h)
abbrev zEA(L:List Int):List CU:=L.map fun z=>wD [.int .i64 z]
def gI(L:List Int)(i:Nat):Int:=L.getD i 0
theorem zIh(h:i<L.length):(zEA L)[i]?=some (wD [.int .i64 (gI L i)]):=by
 unfold zEA gI;rw[tK,rG,nE h];rfl
def zDp(L:List Int)(k:Nat):List V2:=(List.range k).map fun j=>(((gI L (2*j):Int):Rat),((gI L (2*j+1):Int):Rat))
theorem zM5(L:List Int)(k:Nat):pns (zDp L (k+1))=pns (zDp L k)++ [CU.agg (fPN (((gI L (2*k):Int):Rat),((gI L (2*k+1):Int):Rat)))]:=by
 unfold zDp pns
 rw[eH,rQ,rQ]
 rfl
theorem zCg(L:List Int)(k:Nat):(zDp L k).length=k:=by simp[zDp]
def zZd(L:List Int):Prop:=∀i,-9223372036854775808<=gI L i/\gI L i<=9223372036854775807
theorem zXP(a b c d e f:Int):yI prog 51 6 [(0,.int .i64 a),(1,.int .i64 b),(2,.int .i64 c),(3,.int .i64 d),(4,.int .i64 e),(5,.int .i64 f)]=some (3,#[.int .i64 a,.int .i64 b,.int .i64 c,.int .i64 d,.int .i64 e,.int .i64 f]):=fJ
theorem zLa{cs:Array WE}(O:L.length=n)(hc:cs.toList=L.map (.int .i64)):n<=1000->(SF.row 1 (zEA L)).p (.slice (some ⟨W.heap.size,0,none⟩) n n) (W.alloc (.cells cs e)):=by
 intro h
 refine⟨some ⟨W.heap.size,0,none⟩,n,by simp[O],by simp[O],oA,fun e=>(by cases e),fun i C hi=>?_⟩
 have I:i<L.length:=by have:=(bE.1 hi).1;simpa using this
 rw[zIh I]at hi
 cases hi
 refine⟨W.heap.size,0, [.int .i64 (gI L i)],rfl,fun j u J=>?_,rfl⟩
 obtain rfl:j=0:=by have:=(bE.1 J).1;simp at this;omega
 obtain rfl:Value.int .i64 (gI L i)=u:=by simpa using J
 have U:=zBw W cs e
 have h8:cs.toList[i]?=some (Value.int .i64 (gI L i)):=by
  rw[hc,tK]
  unfold gI
  rw[rG,nE I];rfl
 have:=U i _ h8
 simpa using this
section
variable {F:Fence}{m:Nat}{P:WH}{w0:WB}{ops:Array Oper}{G:Nat->SF}{d:Tmp}{ty:WF}{pos:String}{aft:Array Edge}
theorem zAQ{j:Nat}{z:WL}(h:∀u v q W,(fct G x).p u W->(fct G y).p v W->(fct G z).p q W->∃cells,P.built t [(i,u),(j,v),(k,q)]=some cells/\(G d).p (.agg cells) W):qO F m P w0 ops G ⟨some d,.build t #[(i,x),(j,y),(k,z)],ty,pos,aft,none⟩:=
 zHU fun b W hb I=>by
  obtain⟨cells,J,h2⟩:=h _ _ _ W (I x fC) (I y fC) (I z fC)
  exact⟨cells,by simpa using J,h2⟩
end
theorem zGc{d:Tmp}(a b c e f g:Int)(I:∀v W,(SF.row 1 (zEA [a,b,c,e,f,g])).p v W->(G d).p v W):qO F m prog w0 ops G ⟨some d,.buildSlice 51 6 #[(0,.const (.int .i64 a)),(1,.const (.int .i64 b)),(2,.const (.int .i64 c)),(3,.const (.int .i64 e)),(4,.const (.int .i64 f)),(5,.const (.int .i64 g))],ty,pos,aft,none⟩:=
 zDx fun J W hb hh=>by
  have O:=zXP a b c e f g
  have U:∀v:WE,J.eval (.const v)=v:=fun _=>rfl
  refine⟨3,#[.int .i64 a,.int .i64 b,.int .i64 c,.int .i64 e,.int .i64 f,.int .i64 g],by simpa[U]using O,I _ _ (zLa (L:=[a,b,c,e,f,g]) rfl rfl oA)⟩
theorem trB(s:Bool)(A A':WG Addr)(n n' c c':Nat)(s2:Bool)(B B':WG Addr)(k k' d d':Nat)(t:Bool)(C C':WG Addr)(i i' j j':Nat)(O:Bool)(D D':WG Addr)(x U y J:Nat)(r:Bool)(E E':WG Addr)(p p' q q':Nat)(r2:Bool)(F F':WG Addr)(g g' h I:Nat):prog.built 38 [(0,.agg #[.bool s,.slice A n c,.slice A' n' c',.bool s2,.slice B k d,.slice B' k' d']),(1,.agg #[.bool t,.slice C i j,.slice C' i' j',.bool O,.slice D x y,.slice D' U J]),(2,.agg #[.bool r,.slice E p q,.slice E' p' q',.bool r2,.slice F g h,.slice F' g' I])]=some #[.bool s,.slice A n c,.slice A' n' c',.bool s2,.slice B k d,.slice B' k' d',.bool t,.slice C i j,.slice C' i' j',.bool O,.slice D x y,.slice D' U J,.bool r,.slice E p q,.slice E' p' q',.bool r2,.slice F g h,.slice F' g' I]:=fJ
theorem zZJ{t:V6}{u q:WE}(hu:(fPV m t.1).p u W)(hv:(fPV m t.2.1).p v W)(hq:(fPV m t.2.2).p q W):∃cells,prog.built 38 [(0,u),(1,v),(2,q)]=some cells/\(fTR m t).p (.agg cells) W:=by
 obtain⟨s,A,n,c,A',n',c',s2,B,k,d,B',k',d',rfl,O,h2⟩:=hu
 obtain⟨s3,A3,n3,c3,A4,n4,c4,s4,B3,J,d3,B4,k4,d4,rfl,h3,h4⟩:=hv
 obtain⟨I,A5,n5,U,A6,n6,c6,s6,B5,k5,d5,B6,k6,d6,rfl,h5,h6⟩:=hq
 exact⟨_,trB ..,_,_,_,rfl,⟨s,A,n,c,A',n',c',s2,B,k,d,B',k',d',rfl,O,h2⟩,⟨s3,A3,n3,c3,A4,n4,c4,s4,B3,J,d3,B4,k4,d4,rfl,h3,h4⟩,⟨I,A5,n5,U,A6,n6,c6,s6,B5,k5,d5,B6,k6,d6,rfl,h5,h6⟩⟩
theorem zZa(u0 u1 u2 u3 u4 u5 u6 u7 u8 u9 h1 J h5 U O h0 I h4:WE):yI prog 33 1 [(0,.agg #[u0,u1,u2,u3,u4,u5,u6,u7,u8,u9,h1,J,h5,U,O,h0,I,h4])]=some (38,#[u0,u1,u2,u3,u4,u5,u6,u7,u8,u9,h1,J,h5,U,O,h0,I,h4]):=fJ
theorem zZq(u0 u1 u2 u3 u4 u5 u6 u7 u8 u9 h8 J hc h7 h1 U h6 ha v0 v1 v2 v3 v4 v5 v6 v7 v8 v9 he h9 I O hd h4 h5 h0:WE):yI prog 33 2 [(0,.agg #[u0,u1,u2,u3,u4,u5,u6,u7,u8,u9,h8,J,hc,h7,h1,U,h6,ha]),(1,.agg #[v0,v1,v2,v3,v4,v5,v6,v7,v8,v9,he,h9,I,O,hd,h4,h5,h0])]=some (38,#[u0,u1,u2,u3,u4,u5,u6,u7,u8,u9,h8,J,hc,h7,h1,U,h6,ha,v0,v1,v2,v3,v4,v5,v6,v7,v8,v9,he,h9,I,O,hd,h4,h5,h0]):=fJ
theorem zLI(h:cs.length=18):∃u0 u1 u2 u3 u4 u5 u6 u7 u8 u9 u10 u11 u12 u13 u14 u15 u16 u17,cs=[u0,u1,u2,u3,u4,u5,u6,u7,u8,u9,u10,u11,u12,u13,u14,u15,u16,u17]:=by
 match cs,h with
 | [u0,u1,u2,u3,u4,u5,u6,u7,u8,u9,u10,u11,u12,u13,u14,u15,u16,u17],_=>exact⟨u0,u1,u2,u3,u4,u5,u6,u7,u8,u9,u10,u11,u12,u13,u14,u15,u16,u17,rfl⟩
theorem zTq{t:V6}(h:(fTR m t).p v W):∃cs:List WE,v=.agg cs.toArray/\cs.length=18/\(CU.agg (fTR m t)).p cs W:=by
 obtain⟨a,b,c,rfl,h1⟩:=id h
 exact⟨_,rfl,(zP5 m t _ W h).1,h⟩
theorem zVC{t:V6}{u:WE}(h:(fTR m t).p u W):∃e cs,yI prog 33 1 [(0,u)]=some (e,cs)/\(SF.row 18 (trs m [t])).p (.slice (some ⟨W.heap.size,0,none⟩) 1 1) (W.alloc (.cells cs e)):=by
 obtain⟨cs,rfl,l,hc⟩:=zTq h
 obtain⟨u0,u1,u2,u3,u4,u5,u6,u7,u8,u9,h1,I,h5,h0,O,J,U,h4,rfl⟩:=zLI l
 refine⟨_,_,zZa ..,some ⟨W.heap.size,0,none⟩,1,rfl,vQ _,fH,fun e=>(by cases e),fun i C hi=>?_⟩
 have hb:=zCs W (.cells #[u0,u1,u2,u3,u4,u5,u6,u7,u8,u9,h1,I,h5,h0,O,J,U,h4] 38)
 have hm:=zBw W #[u0,u1,u2,u3,u4,u5,u6,u7,u8,u9,h1,I,h5,h0,O,J,U,h4] 38
 obtain rfl:i=0:=by have:=(bE.1 hi).1;simp at this;omega
 obtain rfl:CU.agg (fTR m t)=C:=by simpa using hi
 refine⟨W.heap.size,0,_,rfl,?_,(CU.agg (fTR m t)).us _ _ _ hc (zR hb)⟩
 rw[show 0+0*18=0 from rfl]
 exact hm
def okS(L:List Int):Prop:=∀i,(gI L i).natAbs<100
theorem okS.ok(h:okS L):zZd L:=fun i=>by have:=h i;omega
theorem zG7(h:L.all (fun z=>decide (z.natAbs<100))=true):okS L:=fun i=>by
 unfold gI
 rw[rG]
 cases e:L[i]? with
 |none=>decide
 |some z=>
  have:=xT.1 h z (mJ e)
  exact xX this
theorem qbz{z:Int}(h:z.natAbs<100):QB ((z:Int):Rat) 1:=QB.int (pH h dA) dA
theorem zTo(h:okS L)(k:Nat):∀p,p∈zDp L k->QB p.1 1/\QB p.2 1:=fun p I=>by
 obtain⟨j,_,rfl⟩:=xH.1 I
 exact⟨qbz (h _),qbz (h _)⟩
def TGp(u v q:UF)(x:WE)(w:WB):Prop:=∃a b c:List WE,x=.agg (a++b++c).toArray/\(CU.agg u).p a w/\(CU.agg v).p b w/\(CU.agg q).p c w
def fTG(u v q:UF):UF:=.mk' (TGp u v q) fun _ _ _ ⟨a,b,c,e,h1,h2,h3⟩ k=>⟨a,b,c,e,(CU.agg u).us _ _ _ h1 k,(CU.agg v).us _ _ _ h2 k,(CU.agg q).us _ _ _ h3 k⟩
section
variable {f g f' g' f'' g'':UF}
theorem zFs(h:(CU.agg (fTG (fPT f g) (fPT f' g') (fPT f'' g''))).p cs W):∃a b c:List WE,cs=a++b++c/\a.length=6/\b.length=6/\c.length=6/\(CU.agg (fPT f g)).p a W/\(CU.agg (fPT f' g')).p b W/\(CU.agg (fPT f'' g'')).p c W:=by
 obtain⟨a,b,c,e,I,h2,h3⟩:=h
 have:=vR Array.toList (jX e)
 have this:cs=a++b++c:=this
 exact⟨a,b,c,this,(zBV _ _ a W I).1,(zBV _ _ b W h2).1,(zBV _ _ c W h3).1,I,h2,h3⟩
theorem zXJ:CU.ok 18 (CU.agg (fTG (fPT f g) (fPT f' g') (fPT f'' g''))):=fun cs W h=>by
 obtain⟨a,b,c,rfl,l1,l2,l3,h1,h2,h3⟩:=zFs h
 have U:=zBV _ _ a W h1;have J:=zBV _ _ b W h2;have O:=zBV _ _ c W h3
 refine⟨by simp[l1,l2,l3],zD6 U.2.1 J.2.1 O.2.1,fun u I=>?_⟩
 rcases vW.1 I with I|I
 .rcases vW.1 I with I|I
  .exact U.2.2 u I
  .exact J.2.2 u I
 .exact O.2.2 u I
theorem zVu(h:(fTG (fPT f g) (fPT f' g') (fPT f'' g'')).p v W):(CU.agg (fTG (fPT f g) (fPT f' g') (fPT f'' g''))).p v.cells.toList W/\v.cells.toList.all zY=true:=by
 obtain⟨a,b,c,rfl,h1⟩:=id h
 exact⟨h,(zXJ _ W h).2.1⟩
theorem zR9(cs:List WE)(W:WB)(h:(CU.agg (fTG (fPT f g) (fPT f' g') (fPT f'' g''))).p cs W):0+6<=cs.length/\(fPT f g).p (.agg ((cs.drop 0).take 6).toArray) W:=by
 obtain⟨a,b,c,rfl,J,I,l3,O,_⟩:=zFs h
 refine⟨by simp[J,I,l3],?_⟩
 rw[nJ,sZ,tM oA,nK oA]
 exact O
theorem zVt(cs:List WE)(W:WB)(h:(CU.agg (fTG (fPT f g) (fPT f' g') (fPT f'' g''))).p cs W):6+6<=cs.length/\(fPT f' g').p (.agg ((cs.drop 6).take 6).toArray) W:=by
 obtain⟨a,b,c,rfl,J,I,l3,_,h2,_⟩:=zFs h
 refine⟨by simp[J,I,l3],?_⟩
 rw[sZ,tO oA,pA oA,lS,tM oA,nK oA]
 exact h2
theorem zTt(cs:List WE)(W:WB)(h:(CU.agg (fTG (fPT f g) (fPT f' g') (fPT f'' g''))).p cs W):12+6<=cs.length/\(fPT f'' g'').p (.agg ((cs.drop 12).take 6).toArray) W:=by
 obtain⟨a,b,c,rfl,J,I,l3,_,_,h3⟩:=zFs h
 refine⟨by simp[J,I,l3],?_⟩
 rw[tO fM,pA fM,lS,nK oA]
 exact h3
theorem zTG(I:Cs.length<=9223372036854775807)(h:∀(i:Nat) (C:CU),Cs[i]?=some C->∃p:List WE,(∀j u,p[j]?=some u->cs[i*z+j]?=some u)/\C.p p W):(SF.row z Cs).p (.slice (some ⟨W.heap.size,0,none⟩) Cs.length Cs.length) (W.alloc (.cells cs.toArray e)):=by
 refine⟨some ⟨W.heap.size,0,none⟩,Cs.length,rfl,vQ _,I,fun e=>(by cases e),fun i C hi=>?_⟩
 obtain⟨p,O,h2⟩:=h i C hi
 refine⟨W.heap.size,0,p,rfl,fun j u J=>?_,C.us _ _ _ h2 (zR (zCs W _))⟩
 have:=zBw W cs.toArray e (i*z+j) u (by simpa using O j u J)
 rwa [<-uT]at this
end
def PX.b(x:PX):Nat:=x.1.n+x.1.n'+(x.2.n+x.2.n')
section
variable {F:Fence}{m:Nat}{P:WH}{w0:WB}{ops:Array Oper}{G:Nat->SF}{d:Tmp}{ty:WF}{pos:String}{aft:Array Edge}
theorem zUo{op:BinOp}(u v r:Bool)(ht:P.underlying t=some .bool)(hx:∀q W,(fct G x).p q W->q=.bool u)(hy:∀q W,(fct G y).p q W->q=.bool v)(hr:(match op with| .eql=>u==v| .neq=>u !=v|_=>false)=r)(ho:(match op with| .eql| .neq=>true|_=>false)=true)(hd:∀W,(G d).p (.bool r) W:=by exact fun _=>rfl):qO F m P w0 ops G ⟨some d,.binOp op t x y t',ty,pos,aft,none⟩:=
 zDN (.bool u) (.bool v) (.bool r) hx hy (fun W=>by cases op<;>first|(cases ho;done)|simp[eqGuard]) (fun W=>by cases op<;>first|(cases ho;done)|(subst hr;cases u<;>cases v<;>simp[go_sem,ht])) hd
end
theorem zKN(I:0<m){ts:List V6}{v:WE}{W:WB}(h:(SF.row 18 (trs m ts)).p v W){i:Nat}(hi:i<ts.length):∀p,p∈tl (at3 ts i)->QB p.1 m/\QB p.2 m:=by
 obtain⟨_,_,_,_,_,_,U⟩:=h
 obtain⟨b,o,cs,_,_,h6⟩:=U i _ (zDT hi)
 obtain⟨a,b,c,rfl,_,_,_,O,h2,h3⟩:=zEc h6
 intro p J
 rcases xS.1 J with rfl|J
 .exact zC6 I (v:=.agg a.toArray) O
 .rcases xS.1 J with rfl|J
  .exact zC6 I (v:=.agg b.toArray) h2
  .obtain rfl:=tV.1 J
   exact zC6 I (v:=.agg c.toArray) h3
section
variable {F:Fence}{m:Nat}{P:WH}{w0:WB}{ops:Array Oper}{G:Nat->SF}{d:Tmp}{ty:WF}{pos:String}{aft:Array Edge}
theorem zUl(k:IntKind)(u v r:Int)(U:∀q W,(fct G x).p q W->q=.int k u)(J:∀q W,(fct G y).p q W->q=.int k v)(O:k.wrap (u*v)=r)(I:∀W,(G d).p (.int k r) W:=by exact fun _=>rfl):qO F m P w0 ops G ⟨some d,.binOp .mul t x y t',ty,pos,aft,none⟩:=
 zDN (.int k u) (.int k v) (.int k r) U J (fun W=>by simp[eqGuard]) (fun W=>by subst O;simp[binOp,Op.intArith]) I
end
def yP(a b p:V2):Int:=(crs a b p).num.sign
def zXW(a b r:Rat):Bool:=(!(qsg a b==0))||(qsg a r==0)
def zUS(a b r:Rat):Bool:=decide (qsg a r*qsg r b≥0)&&zXW a b r
def onB(a b p:V2):Bool:=((yP a b p==0)&&zUS a.1 b.1 p.1)&&zUS a.2 b.2 p.2
abbrev QP(m:Nat)(p:V2):Prop:=QB p.1 m/\QB p.2 m
theorem QP.sub{p q:V2}(J:QP m p)(I:QP m q):QP (2*m+1) (p.1-q.1,p.2-q.2):=⟨(J.1.sub I.1).mono oA,(J.2.sub I.2).mono oA⟩
theorem zXI(I:0<m){a b c:V2}{x:WE}{W:WB}(h:(fTG (fPV m a) (fPV m b) (fPV m c)).p x W):QP m a/\QP m b/\QP m c:=by
 obtain⟨u,v,q,_,J,h2,h3⟩:=h
 exact⟨zC6 I (v:=.agg u.toArray) J,zC6 I (v:=.agg v.toArray) h2,zC6 I (v:=.agg q.toArray) h3⟩
theorem thB(s:Bool)(A A':WG Addr)(n n' c c':Nat)(s2:Bool)(B B':WG Addr)(k k' d d':Nat)(t:Bool)(C C':WG Addr)(i i' j j':Nat)(O:Bool)(D D':WG Addr)(x U y J:Nat)(r:Bool)(E E':WG Addr)(p p' q q':Nat)(r2:Bool)(F F':WG Addr)(g g' h I:Nat):prog.built 112 [(0,.agg #[.bool s,.slice A n c,.slice A' n' c',.bool s2,.slice B k d,.slice B' k' d']),(1,.agg #[.bool t,.slice C i j,.slice C' i' j',.bool O,.slice D x y,.slice D' U J]),(2,.agg #[.bool r,.slice E p q,.slice E' p' q',.bool r2,.slice F g h,.slice F' g' I])]=some #[.bool s,.slice A n c,.slice A' n' c',.bool s2,.slice B k d,.slice B' k' d',.bool t,.slice C i j,.slice C' i' j',.bool O,.slice D x y,.slice D' U J,.bool r,.slice E p q,.slice E' p' q',.bool r2,.slice F g h,.slice F' g' I]:=fJ
theorem zZK{f f' g' f'' g'':UF}{u q:WE}(hu:(fPT f g).p u W)(hv:(fPT f' g').p v W)(hq:(fPT f'' g'').p q W):∃cells,prog.built 112 [(0,u),(1,v),(2,q)]=some cells/\(fTG (fPT f g) (fPT f' g') (fPT f'' g'')).p (.agg cells) W:=by
 obtain⟨s,A,n,c,A',n',c',s2,B,k,d,B',k',d',rfl,O,h2⟩:=hu
 obtain⟨s3,A3,n3,c3,A4,n4,c4,s4,B3,J,d3,B4,k4,d4,rfl,h3,h4⟩:=hv
 obtain⟨I,A5,n5,U,A6,n6,c6,s6,B5,k5,d5,B6,k6,d6,rfl,h5,h6⟩:=hq
 exact⟨_,thB ..,_,_,_,rfl,⟨s,A,n,c,A',n',c',s2,B,k,d,B',k',d',rfl,O,h2⟩,⟨s3,A3,n3,c3,A4,n4,c4,s4,B3,J,d3,B4,k4,d4,rfl,h3,h4⟩,⟨I,A5,n5,U,A6,n6,c6,s6,B5,k5,d5,B6,k6,d6,rfl,h5,h6⟩⟩
theorem zTl{p q:V2}{x:WE}(hx:(fTG (fPV m p) (fPV m q) (fPV m r)).p x W)(hm:m<=159)(J:0<m)(hT:Tab W):Calls prog 86 #[x] W (Ret W (fI (yP p q r)).tS):=by
 have I:=zXI J hx
 refine zZ [(fTG (fPV m p) (fPV m q) (fPV m r)).tS] func86 rfl kA ⟨hx,trivial⟩ fun a s=>?_
 replace s:=s.renew [(0,.u (fTG (fPV m p) (fPV m q) (fPV m r)))] (fU (.inr ⟨_,rfl,.head _⟩) fnz)
 refine lP<|rgK 0 [] s
  zB fun a w1 s=>yL (CU.agg (fTG (fPV m p) (fPV m q) (fPV m r))) rfl s kA (fun v W h=>zVu h) fun b1 a w s=>yQ (uI 0) rfl s kA iiz fun a w s=>zD rfl<|lP ?_
 replace s:=s.drop [2]
 exact rgE ((3,.X (fTG (fPV m p) (fPV m q) (fPV m r)) 6)::(4,.Z (fPV m q))::(5,.X (fTG (fPV m p) (fPV m q) (fPV m r)) 0)::(6,.Z (fPV m p))::(7,.Z (fPN ((q).1-(p).1,(q).2-(p).2)))::(8,.X (fTG (fPV m p) (fPV m q) (fPV m r)) 12)::(9,.Z (fPV m r))::(10,.X (fTG (fPV m p) (fPV m q) (fPV m r)) 0)::(11,.Z (fPV m p))::(12,.Z (fPN ((r).1-(p).1,(r).2-(p).2)))::(13,.Z (fQN (((q).1-(p).1,(q).2-(p).2).1*((r).1-(p).1,(r).2-(p).2).2-((q).1-(p).1,(q).2-(p).2).2*((r).1-(p).1,(r).2-(p).2).1)))::(14,.Z (uI (yP p q r)))::(2,.u (uI (yP p q r)))::[]) s
  (oc (zL (C:=cg (fTG (fPV m p) (fPV m q) (fPV m r))) 6 kA)<|oc (zQ (C:=cg (fTG (fPV m p) (fPV m q) (fPV m r))) (k:=6) 6 kA (h:=zVt))<|oc (zL (C:=cg (fTG (fPV m p) (fPV m q) (fPV m r))) 0 kA)<|oc (zQ (C:=cg (fTG (fPV m p) (fPV m q) (fPV m r))) (k:=0) 6 kA (h:=zR9))<|oc (zH zC zRC (fun O u1 W hb (U:(fPV m q).p O W) (h1:(fPV m p).p u1 W)=>zKJ (p:=q) (q:=p) U h1 oA J (hT.below (s.up hb))))<|oc (zL (C:=cg (fTG (fPV m p) (fPV m q) (fPV m r))) 12 kA)<|oc (zQ (C:=cg (fTG (fPV m p) (fPV m q) (fPV m r))) (k:=12) 6 kA (h:=zTt))<|oc (zL (C:=cg (fTG (fPV m p) (fPV m q) (fPV m r))) 0 kA)<|oc (zQ (C:=cg (fTG (fPV m p) (fPV m q) (fPV m r))) (k:=0) 6 kA (h:=zR9))<|oc (zH zC zRC (fun O u1 W hb (U:(fPV m r).p O W) (h1:(fPV m p).p u1 W)=>zKJ (p:=r) (q:=p) U h1 oA J (hT.below (s.up hb))))<|oc (zH zC zUL (fun O u1 W hb (U:(fPN ((q).1-(p).1,(q).2-(p).2)).p O W) (h1:(fPN ((r).1-(p).1,(r).2-(p).2)).p u1 W)=>zHl (m:=(2*m+1)) (p:=((q).1-(p).1,(q).2-(p).2)) (q:=((r).1-(p).1,(r).2-(p).2)) (zBu (p:=((q).1-(p).1,(q).2-(p).2)) (m:=(2*m+1)) ((QP.sub I.2.1 I.1).1.mono fP) ((QP.sub I.2.1 I.1).2.mono fP) U) (zBu (p:=((r).1-(p).1,(r).2-(p).2)) (m:=(2*m+1)) ((QP.sub I.2.2 I.1).1.mono fP) ((QP.sub I.2.2 I.1).2.mono fP) h1) (QP.sub I.2.1 I.1) (QP.sub I.2.2 I.1) oA oA (hT.below (s.up hb))))<|oc (zG zC zWx (fun O W hb (U:QNp (((q).1-(p).1,(q).2-(p).2).1*((r).1-(p).1,(r).2-(p).2).2-((q).1-(p).1,(q).2-(p).2).2*((r).1-(p).1,(r).2-(p).2).1) O W)=>zNG (wH U (QB.mono (((QP.sub I.2.1 I.1).1.mul (QP.sub I.2.2 I.1).2).sub ((QP.sub I.2.1 I.1).2.mul (QP.sub I.2.2 I.1).1)) (m':=8*m+5) oA)) oA oA (hT.below (s.up hb))))<|oc zF<|zB) fun a w2 s=>pS<|wF s (t:=2) rfl iiz
theorem zNh{p q:V2}{u x:WE}(h1:(fPV m p).p u W)(h2:(fPV m q).p v W)(h3:(fPV m r).p x W)(J:m<=159)(I:0<m)(O:Tab W):Calls prog 59 #[u,v,x] W (Ret W (fI (yP p q r)).tS):=by
 refine zZ [(fPV m p).tS,(fPV m q).tS,(fPV m r).tS] func59 rfl kA ⟨h1,h2,h3,trivial⟩ fun a s=>?_
 replace s:=s.renew [(0,.u (fPV m p)),(1,.u (fPV m q)),(2,.u (fPV m r))] (fU (.inr ⟨_,rfl,.head _⟩)<|fU (.inr ⟨_,rfl,mz1⟩)<|fU (.inr ⟨_,rfl,mz2⟩) fnz)
 refine lP<|rgK 0 [] s
  zB fun a w1 s=>yL (CU.agg (fPV m p)) rfl s kA (fun v W h=>yV h) fun b3 a w s=>yL (CU.agg (fPV m q)) rfl s kA (fun v W h=>yV h) fun b4 a w s=>yL (CU.agg (fPV m r)) rfl s kA (fun v W h=>yV h) fun b5 a w s=>yQ (uI 0) rfl s kA iiz fun a w s=>zD rfl<|lP ?_
 replace s:=s.drop [6]
 exact rgE ((7,.Z (fPV m p))::(8,.Z (fPV m q))::(9,.Z (fPV m r))::(10,.Z (fTG (fPV m p) (fPV m q) (fPV m r)))::(11,.Z (uI (yP p q r)))::(6,.u (uI (yP p q r)))::[]) s
  (oc (zK m p)<|oc (zK m q)<|oc (zK m r)<|oc (zAQ (fun u v z W (hu:(fPV m p).p u W) (hv:(fPV m q).p v W) (hz:(fPV m r).p z W)=>zZK hu hv hz))<|oc (zG zC zYm (fun U W hb (h0:(fTG (fPV m p) (fPV m q) (fPV m r)).p U W)=>zTl h0 J I (O.below (s.up hb))))<|oc zF<|zB) fun a w2 s=>pS<|wF s (t:=6) rfl iiz
theorem zW9{b p:V2}(I:QB a.1 m/\QB a.2 m)(hb:QB b.1 m/\QB b.2 m)(J:QB p.1 M/\QB p.2 M):QB (crs a b p) ((2*m+1+(M+m+1))+(2*m+1+(M+m+1))+1):=
 ((((hb.1.sub I.1).mul (J.2.sub I.2)).sub ((hb.2.sub I.2).mul (J.1.sub I.1))).mono oA)
theorem zBo{p q:V2}(J:QB p.1 M/\QB p.2 M)(I:QB q.1 m/\QB q.2 m):QB (p.1-q.1) (M+m+1)/\QB (p.2-q.2) (M+m+1):=⟨J.1.sub I.1,J.2.sub I.2⟩
theorem zMm{u:WE}{p q:V2}(h1:(fPV M p).p u W)(h2:(fPV M q).p v W)(hp:QB p.1 m/\QB p.2 m)(U:QB q.1 M/\QB q.2 M)(O:m<=M)(hm0:0<m)(hM:m+M<=990):Calls prog 39 #[u,v] W (Ret W (fQN (p.1*q.2-p.2*q.1)).tS):=by
 refine zZ [(fPV M p).tS,(fPV M q).tS] func39 rfl kA ⟨h1,h2,trivial⟩ fun a s=>lP<|rgK 0 [] s
  zB fun a w1 s=>yL (CU.agg (fPV M p)) rfl s kA (fun v W h=>yV h) fun b2 a w s=>yL (CU.agg (fPV M q)) rfl s kA (fun v W h=>yV h) fun b3 a w s=>zX (CU.len 3) (cs:=zR3) kA rfl s kA (fun W=>rfl) rfl fun b4 a w s=>zD rfl<|lP<|yJ [] 13 ((5,.X (fPV M p) 0)::(6,.Z (fRV M ((p).1)))::(7,.X (fPV M q) 3)::(8,.Z (fRV M ((q).2)))::(9,.s (SF.row 3 (rvs M [(p).1,(q).2])))::(10,.Z (fQN ((p).1*(q).2)))::(11,.X (fPV M p) 3)::(12,.Z (fRV M ((p).2)))::(13,.X (fPV M q) 0)::(14,.Z (fRV M ((q).1)))::(15,.s (SF.row 3 (rvs M [(p).2,(q).1])))::(16,.Z (fQN ((p).2*(q).1)))::(17,.u (fQN (((p).1*(q).2)-((p).2*(q).1))))::[]) hmix s kA
  (oc (zL (C:=cg (fPV M p)) 0 kA)<|oc (zQ (C:=cg (fPV M p)) (k:=0) 3 kA (h:=zFc))<|oc (zL (C:=cg (fPV M q)) 3 kA)<|oc (zQ (C:=cg (fPV M q)) (k:=3) 3 kA (h:=zDL))<|oc (z9 (fun u v W (hu:RVp M ((p).1) u W) (hv:RVp M ((q).2) v W)=>zB5 hu hv))<|oc (zG zC zJB (fun I W hb (J:(SF.row 3 (rvs M [(p).1,(q).2])).p I W)=>zCj J (hp.1.mono O) U.2 oA))<|oc (zL (C:=cg (fPV M p)) 3 kA)<|oc (zQ (C:=cg (fPV M p)) (k:=3) 3 kA (h:=zDL))<|oc (zL (C:=cg (fPV M q)) 0 kA)<|oc (zQ (C:=cg (fPV M q)) (k:=0) 3 kA (h:=zFc))<|oc (z9 (fun u v W (hu:RVp M ((p).2) u W) (hv:RVp M ((q).1) v W)=>zB5 hu hv))<|oc (zG zC zJB (fun I W hb (J:(SF.row 3 (rvs M [(p).2,(q).1])).p I W)=>zCj J (hp.2.mono O) U.1 oA))<|oc (zH zC zPb (fun I u1 W hb (J:QNp ((p).1*(q).2) I W) (h1:QNp ((p).2*(q).1) u1 W)=>zF4 (wH J (hp.1.mul U.2)) (wH h1 (hp.2.mul U.1)) oA oA))<|zB) fun Q' hQ a w2 s=>zM (fQN (((p).1*(q).2)-((p).2*(q).1))) rfl s zW fun a w s=>zD rfl (hQ _ _ ?_)
 exact pS<|wK s (CU.agg (fQN (p.1*q.2-p.2*q.1))) rfl kA rfl rfl (yW _) (fun cs W h=>h)
theorem QB.inv{q:Rat}(h:QB q m):QB q⁻¹ m:=by
 by_cases e:q=0
 .subst e
  rw[Rat.inv_zero];exact h
 .have O:q.num≠0:=fun I=>e (tY.1 I)
  refine vE h.pos (X:=(q.den:Int)) (D:=q.num) ?_ O (jF h.2) h.1
  have J:(q.num:Rat)=q*((q.den:Nat):Rat):=zLA q
  rw[J,<-Rat.mul_assoc,Rat.inv_mul_cancel q e,zZW]
  rfl
theorem QB.div{p q:Rat}(h:QB p m)(I:QB q n):QB (p/q) (m+n):=by
 rw[rV]
 exact h.mul I.inv
def zIx(p q:V2):Rat:=p.1*q.1+p.2*q.2
def onS(a b p:V2):Bool:=if((crs a b p).num.sign !=0)=true then false else decide ((zIx (p.1-a.1,p.2-a.2) (p.1-b.1,p.2-b.2)).num.sign<=0)
theorem zX1{b p:V2}(h:((crs a b p).num.sign !=0)=true):onS a b p=false:=if_pos h
theorem zX2{b p:V2}(h:((crs a b p).num.sign !=0)=false):onS a b p=decide ((zIx (p.1-a.1,p.2-a.2) (p.1-b.1,p.2-b.2)).num.sign<=0):=if_neg (by rw[h];decide)
def zMd(f:Nat->Bool)(N:Nat):Nat:=match(List.range N).find? (fun k=> !(f k))with|some k=>k|none=>N
theorem zNf(h:∀j,j<N->f j=true):zMd f N=N:=by
 unfold zMd
 rw[zCT.2 (fun x I=>by rw[h x (xU.1 I)];simp)]
theorem zQc(J:k<N)(h:∀j,j<k->f j=true)(e:f k=false):zMd f N=k:=by
 unfold zMd
 have:(List.range N).find? (fun k=> !(f k))=some k:=by
  rw[List.find?_range_eq_some]
  exact⟨by rw[e];rfl,xU.2 J,fun j I=>by rw[h j I];rfl⟩
 rw[this]
def zN3(L:List V2)(p:V2):Nat:=zMd (fun k=>decide (zAy (at_ L k) p<0)) L.length
def zF7(L:List V2)(p:V2):List V2:=if(decide (zN3 L p<L.length)&&(zAy (at_ L (zN3 L p)) p==0))=true then L else L.take (zN3 L p)++ [p]++L.drop (zN3 L p)
theorem zV3{L:List V2}{p:V2}(I:zN3 L p=k)(h:(decide ((k:Int)<((pns L).length:Int))&&(zAy (at_ L k) p==0))=true):zF7 L p=L:=by
 unfold zF7
 rw[I]
 refine if_pos ?_
 rw[xW]at h ⊢
 exact⟨lH (by have:=xX h.1;simp at this;omega),h.2⟩
theorem zV4{L:List V2}{p:V2}(J:zN3 L p=k)(h:(decide ((k:Int)<((pns L).length:Int))&&(zAy (at_ L k) p==0))=false):zF7 L p=L.take k++ [p]++L.drop k:=by
 unfold zF7
 rw[J]
 refine if_neg fun I=>?_
 rw[xW]at I
 rw[zZX]at h
 rcases h with h|h
 .have:=nF h
  have:=xX I.1
  simp at*
  omega
 .rw[h]at I;exact absurd I.2 dA
theorem zUd(L:List V2)(p:V2):zN3 L p<=L.length:=by
 unfold zN3 zMd
 split
 .rename_i k h
  have:=xU.1 (tW h)
  omega
 .exact vQ _
theorem zQY(L:List V2)(p:V2):(zF7 L p).length<=L.length+1:=by
 unfold zF7
 split
 .omega
 .have:=zUd L p
  simp
  omega
theorem zQX{L:List V2}{p x:V2}(h:x∈zF7 L p):x=p∨x∈L:=by
 unfold zF7 at h
 split at h
 .exact .inr h
 .rw[vW,vW,tV]at h
  rcases h with(h|h)|h
  .exact .inr (uW h)
  .exact .inl h
  .exact .inr (gA h)
def yR(a b c d:V2):Nat->List V2
 |0=> []
 |i+1=>if(onS a b (at_ [a,b,c,d] i)&&onS c d (at_ [a,b,c,d] i))=true then zF7 (yR a b c d i) (at_ [a,b,c,d] i)else yR a b c d i
theorem zKr{b c d:V2}(h:(onS a b (at_ [a,b,c,d] i)&&onS c d (at_ [a,b,c,d] i))=true):yR a b c d (i+1)=zF7 (yR a b c d i) (at_ [a,b,c,d] i):=if_pos h
theorem zO8{b c d:V2}(h:(onS a b (at_ [a,b,c,d] i)&&onS c d (at_ [a,b,c,d] i))=false):yR a b c d (i+1)=yR a b c d i:=if_neg (by rw[h];decide)
theorem zGt(a b c d:V2):∀i,(yR a b c d i).length<=i
 |0=>vQ _
 | i+1=>by
  have ih:=zGt a b c d i
  show(if _ then _ else _:List V2).length<=_
  split
  .have:=zQY (yR a b c d i) (at_ [a,b,c,d] i)
   omega
  .omega
theorem zLP{m:Nat}{a b c d:V2}(h:∀p,p∈ [a,b,c,d]->QB p.1 m/\QB p.2 m):∀i,i<=4->∀p,p∈yR a b c d i->QB p.1 m/\QB p.2 m
 |0,_,p,hp=>absurd hp rL
 | i+1,hi,p,hp=>by
  have J:=zLP h i oA
  have I:p∈(if(onS a b (at_ [a,b,c,d] i)&&onS c d (at_ [a,b,c,d] i))=true then zF7 (yR a b c d i) (at_ [a,b,c,d] i)else yR a b c d i):=hp
  split at I
  .rcases zQX I with e|e
   .rw[e];exact h _ (jZ fM)
   .exact J p e
  .exact J p I
def fRW(W0:WB)(z:Nat)(Cs:List CU):UF:=⟨⟨fun v _=>(SF.row z Cs).p v W0,fun _ _ _ h _=>h⟩,fun _ _ _ h _=>h⟩
section
variable {F:Fence}{m:Nat}{P:WH}{w0:WB}{ops:Array Oper}{G:Nat->SF}{d:Tmp}{ty:WF}{pos:String}{aft:Array Edge}
theorem zDV(hu:P.underlying t=some (.slice e'))(hie:P.info? e'=some ie)(hsz:ie.size=z)(A:WG Addr)(n c k:Nat)(hk:k<=n)(w:WB):(Instr.sliceAt t (.slice A n c) (some (.int .i64 (k:Int))) none none).run P w=.ok (.slice (if c=k then A else A.map (·.add (k*z))) (n-k) (c-k)) w:=by
 simp[Instr.sliceAt,Instr.slice,Instr.sliceBounds,bI hu,sizeOf,typeInfo,hie,hsz,go_sem,hk]
theorem zIR(hu:P.underlying t=some (.slice e'))(hie:P.info? e'=some ie)(A:WG Addr)(n c k:Nat)(hk:k<=c)(w:WB):(Instr.sliceAt t (.slice A n c) none (some (.int .i64 (k:Int))) none).run P w=.ok (.slice A k c) w:=by
 simp[Instr.sliceAt,Instr.slice,Instr.sliceBounds,bI hu,sizeOf,typeInfo,hie,go_sem,hk]
theorem zMw(hz:qP P t=some z)(hk:k<=Cs.length)(hx:∀v W,bW w0 W->(fct G x).p v W->(SF.row z Cs).p v W)(hh:∀v W,(fct G lo).p v W->v=.int .i64 (k:Int))(hd:∀v W,(SF.row z (Cs.drop k)).p v W->(G d).p v W:=by exact fun _ _ h=>h):qO F m P w0 ops G ⟨some d,.slice t x (some lo) none none,ty,pos,aft,none⟩:=
 qG (fun _ e=>by cases e) (fun _ e=>by cases e) fun b W hb U=>by
  obtain⟨A,c,e,h2,h3,h4,h5⟩:=hx _ _ hb (U x (by simp[Op.operands]))
  have e2:=hh _ _ (U lo (by simp[Op.operands]))
  unfold qP at hz
  split at hz<;>try cases hz
  rename_i e' hu
  obtain⟨ie,J,I⟩:=lY.1 hz
  refine⟨.slice (if c=k then A else A.map (·.add (k*z))) (Cs.length-k) (c-k),by simp[execOp,e,e2,zDV hu J I A Cs.length c k hk],hd _ _ ⟨_,c-k,by rw[uK],by rw[uK];omega,oA,fun O=>?_,fun i C hi=>?_⟩⟩
  .split at O
   .omega
   .cases A with
    |none=>have:=h4 rfl;omega
    |some q=>cases O
  .rw[uX]at hi
   have hlt:=(bE.1 hi).1
   obtain⟨b',o,cs,rfl,h6,h7⟩:=h5 _ C hi
   rw[if_neg oA]
   refine⟨b',o+k*z,cs,by simp[xI],?_,h7⟩
   rwa [show o+(k+i)*z=o+k*z+i*z by rw[vU];omega]at h6
theorem zQ8(hz:qP P t=some z)(U:k<=Cs.length)(hx:∀v W,bW w0 W->(fct G x).p v W->(SF.row z Cs).p v W)(hh:∀v W,(fct G hi).p v W->v=.int .i64 (k:Int))(hd:∀v W,(SF.row z (Cs.take k)).p v W->(G d).p v W:=by exact fun _ _ h=>h):qO F m P w0 ops G ⟨some d,.slice t x none (some hi) none,ty,pos,aft,none⟩:=
 qG (fun _ e=>by cases e) (fun _ e=>by cases e) fun b W hb O=>by
  obtain⟨A,c,e,h2,h3,h4,h5⟩:=hx _ _ hb (O x (by simp[Op.operands]))
  have e2:=hh _ _ (O hi (by simp[Op.operands]))
  unfold qP at hz
  split at hz<;>try cases hz
  rename_i e' hu
  obtain⟨ie,J,hsz⟩:=lY.1 hz
  have I:k<=c:=xR U h2
  refine⟨.slice A k c,by simp[execOp,e,e2,zIR hu J A Cs.length c k I],hd _ _ ⟨A,c,by rw[uE,uR U],by rw[uE];omega,h3,h4,fun i C hi=>?_⟩⟩
  rw[uU]at hi
  split at hi
  .exact h5 i C hi
  .cases hi
theorem zKd(hz:qP P t=some z)(hk:k<=Cs.length)(hl:(SF.row z Cs).p l0 W0)(hx:∀v W,(fct G x).p v W->v=l0)(hh:∀v W,(fct G lo).p v W->v=.int .i64 (k:Int))(hd:∀v W,(SF.row z (Cs.drop k)).p v W0->(G d).p v W):qO F m P w0 ops G ⟨some d,.slice t x (some lo) none none,ty,pos,aft,none⟩:=
 qG (fun _ e=>by cases e) (fun _ e=>by cases e) fun b W hb U=>by
  have e0:=hx _ _ (U x (by simp[Op.operands]))
  obtain⟨A,c,e,h2,h3,h4,h5⟩:=hl
  have e2:=hh _ _ (U lo (by simp[Op.operands]))
  rw[e]at e0
  unfold qP at hz
  split at hz<;>try cases hz
  rename_i e' hu
  obtain⟨ie,J,I⟩:=lY.1 hz
  refine⟨.slice (if c=k then A else A.map (·.add (k*z))) (Cs.length-k) (c-k),by simp[execOp,e0,e2,zDV hu J I A Cs.length c k hk],hd _ _ ⟨_,c-k,by rw[uK],by rw[uK];omega,oA,fun O=>?_,fun i C hi=>?_⟩⟩
  .split at O
   .omega
   .cases A with
    |none=>have:=h4 rfl;omega
    |some q=>cases O
  .rw[uX]at hi
   have hlt:=(bE.1 hi).1
   obtain⟨b',o,cs,rfl,h6,h7⟩:=h5 _ C hi
   rw[if_neg oA]
   refine⟨b',o+k*z,cs,by simp[xI],?_,h7⟩
   rwa [show o+(k+i)*z=o+k*z+i*z by rw[vU];omega]at h6
end
theorem zKp{d:Tmp}(hz:qP P t=some z)(hk:k<=Cs.length)(hl:(SF.row z Cs).p l0 W0)(hx:∀v W,(fct G x).p v W->v=l0)(hh:∀v W,(fct G lo).p v W->v=.int .i64 (k:Int)):zEb P w0 ops G ⟨some d,.slice t x (some lo) none none,ty,pos,aft,none⟩:=
 zGs (fun _ e=>by cases e) fun b W _ O=>by
  have U:=hx _ _ (O x (by simp[Op.operands]))
  obtain⟨A,c,e,h2,h3,h4,h5⟩:=hl
  have e2:=hh _ _ (O lo (by simp[Op.operands]))
  rw[e]at U
  unfold qP at hz
  split at hz<;>try cases hz
  rename_i e' hu
  obtain⟨ie,J,I⟩:=lY.1 hz
  exact⟨.slice (if c=k then A else A.map (·.add (k*z))) (Cs.length-k) (c-k),fun W' _=>by simp[execOp,U,e2,zDV hu J I A Cs.length c k hk]⟩
section
variable {S:Nat->Prop}{F:Fence}{m:Nat}{P:WH}{Q:Exit->Act->WB->Prop}{w0:WB}{K:List (Nat×KF)}{B:List Bx}{n:Nat}{ds:List Deferred}{a:Act}{w:WB}
theorem zSa(f:UF)(I:ops[k]?=some ⟨some d,.assign x,ty,pos,aft,none⟩)(h:StS S w0 K B n ds a w)(O:jY K B n d=true)(J:∀v W,(Wd.fct (zAb K B) x).p v W->f.p v W)
  (fin:∀a,StS S w0 ((d,.u f)::K) B n ds a w->zAV F m P ops Q (k+1) a w):zAV F m P ops Q k a w:=
 zAi I rfl (zCl (fun _ e=>by cases e) (fun _ e=>by cases e) (W':=w) (v:=a.eval x) rfl (fin _ (h.set O (xG _ _) (J _ _ (h.fct x)))))
end
theorem zQ0(ps:List V2)(k:Nat):(pns ps).take k=pns (ps.take k):=by unfold pns;rw[List.map_take]
theorem zQ1(ps:List V2)(k:Nat):(pns ps).drop k=pns (ps.drop k):=by unfold pns;rw[List.map_drop]
theorem zN4(a b:List V2)(p:V2):pns a++pns [p]++pns b=pns (a++ [p]++b):=by simp[pns]
theorem zZr(a1 U a3 a4 a5 a6 b1 b2 b3 b4 b5 b6 c1 c2 c3 O I c6 d1 d2 d3 d4 J d6:WE):yI prog 22 4 [(0,.agg #[a1,U,a3,a4,a5,a6]),(1,.agg #[b1,b2,b3,b4,b5,b6]),(2,.agg #[c1,c2,c3,O,I,c6]),(3,.agg #[d1,d2,d3,d4,J,d6])]=some (30,#[a1,U,a3,a4,a5,a6,b1,b2,b3,b4,b5,b6,c1,c2,c3,O,I,c6,d1,d2,d3,d4,J,d6]):=fJ
theorem zOG(h:cs.length=6):∃u0 u1 u2 u3 u4 u5,cs=[u0,u1,u2,u3,u4,u5]:=by
 match cs,h with
 | [u0,u1,u2,u3,u4,u5],_=>exact⟨u0,u1,u2,u3,u4,u5,rfl⟩
theorem zLo{f:UF}(h:(fPT f g).p v W):∃u0 u1 u2 u3 u4 u5,v=.agg #[u0,u1,u2,u3,u4,u5]/\(CU.agg (fPT f g)).p [u0,u1,u2,u3,u4,u5] W:=by
 obtain⟨vs,rfl,I,_,_,J⟩:=yY v W h
 obtain⟨u0,u1,u2,u3,u4,u5,rfl⟩:=zOG I
 exact⟨u0,u1,u2,u3,u4,u5,rfl,J⟩
theorem zVE{p q s:V2}{u x y:WE}(hu:(fPV m p).p u W)(hv:(fPV m q).p v W)(hx:(fPV m r).p x W)(hy:(fPV m s).p y W):∃e cs,yI prog 22 4 [(0,u),(1,v),(2,x),(3,y)]=some (e,cs)/\(SF.row 6 (pvs m [p,q,r,s])).p (.slice (some ⟨W.heap.size,0,none⟩) 4 4) (W.alloc (.cells cs e)):=by
 obtain⟨a1,a2,a3,a4,a5,a6,rfl,ha⟩:=zLo hu
 obtain⟨b1,b2,b3,b4,b5,b6,rfl,hb⟩:=zLo hv
 obtain⟨c1,c2,c3,c4,O,c6,rfl,hc⟩:=zLo hx
 obtain⟨d1,d2,d3,d4,U,d6,rfl,hd⟩:=zLo hy
 refine⟨_,_,zZr ..,zTG (Cs:=pvs m [p,q,r,s]) (cs:=[a1,a2,a3,a4,a5,a6,b1,b2,b3,b4,b5,b6,c1,c2,c3,c4,O,c6,d1,d2,d3,d4,U,d6]) fC fun i C hi=>?_⟩
 have J:=(bE.1 hi).1
 simp at J
 rcases(oA:i=0∨i=1∨i=2∨i=3)with rfl|rfl|rfl|rfl
 .obtain rfl:CU.agg (fPV m p)=C:=by simpa using hi
  exact⟨_,fun j u I=>by have:=(bE.1 I).1;simp at this;rcases(oA:j=0∨j=1∨j=2∨j=3∨j=4∨j=5)with rfl|rfl|rfl|rfl|rfl|rfl<;>simpa using I,ha⟩
 .obtain rfl:CU.agg (fPV m q)=C:=by simpa using hi
  exact⟨_,fun j u I=>by have:=(bE.1 I).1;simp at this;rcases(oA:j=0∨j=1∨j=2∨j=3∨j=4∨j=5)with rfl|rfl|rfl|rfl|rfl|rfl<;>simpa using I,hb⟩
 .obtain rfl:CU.agg (fPV m r)=C:=by simpa using hi
  exact⟨_,fun j u I=>by have:=(bE.1 I).1;simp at this;rcases(oA:j=0∨j=1∨j=2∨j=3∨j=4∨j=5)with rfl|rfl|rfl|rfl|rfl|rfl<;>simpa using I,hc⟩
 .obtain rfl:CU.agg (fPV m s)=C:=by simpa using hi
  exact⟨_,fun j u I=>by have:=(bE.1 I).1;simp at this;rcases(oA:j=0∨j=1∨j=2∨j=3∨j=4∨j=5)with rfl|rfl|rfl|rfl|rfl|rfl<;>simpa using I,hd⟩
theorem zOj{d:Tmp}{z q:WL}(h:∀u v r s W,(fct G x).p u W->(fct G y).p v W->(fct G z).p r W->(fct G q).p s W->∃e cs,yI P t 4 [(0,u),(1,v),(2,r),(3,s)]=some (e,cs)/\(G d).p (.slice (some ⟨W.heap.size,0,none⟩) 4 4) (W.alloc (.cells cs e))):qO F m P w0 ops G ⟨some d,.buildSlice t 4 #[(0,x),(1,y),(2,z),(3,q)],ty,pos,aft,none⟩:=
 zDx fun b W hb I=>by
  obtain⟨e,cs,J,h2⟩:=h _ _ _ _ W (I x fC) (I y fC) (I z fC) (I q fC)
  exact⟨e,cs,by simpa using J,h2⟩
theorem zTT{u:WE}{p q:V2}(h1:(fPV M p).p u W)(h2:(fPV M q).p v W)(J:QB p.1 M/\QB p.2 M)(I:QB q.1 M/\QB q.2 M)(hM:M<=495):Calls prog 119 #[u,v] W (Ret W (fQN (zIx p q)).tS):=by
 refine zZ [(fPV M p).tS,(fPV M q).tS] func119 rfl kA ⟨h1,h2,trivial⟩ fun a s=>lP<|rgK 0 [] s
  zB fun a w1 s=>yL (CU.agg (fPV M p)) rfl s kA (fun v W h=>yV h) fun b2 a w s=>yL (CU.agg (fPV M q)) rfl s kA (fun v W h=>yV h) fun b3 a w s=>zX (CU.len 3) (cs:=zR3) kA rfl s kA (fun W=>rfl) rfl fun b4 a w s=>zD rfl<|lP<|yJ [] 14 ((5,.X (fPV M p) 0)::(6,.Z (fRV M ((p).1)))::(7,.X (fPV M q) 0)::(8,.Z (fRV M ((q).1)))::(9,.s (SF.row 3 (rvs M [(p).1,(q).1])))::(10,.Z (fQN ((p).1*(q).1)))::(11,.X (fPV M p) 3)::(12,.Z (fRV M ((p).2)))::(13,.X (fPV M q) 3)::(14,.Z (fRV M ((q).2)))::(15,.s (SF.row 3 (rvs M [(p).2,(q).2])))::(16,.Z (fQN ((p).2*(q).2)))::(17,.s (SF.row 3 (rvs (M+M) [((p).1*(q).1),((p).2*(q).2)])))::(18,.u (fQN (((p).1*(q).1)+((p).2*(q).2))))::[]) hmix s kA
  (oc (zL (C:=cg (fPV M p)) 0 kA)<|oc (zQ (C:=cg (fPV M p)) (k:=0) 3 kA (h:=zFc))<|oc (zL (C:=cg (fPV M q)) 0 kA)<|oc (zQ (C:=cg (fPV M q)) (k:=0) 3 kA (h:=zFc))<|oc (z9 (fun u v W (hu:RVp M ((p).1) u W) (hv:RVp M ((q).1) v W)=>zB5 hu hv))<|oc (zG zC zJB (fun O W hb (U:(SF.row 3 (rvs M [(p).1,(q).1])).p O W)=>zCj U J.1 I.1 oA))<|oc (zL (C:=cg (fPV M p)) 3 kA)<|oc (zQ (C:=cg (fPV M p)) (k:=3) 3 kA (h:=zDL))<|oc (zL (C:=cg (fPV M q)) 3 kA)<|oc (zQ (C:=cg (fPV M q)) (k:=3) 3 kA (h:=zDL))<|oc (z9 (fun u v W (hu:RVp M ((p).2) u W) (hv:RVp M ((q).2) v W)=>zB5 hu hv))<|oc (zG zC zJB (fun O W hb (U:(SF.row 3 (rvs M [(p).2,(q).2])).p O W)=>zCj U J.2 I.2 oA))<|oc (z9 (fun u v W (hu:QNp ((p).1*(q).1) u W) (hv:QNp ((p).2*(q).2) v W)=>zB5 (wH hu (J.1.mul I.1)) (wH hv (J.2.mul I.2))))<|oc (zG zC zKs (fun O W hb (U:(SF.row 3 (rvs (M+M) [((p).1*(q).1),((p).2*(q).2)])).p O W)=>zCH U (J.1.mul I.1) (J.2.mul I.2) oA))<|zB) fun Q' hQ a w2 s=>zM (fQN (((p).1*(q).1)+((p).2*(q).2))) rfl s zW fun a w s=>zD rfl (hQ _ _ ?_)
 exact pS<|wK s (CU.agg (fQN (p.1*q.1+p.2*q.2))) rfl kA rfl rfl (yW _) (fun cs W h=>h)
theorem zLf{u:WE}{p q:V2}(h1:(fPV m p).p u W)(h2:(fPV m q).p v W)(J:m<=990)(I:0<m):Calls prog 22 #[u,v] W (Ret W (fB (zAy p q==0)).tS):=by
 refine zZ [(fPV m p).tS,(fPV m q).tS] func22 rfl kA ⟨h1,h2,trivial⟩ fun a s=>lP<|rgK 0 [] s
  zB fun a w1 s=>yL (CU.agg (fPV m p)) rfl s kA (fun v W h=>yV h) fun b2 a w s=>yL (CU.agg (fPV m q)) rfl s kA (fun v W h=>yV h) fun b3 a w s=>yQ (uB false) rfl s kA iiz fun a w s=>zD rfl<|lP ?_
 replace s:=s.drop [4]
 exact rgE ((5,.Z (fPV m p))::(6,.Z (fPV m q))::(7,.Z (uI (zAy p q)))::(8,.Z (uB (zAy p q==0)))::(4,.u (uB (zAy p q==0)))::[]) s
  (oc (zK m p)<|oc (zK m q)<|oc (zH zC zWL (fun O U W hb (h0:(fPV m p).p O W) (h1:(fPV m q).p U W)=>zNL h0 h1 J I))<|oc (zI .i64 (zAy p q) 0 (zAy p q==0) iiz iiz rfl rfl)<|oc zF<|zB) fun a w2 s=>pS<|wF s (t:=4) rfl iiz
theorem zHM{u x:WE}{ca cb p:V2}(h1:(fPV m ca).p u W)(h2:(fPV m cb).p v W)(h3:(fPV M p).p x W)(hmM:m<=M)(h6:0<m)(hM:M+m+1<=495)(hM2:3*m+M+2<=990):Calls prog 89 #[u,v,x] W (Ret W (fB (onS ca cb p)).tS):=by
 have J:=zC6 h6 h1
 have O:=zC6 h6 h2
 have I:=zC6 oA h3
 refine zZ [(fPV m ca).tS,(fPV m cb).tS,(fPV M p).tS] func89 rfl kA ⟨h1,h2,h3,trivial⟩ fun a s=>lP<|rgK 0 [] s
  zB fun a w1 s=>yL (CU.agg (fPV m ca)) rfl s kA (fun v W h=>yV h) fun b3 a w s=>yL (CU.agg (fPV m cb)) rfl s kA (fun v W h=>yV h) fun b4 a w s=>yL (CU.agg (fPV M p)) rfl s kA (fun v W h=>yV h) fun b5 a w s=>yQ (uB false) rfl s kA iiz fun a w s=>zD rfl<|lP<|rgQ ((7,.Z (fPV m cb))::(8,.Z (fPV m ca))::(9,.Z (fPN ((cb).1-(ca).1,(cb).2-(ca).2)))::(10,.Z (fPV M p))::(11,.Z (fPV m ca))::(12,.Z (fPN ((p).1-(ca).1,(p).2-(ca).2)))::(13,.Z (fQN (crs ca cb p)))::(14,.Z (uI ((crs ca cb p).num.sign)))::(15,.u (uB ((crs ca cb p).num.sign !=0)))::[]) s
  (oc (zK m cb)<|oc (zK m ca)<|oc (zH zC zFl (fun U u1 W hb (h0:(fPV m cb).p U W) (h1:(fPV m ca).p u1 W)=>zBL (m:=m) (p:=cb) (q:=ca) h0 h1 oA h6))<|oc (zK M p)<|oc (zK m ca)<|oc (zH zC zFl (fun U u1 W hb (h0:(fPV M p).p U W) (h1:(fPV m ca).p u1 W)=>zBL (m:=M) (p:=p) (q:=ca) h0 (zF6 oA h1) oA oA))<|oc (zH zC zMF (fun U u1 W hb (h0:(fPN ((cb).1-(ca).1,(cb).2-(ca).2)).p U W) (h1:(fPN ((p).1-(ca).1,(p).2-(ca).2)).p u1 W)=>zMm (m:=2*m+1) (M:=M+m+1) (p:=((cb).1-(ca).1,(cb).2-(ca).2)) (q:=((p).1-(ca).1,(p).2-(ca).2)) (zBu (p:=((cb).1-(ca).1,(cb).2-(ca).2)) (m:=(M+m+1)) ((zBn O J).1.mono fP) ((zBn O J).2.mono fP) h0) (zBu (p:=((p).1-(ca).1,(p).2-(ca).2)) (m:=(M+m+1)) ((zBo I J).1.mono fP) ((zBo I J).2.mono fP) h1) (zBn O J) (zBo I J) oA oA oA))<|oc (zG zC zPd (fun U W hb (h0:QNp (crs ca cb p) U W)=>zEl (m:=((2*m+1+(M+m+1))+(2*m+1+(M+m+1))+1)) (wH h0 (zW9 J O I)) oA))<|oc (zI .i64 ((crs ca cb p).num.sign) 0 ((crs ca cb p).num.sign !=0) iiz iiz rfl rfl)<|zB) fun a w2 s=>StS.cond s ((crs ca cb p).num.sign !=0) iiz (fun e=>?_) (fun e=>?_)
 .refine lP ?_
  replace s:=s.drop [6]
  exact rgE ((6,.u (uB false))::[]) s
   (oc zF<|zB) fun a w3 s=>pS<|wF s (t:=6) rfl (fun v W h=>by rw[zX1 e];exact h)
 .refine pT ?_
  refine lP ?_
  replace s:=s.drop [6]
  exact rgE ((16,.Z (fPV M p))::(17,.Z (fPV m ca))::(18,.Z (fPN ((p).1-(ca).1,(p).2-(ca).2)))::(19,.Z (fPV M p))::(20,.Z (fPV m cb))::(21,.Z (fPN ((p).1-(cb).1,(p).2-(cb).2)))::(22,.Z (fQN (zIx ((p).1-(ca).1,(p).2-(ca).2) ((p).1-(cb).1,(p).2-(cb).2))))::(23,.Z (uI ((zIx ((p).1-(ca).1,(p).2-(ca).2) ((p).1-(cb).1,(p).2-(cb).2)).num.sign)))::(24,.Z (uB (decide ((zIx ((p).1-(ca).1,(p).2-(ca).2) ((p).1-(cb).1,(p).2-(cb).2)).num.sign<=0))))::(6,.u (uB (decide ((zIx ((p).1-(ca).1,(p).2-(ca).2) ((p).1-(cb).1,(p).2-(cb).2)).num.sign<=0))))::[]) s
   (oc (zK M p)<|oc (zK m ca)<|oc (zH zC zFl (fun U u1 W hb (h0:(fPV M p).p U W) (h1:(fPV m ca).p u1 W)=>zBL (m:=M) (p:=p) (q:=ca) h0 (zF6 oA h1) oA oA))<|oc (zK M p)<|oc (zK m cb)<|oc (zH zC zFl (fun U u1 W hb (h0:(fPV M p).p U W) (h1:(fPV m cb).p u1 W)=>zBL (m:=M) (p:=p) (q:=cb) h0 (zF6 oA h1) oA oA))<|oc (zH zC zW3 (fun U u1 W hb (h0:(fPN ((p).1-(ca).1,(p).2-(ca).2)).p U W) (h1:(fPN ((p).1-(cb).1,(p).2-(cb).2)).p u1 W)=>zTT (M:=M+m+1) (p:=((p).1-(ca).1,(p).2-(ca).2)) (q:=((p).1-(cb).1,(p).2-(cb).2)) (zBu (p:=((p).1-(ca).1,(p).2-(ca).2)) (m:=(M+m+1)) ((zBo I J).1.mono fP) ((zBo I J).2.mono fP) h0) (zBu (p:=((p).1-(cb).1,(p).2-(cb).2)) (m:=(M+m+1)) ((zBo I O).1.mono fP) ((zBo I O).2.mono fP) h1) (zBo I J) (zBo I O) oA))<|oc (zG zC zPd (fun U W hb (h0:QNp (zIx ((p).1-(ca).1,(p).2-(ca).2) ((p).1-(cb).1,(p).2-(cb).2)) U W)=>zEl (m:=((M+m+1)+(M+m+1)+((M+m+1)+(M+m+1))+1)) (wH h0 (((zBo I J).1.mul (zBo I O).1).add ((zBo I J).2.mul (zBo I O).2))) oA))<|oc (zI .i64 ((zIx ((p).1-(ca).1,(p).2-(ca).2) ((p).1-(cb).1,(p).2-(cb).2)).num.sign) 0 (decide ((zIx ((p).1-(ca).1,(p).2-(ca).2) ((p).1-(cb).1,(p).2-(cb).2)).num.sign<=0)) iiz iiz rfl rfl)<|oc zF<|zB) fun a w4 s=>pS<|wF s (t:=6) rfl (fun v W h=>by rw[zX2 e];exact h)
theorem zQR{u:WE}{L:List V2}{p:V2}(hl:(SF.row 6 (pns L)).p l W)(h1:(fPV m p).p u W)(U:∀x,x∈L->QB x.1 m/\QB x.2 m)(hm:m<=990)(ha:0<m)(hn:L.length<=1000000):Calls prog 117 #[l,u] W (Ret W (SF.row 6 (pns (zF7 L p)))):=by
 refine zZ [(UF.eq l).tS,(fPV m p).tS] func117 rfl kA ⟨rfl,h1,trivial⟩ fun a s=>?_
 replace s:=s.renew [(0,.u (UF.eq l)),(1,.u (fPV m p))] (fU (.inr ⟨_,rfl,.head _⟩)<|fU (.inr ⟨_,rfl,mz1⟩) fnz)
 refine lP<|rgK 0 [] s
  zB fun a w1 s=>yL (CU.agg (fPV m p)) rfl s kA (fun v W h=>yV h) fun b3 a w s=>yQ (UF.eq (sN)) rfl s kA iiz fun a w s=>zD rfl<|rgQ ((5,.u (uI 0))::[]) s
  (oc zF<|zB) fun a w2 s=>lP<|tT<|zAs (fun k=>k<=L.length/\∀j,j<k->decide (zAy (at_ L j) p<0)=true) (fun k=> [(0,.u (UF.eq l)),(5,.u (uI ((k:Nat):Int)))]) (fun k=>L.length-k) (0:Nat) (⟨vS _,fun j hj=>absurd hj (rS _)⟩) (s.keepK _ (fU mz2<|fU (.head _) fnz)) fun k a w hx s=>lP<|rgQ ((7,.Z (uI (k:Int)))::(8,.Z (UF.eq l))::(9,.Z (uI ((pns L).length:Int)))::(10,.Z (uB (ltz k ((pns L).length))))::(11,.Z (uB (ltz k ((pns L).length))))::(12,.s (SF.imp ((ltz k ((pns L).length))=true) ((UF.eq l).tS)))::(13,.s (SF.imp ((ltz k ((pns L).length))=true) ((uI (k:Int)).tS)))::(14,.s (SF.imp ((ltz k ((pns L).length))=true) (wC (cg (fPN (at_ L k))))))::(15,.s (SF.imp ((ltz k ((pns L).length))=true) ((fPN (at_ L k)).tS)))::(16,.s (SF.imp ((ltz k ((pns L).length))=true) ((fPV m p).tS)))::(17,.s (SF.imp ((ltz k ((pns L).length))=true) ((uI (zAy (at_ L k) p)).tS)))::(18,.s (SF.imp ((ltz k ((pns L).length))=true) ((uB (decide (zAy (at_ L k) p<0))).tS)))::(19,.u (uB ((ltz k ((pns L).length))&&(decide (zAy (at_ L k) p<0)))))::[]) s
  (oc zA<|oc zA<|oc (yK (z:=6) (Cs:=pns L) kA (yM hl s) (fun _=>rfl))<|oc (zI .i64 (k:Int) ((pns L).length:Int) (ltz k ((pns L).length)) iiz iiz rfl rfl)<|oc zA<|oc (zE 11 (ltz k ((pns L).length)) kA iiz (fun e=>z5 [] ((UF.eq l).tS) fnz fO kA zA) fN)<|oc (zE 11 (ltz k ((pns L).length)) kA iiz (fun e=>z5 [] ((uI (k:Int)).tS) fnz fO kA zA) fN)<|oc (zE 11 (ltz k ((pns L).length)) kA iiz (fun e=>z5 [(12,(UF.eq l).tS),(13,(uI (k:Int)).tS)] (wC (cg (fPN (at_ L k)))) (fU (fun v W h=>zN (c:=(ltz k ((pns L).length))=true) (f:=(UF.eq l).tS) e h)<|fU (fun v W h=>zN (c:=(ltz k ((pns L).length))=true) (f:=(uI (k:Int)).tS) e h) fnz) fO kA (zO (z:=6) (Cs:=pns L) (i:=k) (C:=CU.agg (fPN (at_ L k))) kA (zBt (by have:=xX e;simp at this;omega)) (yM hl s) iiz)) fN)<|oc (zE 11 (ltz k ((pns L).length)) kA iiz (fun e=>z5 [(14,wC (cg (fPN (at_ L k))))] ((fPN (at_ L k)).tS) (fU (fun v W h=>zN (c:=(ltz k ((pns L).length))=true) (f:=wC (cg (fPN (at_ L k)))) e h) fnz) fO kA (zT (f:=fPN (at_ L k)) 6 kA (hz:=y9 _ _))) fN)<|oc (zE 11 (ltz k ((pns L).length)) kA iiz (fun e=>z5 [] ((fPV m p).tS) fnz fO kA (zK m p)) fN)<|oc (zE 11 (ltz k ((pns L).length)) kA iiz (fun e=>z5 [(15,(fPN (at_ L k)).tS),(16,(fPV m p).tS)] ((uI (zAy (at_ L k) p)).tS) (fU (fun v W h=>zN (c:=(ltz k ((pns L).length))=true) (f:=(fPN (at_ L k)).tS) e h)<|fU (fun v W h=>zN (c:=(ltz k ((pns L).length))=true) (f:=(fPV m p).tS) e h) fnz) fO kA (zH zC zWL (fun u0 u1 W hb (h0:(fPN (at_ L k)).p u0 W) (h1:(fPV m p).p u1 W)=>zNL (m:=m) (p:=at_ L k) (q:=p) (zBu (p:=at_ L k) (m:=m) (U _ (jZ (l:=L) (i:=k) (by have:=xX e;simp at this;omega))).1 (U _ (jZ (l:=L) (i:=k) (by have:=xX e;simp at this;omega))).2 h0) h1 hm ha))) fN)<|oc (zE 11 (ltz k ((pns L).length)) kA iiz (fun e=>z5 [(17,(uI (zAy (at_ L k) p)).tS)] ((uB (decide (zAy (at_ L k) p<0))).tS) (fU (fun v W h=>zN (c:=(ltz k ((pns L).length))=true) (f:=(uI (zAy (at_ L k) p)).tS) e h) fnz) fO kA (zI .i64 (zAy (at_ L k) p) 0 (decide (zAy (at_ L k) p<0)) iiz iiz rfl rfl)) fN)<|oc (yC (ltz k ((pns L).length)) iiz (fun e v W h=>zA0 (zN e h) e) (fun e v W h=>zAe h e))<|zB) fun a w3 s=>StS.cond s ((ltz k ((pns L).length))&&(decide (zAy (at_ L k) p<0))) iiz (fun e=>?_) (fun e=>?_)
 .rw[xW]at e
  have hk:k<L.length:=by have:=xX e.1;simp at this;omega
  have hB:=e.2
  refine pT<|tT<|zV 2 ((20,.Z (uI (k:Int)))::(21,.u (uI ((k+1:Nat):Int)))::[]) s kA
   (oc zA<|oc (yB .i64 (k:Int) 1 ((k+1:Nat):Int) iiz iiz (wrap64 _ _ oA oA))<|zB) fun a w4 s=>?_
  replace s:=s.drop [5]
  exact yQ (uI ((k+1:Nat):Int)) rfl s kA iiz fun a w s=>zD rfl<|⟨k+1,⟨hk,fun j hj=>by rcases tX (zGJ hj)with h|h;exact hx.2 j h;rw[h];exact hB⟩,(by show L.length-(k+1)<L.length-k;omega),s.keepK _ (fU mz3<|fU (.head _) fnz)⟩
 .have hv:=hx.1
  have h5:zN3 L p=k:=by
   rw[zZX]at e
   rcases tX hv with h|h
   .exact zQc h hx.2 (by rcases e with e|e;exact absurd (show(k:Int)<((pns L).length:Int)from fM) (nF e);exact e)
   .unfold zN3;rw[h];exact zNf (by rw[<-h];exact hx.2)
  clear e
  refine tU<|lP<|rgQ ((22,.Z (uI (k:Int)))::(23,.Z (UF.eq l))::(24,.Z (uI ((pns L).length:Int)))::(25,.Z (uB (ltz k ((pns L).length))))::(26,.Z (uB (ltz k ((pns L).length))))::(27,.s (SF.imp ((ltz k ((pns L).length))=true) ((UF.eq l).tS)))::(28,.s (SF.imp ((ltz k ((pns L).length))=true) ((uI (k:Int)).tS)))::(29,.s (SF.imp ((ltz k ((pns L).length))=true) (wC (cg (fPN (at_ L k))))))::(30,.s (SF.imp ((ltz k ((pns L).length))=true) ((fPN (at_ L k)).tS)))::(31,.s (SF.imp ((ltz k ((pns L).length))=true) ((fPV m p).tS)))::(32,.s (SF.imp ((ltz k ((pns L).length))=true) ((uB (zAy (at_ L k) p==0)).tS)))::(33,.u (uB ((ltz k ((pns L).length))&&(zAy (at_ L k) p==0))))::[]) s
   (oc zA<|oc zA<|oc (yK (z:=6) (Cs:=pns L) kA (yM hl s) (fun _=>rfl))<|oc (zI .i64 (k:Int) ((pns L).length:Int) (ltz k ((pns L).length)) iiz iiz rfl rfl)<|oc zA<|oc (zE 26 (ltz k ((pns L).length)) kA iiz (fun e=>z5 [] ((UF.eq l).tS) fnz fO kA zA) fN)<|oc (zE 26 (ltz k ((pns L).length)) kA iiz (fun e=>z5 [] ((uI (k:Int)).tS) fnz fO kA zA) fN)<|oc (zE 26 (ltz k ((pns L).length)) kA iiz (fun e=>z5 [(27,(UF.eq l).tS),(28,(uI (k:Int)).tS)] (wC (cg (fPN (at_ L k)))) (fU (fun v W h=>zN (c:=(ltz k ((pns L).length))=true) (f:=(UF.eq l).tS) e h)<|fU (fun v W h=>zN (c:=(ltz k ((pns L).length))=true) (f:=(uI (k:Int)).tS) e h) fnz) fO kA (zO (z:=6) (Cs:=pns L) (i:=k) (C:=CU.agg (fPN (at_ L k))) kA (zBt (by have:=xX e;simp at this;omega)) (yM hl s) iiz)) fN)<|oc (zE 26 (ltz k ((pns L).length)) kA iiz (fun e=>z5 [(29,wC (cg (fPN (at_ L k))))] ((fPN (at_ L k)).tS) (fU (fun v W h=>zN (c:=(ltz k ((pns L).length))=true) (f:=wC (cg (fPN (at_ L k)))) e h) fnz) fO kA (zT (f:=fPN (at_ L k)) 6 kA (hz:=y9 _ _))) fN)<|oc (zE 26 (ltz k ((pns L).length)) kA iiz (fun e=>z5 [] ((fPV m p).tS) fnz fO kA (zK m p)) fN)<|oc (zE 26 (ltz k ((pns L).length)) kA iiz (fun e=>z5 [(30,(fPN (at_ L k)).tS),(31,(fPV m p).tS)] ((uB (zAy (at_ L k) p==0)).tS) (fU (fun v W h=>zN (c:=(ltz k ((pns L).length))=true) (f:=(fPN (at_ L k)).tS) e h)<|fU (fun v W h=>zN (c:=(ltz k ((pns L).length))=true) (f:=(fPV m p).tS) e h) fnz) fO kA (zH zC zWR (fun u0 u1 W hb (h0:(fPN (at_ L k)).p u0 W) (h1:(fPV m p).p u1 W)=>zLf (m:=m) (p:=at_ L k) (q:=p) (zBu (p:=at_ L k) (m:=m) (U _ (jZ (l:=L) (i:=k) (by have:=xX e;simp at this;omega))).1 (U _ (jZ (l:=L) (i:=k) (by have:=xX e;simp at this;omega))).2 h0) h1 hm ha))) fN)<|oc (yC (ltz k ((pns L).length)) iiz (fun e v W h=>zA0 (zN e h) e) (fun e v W h=>zAe h e))<|zB) fun a J s=>StS.cond s ((ltz k ((pns L).length))&&(zAy (at_ L k) p==0)) iiz (fun e=>?_) (fun e=>?_)
  .refine lP ?_
   exact rgE ((34,.Z (UF.eq l))::(4,.u (UF.eq l))::[]) s
    (oc zA<|oc zF<|zB) fun a w6 s=>pS<|StS.resN s (xG _ _) (t:=4) rfl (by rw[s.val (.head _),zV3 h5 e];exact(SF.row 6 _).st _ _ _ hl s.below)
  .refine pT ?_
   refine lP ?_
   have hf:=s.below
   have h6:=(SF.row 6 _).st _ _ _ hl hf
   have hy:b3<J.heap.size:=s.old _ (.head _)
   replace s:StS _ _ _ [⟨3,30,CU.agg (fPV m p),b3,true⟩] _ _ _ _:=s.freeze
   replace s:=s.reb rfl [(33,.u (uB ((ltz k ((pns L).length))&&(zAy (at_ L k) p==0)))),(19,.u (uB ((ltz k ((pns L).length))&&(decide (zAy (at_ L k) p<0))))),(0,.u (UF.eq l)),(5,.u (uI (k:Int)))] (fU (.inl (.head _))<|fU (.inl mz1)<|fU (.inl mz2)<|fU (.inl mz3) fnz)
   refine rgL 5 ((35,.s (vD J 30))::(36,.Z (UF.eq l))::(37,.Z (uI (k:Int)))::(38,.s (SF.row 6 (pns (L.take k))))::(39,.s (wI J 30 6 (pns (L.take k))))::[]) s
    (oc (zOl (z:=6) kA)<|oc zA<|oc zA<|oc (zQ8 (z:=6) (k:=k) (Cs:=pns L) kA fM (yM h6 s) iiz (fun v W h=>by rw[zQ0]at h;exact h))<|oc (zUq (pns (L.take k)) kA iiz (fun v W hb h=>h) (zJd _) fM)<|zB) fun a w7 s hr=>?_
   obtain⟨v39,e39⟩:∃v,a.tmps.getD 39 undef=v:=⟨_,rfl⟩
   have hg:zAO w7 J.heap.size 30 6 v39 (pns (L.take k)):=e39▸(hr (_,_) mz4)
   replace s:=s.learn 39 v39 e39
   refine zSa (UF.eq v39) rfl s kA iiz fun a s=>zD rfl<|lP ?_
   have sb:=s;have so:∀q,q∈ [(⟨3,30,CU.agg (fPV m p),b3,true⟩:Bx)]->q.b<J.heap.size:=fun q hq=>by rcases xS.1 hq with rfl|hq;exact hy;cases hq
   have sg:J.heap.size<=J.heap.size:=vQ _
   have hh:=s.below
   refine zHG (GW J) hmix s fun w8 h7 s=>?_
   have I:=hh.trans (h7.mono hh.size)
   have hz:=I.size
   refine zHI [5,6,7] [0,1,2,3,5,6,7] ((40,.u (UF.eq v39))::(41,.Z (fPV m p))::(42,.s (SF.row 6 [CU.agg (fPV m p)]))::(43,.s (SF.row 6 (pns [p])))::(45,.Z (UF.eq l))::(46,.Z (uI (k:Int)))::(47,.u (fRW J 6 (pns (L.drop k))))::[]) (zMB I) s kA
    (oc zA<|oc (zK m p)<|oc (jV (fun u W (hu:(fPV m p).p u W)=>zFX hu))<|oc (zG zC zWV (fun u0 W hb h0=>(zQG (m:=m) (ps:=[p]) h0 oA fC).mono (wG jK)))<|oc zA<|oc zA<|oc (zKd (W0:=J) (l0:=l) (z:=6) (k:=k) (Cs:=pns L) kA fM h6 iiz iiz (fun v W h=>by rw[zQ1]at h;exact h))<|zB)
    (jA rfl (zEb.c zDg I) (jA rfl (zEb.c zDg I) (jA rfl (zEb.c (zKp (x:=.tmp 45) (lo:=.tmp 46) (l0:=l) (z:=6) (k:=k) (Cs:=pns L) kA fM h6 iiz iiz) I) zGr))) fun a w9 O s hr=>?_
   replace I:=I.trans (O.mono I.size)
   have hN:=hg.below (h7.trans (O.mono h7.size))
   refine zLe (i:=4) (x:=.tmp 40) (y:=.tmp 43) (pns [p]) I s sg hN rfl (zDQ rfl) kA kA kA (s.fct (.tmp 40)) (hr (_,_) mz3) (zJd _) fM so fun v44 a w10 I h4 s=>?_
   have hR44:=h4.row
   refine zLe (i:=8) (x:=.tmp 44) (y:=.tmp 47) (pns (L.drop k)) I s sg h4 rfl (zDQ rfl) kA kA kA (s.fct (.tmp 44)) ((SF.row 6 _).st _ _ _ (s.sl (47,.u (fRW J 6 (pns (L.drop k)))) mz2) I) (zJd _) fM so fun he a hC I hd s=>?_
   have hc:=hd.row
   have hR:(SF.row 6 (pns (zF7 L p))).p he hC:=by have:=hc;rw[zN4,<-zV4 h5 e]at this;exact this
   replace s:=s.drop [4]
   exact zHI [] [9] ((4,.u (UF.eq he))::[]) (zMB I) s kA (zLz zF<|zB) zGr fun a w12 O s hr=>zFu kA<|pS<|StS.resN s hf (t:=4) rfl (by rw[s.val (.head _)];exact(SF.row 6 _).st _ _ _ hR O)
section
variable {f g f' g':UF}
end
section
variable {F:Fence}{m:Nat}{P:WH}{u w0:WB}{ops:Array Oper}{G:Nat->SF}{d:Tmp}{ty:WF}{pos:String}{aft:Array Edge}
variable {l:WE}{x y:WL}{t:WF}{z:Nat}{Cs:List CU}{i:Nat}{C:CU}
theorem zGe(hz:qP P t=some z)(hi:Cs[i]?=some C)(J:(SF.row z Cs).p l u)(U:∀v W,(fct G x).p v W->v=l)(hy:∀v W,(fct G y).p v W->v=.int .i64 (i:Int))(hd:∀v W,(fOp u C).p v W->(G d).p v W:=by exact fun _ _ h=>h):qO F m P w0 ops G ⟨some d,.indexAddr t x y,ty,pos,aft,none⟩:=
 qG (fun _ e=>by cases e) (fun _ e=>by cases e) fun b W hb I=>by
  have e1:=U _ _ (I x (by simp[Op.operands]))
  have O:=hy _ _ (I y (by simp[Op.operands]))
  obtain⟨A,c,rfl,h2,h3,h4,h5⟩:=J
  obtain⟨b',o,cs,rfl,h6,h7⟩:=h5 i C hi
  refine⟨.pointer (some ⟨b',o+i*z,none⟩),?_,hd _ _ ⟨b',o+i*z,cs,rfl,h7,h6⟩⟩
  simp[execOp,e1,O,zGV hz (bE.1 hi).1]
theorem zHQ(J:bW u w0)(f:UF)(k:Nat)(hk:jR P t=some k)(O:∀v W,(fct G x).p v W->(fOp u C).p v W)(h:∀cs W,C.p cs W->0+k<=cs.length/\f.p (.agg ((cs.drop 0).take k).toArray) W)(U:∀v W,f.p v W->(G d).p v W:=by exact fun _ _ h=>h):qO F m P w0 ops G ⟨some d,.load t x,ty,pos,aft,none⟩:=
 qG (fun _ e=>by cases e) (fun _ e=>by cases e) fun b W hb hh=>by
  have hb:=J.trans (hb.mono J.size)
  obtain⟨a,q,cs,e,h2,h3⟩:=O _ _ (hh x (by simp[Op.operands]))
  obtain⟨h4,I⟩:=h cs W (C.us _ _ _ h2 (zR hb))
  rw[nJ]at I
  exact⟨_,by simp[execOp,Instr.loadAt,e,Instr.sureAddr,zAu hk (h3.below hb) oA],U _ _ I⟩
end
section
variable {S:Nat->Prop}{w0:WB}{K:List (Nat×KF)}{B:List Bx}{n:Nat}{ds:List Deferred}{a:Act}{w:WB}
theorem StS.own(h:St w0 K B n ds a w){c:Nat}{y:Bx}(J:zFk B c=some y)(I:y.r=false):w0.heap.size<=y.b:=by
 obtain⟨O,_⟩:=zAp J
 obtain⟨_,_,h2,_⟩:=h.bx.mem y O
 rcases h2 with e|e|e
 .rw[I]at e;cases e
 .exact e
 .exact e.elim
theorem zLM{wb:WB}(h:bW wb w){b:Nat}(hb:wb.heap.size<=b)(vs:Array WE):Gr (GW wb) (w.setRow b vs):=zMB (zML h hb)
end
theorem zNs(m:Nat)(W:WB):RVp m 0 (.agg #[.bool false, sN, sN]) W:=⟨iv false [],0,⟨_,_,_,rfl,⟨false,none,0,0, [],rfl,wM W,zCp,vS _,rfl⟩,⟨none,0,0, [],rfl,wM W,zCp,vS _,rfl⟩⟩,rZ _⟩
abbrev ptZ:List WE:=[.bool false, sN, sN,.bool false, sN, sN]
theorem zN1(m:Nat)(W:WB):(CU.agg (fPV m (0,0))).p ptZ W:=⟨false,none,0,0,none,0,0,false,none,0,0,none,0,0,rfl,zNs m W,zNs m W⟩
section
variable {f g f' g':UF}
end
def zFn(lo hi r:Rat):Bool:=decide (qsg lo r<=0)&&decide (qsg r hi<=0)
theorem zL0{lo hi r:Rat}:zFn lo hi r=true↔lo<=r/\r<=hi:=by
 have I:∀p q:Rat,decide (qsg p q<=0)=true↔p<=q:=fun p q=>by
  rw[tZ]
  rcases zEU p q with e|e|e
  .rw[e];exact⟨fun _=>rE (zI6.1 e),fun _=>fH⟩
  .rw[e];exact⟨fun _=>by rw[zCS.1 e];exact rI,fun _=>fH⟩
  .rw[e];exact⟨fun h=>absurd h dA,fun h=>absurd (zG0.1 e) (Rat.not_lt.2 h)⟩
 unfold zFn
 rw[xW,I,I]
theorem zVn{u:WE}{p q:V2}(h1:(fPV m p).p u W)(h2:(fPV m q).p v W)(hm:m<=2000)(I:0<m)(hT:Tab W):Calls prog 95 #[u,v] W (Ret W (fI (zAy p q)).tS):=by
 refine zZ [(fPV m p).tS,(fPV m q).tS] func95 rfl kA ⟨h1,h2,trivial⟩ fun a s=>lP<|rgK 0 [] s
  zB fun a w1 s=>yL (CU.agg (fPV m p)) rfl s kA (fun v W h=>yV h) fun b2 a w s=>yL (CU.agg (fPV m q)) rfl s kA (fun v W h=>yV h) fun b3 a w s=>yQ (uI 0) rfl s kA iiz fun a w s=>zD rfl<|lP<|rgQ ((6,.X (fPV m p) 0)::(7,.Z (fRV m ((p).1)))::(8,.X (fPV m q) 0)::(9,.Z (fRV m ((q).1)))::(10,.Z (uI (qsg (p).1 (q).1)))::(5,.u (uI (qsg (p).1 (q).1)))::[]) s
  (oc (zL (C:=cg (fPV m p)) 0 kA)<|oc (zQ (C:=cg (fPV m p)) (k:=0) 3 kA (h:=zFc))<|oc (zL (C:=cg (fPV m q)) 0 kA)<|oc (zQ (C:=cg (fPV m q)) (k:=0) 3 kA (h:=zFc))<|oc (zH zC zSP (fun J O W hb (U:RVp m ((p).1) J W) (h1:RVp m ((q).1) O W)=>zSj U h1 hm I (hT.below (s.up hb))))<|oc zF<|zB) fun a w2 s=>rgQ ((11,.Z (uI (qsg (p).1 (q).1)))::(12,.u (uB (qsg (p).1 (q).1 !=0)))::[]) s
  (oc zA<|oc (zI .i64 (qsg (p).1 (q).1) 0 (qsg (p).1 (q).1 !=0) iiz iiz rfl rfl)<|zB) fun a w3 s=>StS.cond s (qsg (p).1 (q).1 !=0) iiz (fun e=>?_) (fun e=>?_)
 .refine lP ?_
  replace s:=s.drop [4]
  exact rgE ((13,.Z (uI (qsg (p).1 (q).1)))::(4,.u (uI (qsg (p).1 (q).1)))::[]) s
   (oc zA<|oc zF<|zB) fun a w4 s=>pS<|wF s (t:=4) rfl (fun v W h=>by rw[zSZ e];exact h)
 .refine pT ?_
  refine lP ?_
  replace s:=s.drop [4]
  exact rgE ((14,.X (fPV m p) 3)::(15,.Z (fRV m ((p).2)))::(16,.X (fPV m q) 3)::(17,.Z (fRV m ((q).2)))::(18,.Z (uI (qsg (p).2 (q).2)))::(4,.u (uI (qsg (p).2 (q).2)))::[]) s
   (oc (zL (C:=cg (fPV m p)) 3 kA)<|oc (zQ (C:=cg (fPV m p)) (k:=3) 3 kA (h:=zDL))<|oc (zL (C:=cg (fPV m q)) 3 kA)<|oc (zQ (C:=cg (fPV m q)) (k:=3) 3 kA (h:=zDL))<|oc (zH zC zSP (fun J O W hb (U:RVp m ((p).2) J W) (h1:RVp m ((q).2) O W)=>zSj U h1 hm I (hT.below (s.up hb))))<|oc zF<|zB) fun a w5 s=>pS<|wF s (t:=4) rfl (fun v W h=>by rw[zSY e];exact h)
theorem zM1(hl:(SF.row 6 (pvs m ps)).p l W)(hm:m<=2000)(I:0<m)(hps:ps.length<=1000000)(hT:Tab W):Calls prog 64 #[l] W (Ret W (wI W 30 6 (pns ps))):=by
 refine zZ [(UF.eq l).tS] func64 rfl kA ⟨rfl,trivial⟩ fun a s=>?_
 replace s:=s.renew [(0,.u (UF.eq l))] (fU (.inr ⟨_,rfl,.head _⟩) fnz)
 refine rgQ ((2,.u (UF.eq (sN)))::[]) s
  (oc zF<|zB) fun a w1 s=>lP<|rgQ ((5,.u (UF.eq l))::(6,.u (uI ((pvs m ps).length:Int)))::(7,.u (uI 0))::[]) s
  (oc zA<|oc (yK (z:=6) (Cs:=pvs m ps) kA (yM hl s) (fun _=>rfl))<|oc zA<|zB) fun a w2 s=>tT ?_
 obtain⟨base,hbase⟩:∃b,b=w2.heap.size:=⟨_,rfl⟩
 have U:W.heap.size<=base:=by rw[hbase];exact s.gr.size
 have h1:base<=w2.heap.size:=by rw[hbase];exact vQ _
 refine zHv (fun(p:Nat×WE) w=>p.1<=ps.length/\base<=w.heap.size/\zAO w base 30 6 p.2 (pns (ps.take p.1))) (fun p=> [(5,.u (UF.eq l)),(6,.u (uI ((pvs m ps).length:Int))),(2,.u (UF.eq (p.2))),(7,.u (uI (p.1:Int)))]) (fun p=>ps.length-p.1) (0, sN) (⟨vS _,h1,zAO.nil _ _ _ _⟩) (s.keepK _ (fU (.head _)<|fU mz1<|fU mz3<|fU mz2 fnz)) fun p a w hI s=>?_
 have s0:=s
 have h9:=(SF.row 6 (pvs m ps)).st _ _ _ hl s0.below
 have he:=hT
 have hT:=he.below s0.below
 replace s:=s.reb rfl [(5,.u (UF.eq l)),(6,.u (uI ((pvs m ps).length:Int))),(2,.u (UF.eq (p.2))),(7,.u (uI (p.1:Int)))] (fU (.inl (.head _))<|fU (.inl mz1)<|fU (.inl mz2)<|fU (.inl mz3) fnz)
 refine rgQ ((8,.u (uB (ltz p.1 ((pvs m ps).length))))::[]) s
  (oc (zI .i64 (p.1:Int) ((pvs m ps).length:Int) (ltz p.1 ((pvs m ps).length)) iiz iiz rfl rfl)<|zB) fun a w3 s=>lP<|StS.cond s (ltz p.1 ((pvs m ps).length)) iiz (fun e=>?_) (fun e=>?_)
 .have O:p.1<ps.length:=by have:=xX e;simp at this;omega
  refine pT<|lP<|tT<|lP<|rgK 2 ((9,.Y (fPV m (at_ ps p.1)))::(10,.u (fPV m (at_ ps p.1)))::[]) s
   (oc (zO (z:=6) (Cs:=pvs m ps) (i:=p.1) (C:=CU.agg (fPV m (at_ ps p.1))) kA (qJ O) (yM h9 s) iiz)<|oc (zK m (at_ ps p.1))<|zB) fun a w4 s=>zX (CU.len 6) (cs:=zP6) kA rfl s kA (fun W=>rfl) rfl fun b4 a w s=>zM (fPV m (at_ ps p.1)) rfl s yY fun a w s=>zD rfl<|zBF (K:=[(10,.u (fPV m (at_ ps p.1))),(8,.u (uB (ltz p.1 ((pvs m ps).length)))),(5,.u (UF.eq l)),(6,.u (uI ((pvs m ps).length:Int))),(7,.u (uI (p.1:Int)))]) [(2,.u (UF.eq (p.2)))] [0] 9 ((11,.u (UF.eq (p.2)))::(12,.X (fPV m (at_ ps p.1)) 0)::(13,.Z (fRV m ((at_ ps p.1).1)))::(14,.Z (fQN ((at_ ps p.1).1)))::(15,.X (fPV m (at_ ps p.1)) 3)::(16,.Z (fRV m ((at_ ps p.1).2)))::(17,.Z (fQN ((at_ ps p.1).2)))::(18,.Z (fPN ((at_ ps p.1).1,(at_ ps p.1).2)))::(19,.s (SF.row 6 [CU.agg (fPN ((at_ ps p.1).1,(at_ ps p.1).2))]))::[]) hmix (s.keepK _ (fU mz4<|fU (.head _)<|fU mz1<|fU mz2<|fU mz3<|fU mz5 fnz)) kA
   (oc zA<|oc (zL (C:=cg (fPV m (at_ ps p.1))) 0 kA)<|oc (zQ (C:=cg (fPV m (at_ ps p.1))) (k:=0) 3 kA (h:=zFc))<|oc (zG zC zWu (fun u0 W hb (h0:RVp m ((at_ ps p.1).1) u0 W)=>zNH (m:=m) h0 hm I (hT.below (s.up hb))))<|oc (zL (C:=cg (fPV m (at_ ps p.1))) 3 kA)<|oc (zQ (C:=cg (fPV m (at_ ps p.1))) (k:=3) 3 kA (h:=zDL))<|oc (zG zC zWu (fun u0 W hb (h0:RVp m ((at_ ps p.1).2) u0 W)=>zNH (m:=m) h0 hm I (hT.below (s.up hb))))<|oc (q8 (fun u v W (hu:QNp ((at_ ps p.1).1) u W) (hv:QNp ((at_ ps p.1).2) v W)=>zU1 (zBe _) (zBe _) hu hv))<|oc (jV (fun u W (hu:(fPN ((at_ ps p.1).1,(at_ ps p.1).2)).p u W)=>zFX hu))<|zB) fun Q' hQ a w5 s hr=>zTv ([CU.agg (fPN ((at_ ps p.1).1,(at_ ps p.1).2))]) s0 (s.keepK [(11,.u (UF.eq (p.2))),(10,.u (fPV m (at_ ps p.1))),(8,.u (uB (ltz p.1 ((pvs m ps).length)))),(5,.u (UF.eq l)),(6,.u (uI ((pvs m ps).length:Int))),(7,.u (uI (p.1:Int)))] (fU (.head _)<|fU mz1<|fU mz2<|fU mz3<|fU mz4<|fU mz5 fnz)) U hI.2 rfl kA kA kA (s.fct (.tmp 11)) (hr (_,_) mz8) (zOg _ _) fM (fun q hq hr=>by rcases xS.1 hq with rfl|hq;cases hr;cases hq) fun v' a w h4 s=>?_
  have s1:=s
  replace s:StS _ _ _ [⟨4,30,CU.agg (fPV m (at_ ps p.1)),b4,true⟩] _ _ _ _:=s.freeze
  replace s:=s.reb rfl [(20,.u (UF.eq v')),(11,.u (UF.eq (p.2))),(10,.u (fPV m (at_ ps p.1))),(8,.u (uB (ltz p.1 ((pvs m ps).length)))),(5,.u (UF.eq l)),(6,.u (uI ((pvs m ps).length:Int))),(7,.u (uI (p.1:Int)))] (fU (.inl (.head _))<|fU (.inl mz1)<|fU (.inl mz2)<|fU (.inl mz3)<|fU (.inl mz4)<|fU (.inl mz5)<|fU (.inl mz6) fnz)
  refine yQ (UF.eq v') rfl s kA iiz fun a w s=>zD rfl (hQ _ _ ?_)
  refine zV 1 ((21,.u (uI ((p.1+1:Nat):Int)))::[]) s kA
   (oc (yB .i64 (p.1:Int) 1 ((p.1+1:Nat):Int) iiz iiz (wrap64 _ _ oA oA))<|zB) fun a w6 s=>?_
  replace s:=s.drop [7]
  refine zBJ (uI ((p.1+1:Nat):Int)) rfl s kA zA kA fun a w s=>zD rfl ?_
  replace s:=s.popB
  have J:=s.below
  replace s:=s1.back (s.keepK [(7,.u (uI ((p.1+1:Nat):Int))),(21,.u (uI ((p.1+1:Nat):Int))),(2,.u (UF.eq v')),(20,.u (UF.eq v')),(11,.u (UF.eq (p.2))),(10,.u (fPV m (at_ ps p.1))),(8,.u (uB (ltz p.1 ((pvs m ps).length)))),(5,.u (UF.eq l)),(6,.u (uI ((pvs m ps).length:Int)))] (fU (.head _)<|fU mz1<|fU mz2<|fU mz3<|fU mz4<|fU mz5<|fU mz6<|fU mz7<|fU mz8 fnz)) rfl
  exact⟨(p.1+1,v'),(by show ps.length-(p.1+1)<ps.length-p.1;omega),⟨O,xR h4.1 J.size,by rw[zLp O];exact h4.2.below J⟩,s.keepK _ (fU mz7<|fU mz8<|fU mz2<|fU (.head _) fnz)⟩
 .have O:p.1=ps.length:=by have h7:=nF e;have h8:=hI.1;simp at h7;omega
  refine tU<|lP<|zV 1 ((22,.u (UF.eq (p.2)))::[]) s kA
   (oc zA<|zB) fun a w7 s=>?_
  replace s:=s.drop [2]
  exact yQ (UF.eq (p.2)) rfl s kA iiz fun a w s=>zD rfl<|pS<|StS.resN s s0.below rfl (by rw[s.val (.head _)];have:=(hI.2.2.below s.below).mono U;rw[O,rT]at this;exact this)
section
variable {F:Fence}{m:Nat}{P:WH}{w0:WB}{ops:Array Oper}{G:Nat->SF}{d:Tmp}{ty:WF}{pos:String}{aft:Array Edge}
end
section
variable {f g f' g':UF}{m:Nat}{q:Rat}
end
section
variable {S:Nat->Prop}{w0:WB}{K:List (Nat×KF)}{B:List Bx}{n:Nat}{ds:List Deferred}{a:Act}{w:WB}
theorem StS.move(h:StS S w0 K B n [] a w)(S':Nat->Prop)(O:∀q,inB B q->S' q)(I:(K.all fun q=>zJP q.2)=true):StS S' w K B n [] a w:=by
 have I:=y6 I
 refine⟨BlS.refl _ _,h.size,h.nd,fun q J=>?_,wR (a:=a) B (fun x U=>?_) (fun _ _=>rfl) h.bx,⟨[],Marks.nil _ _⟩,.inl I⟩
 .obtain⟨f,e⟩:=I q J
  have:=h.sl q J
  rw[e]at this ⊢
  exact this
 .cases hr:x.r with
  |true=>exact .inl rfl
  |false=>exact .inr (.inr (O _ ⟨x,U,rfl,hr⟩))
end
section
variable {F:Fence}{m:Nat}{P:WH}{w0:WB}{ops:Array Oper}{G:Nat->SF}{d:Tmp}{ty:WF}{pos:String}{aft:Array Edge}
theorem zWb(I:qP P t=some z)(hk:k<=c)(hx:∀v W,(fct G x).p v W->v=.slice A n c)(hh:∀v W,(fct G hi).p v W->v=.int .i64 (k:Int))(hd:∀W,(G d).p (.slice A k c) W:=by exact fun _=>rfl):qO F m P w0 ops G ⟨some d,.slice t x none (some hi) none,ty,pos,aft,none⟩:=
 qG (fun _ e=>by cases e) (fun _ e=>by cases e) fun b W hb O=>by
  have e:=hx _ _ (O x (by simp[Op.operands]))
  have U:=hh _ _ (O hi (by simp[Op.operands]))
  unfold qP at I
  split at I<;>try cases I
  rename_i e' hu
  obtain⟨ie,J,_⟩:=lY.1 I
  exact⟨.slice A k c,by simp[execOp,e,U,zIR hu J A n c k hk],hd _⟩
end
section
variable {S:Nat->Prop}{F:Fence}{m:Nat}{P:WH}{Q:Exit->Act->WB->Prop}{w0:WB}{K:List (Nat×KF)}{B:List Bx}{n:Nat}{ds:List Deferred}{a:Act}{w:WB}
end
section
variable {S:Nat->Prop}{w0:WB}{K:List (Nat×KF)}{B:List Bx}{n:Nat}{a:Act}{w:WB}{P:WH}{Q:Exit->Act->WB->Prop}
end
theorem zGW{C O:Nat->Prop}{w w1:WB}(hb:bW w0 w)(I:RndO N C O w w1)(hN:w0.heap.size<=N)(U:∀k,C k->w0.heap.size<=k):bW w0 w1:=
 ⟨I.os.trans hb.os,I.tape.trans hb.tape,I.output.trans hb.output,xR hb.size I.size,fun k J=>(I.low k (vV J hN) (fun h=>by have:=U k h;omega)).trans (hb.block k J)⟩
theorem zWs(f:WL->WE)(x:WL):(Array.map f #[x]).getD 0 undef=f x:=by simp[xV]
def zUR(a b p:V2):Bool:=(decide (qsg a.2 p.2<=0)&&decide (qsg p.2 b.2<0))&&(yP a b p==1)
def zEG(a b p:V2):Bool:=if qsg a.2 b.2>0 then zUR b a p else zUR a b p
theorem zRL{b p:V2}(h:decide (qsg a.2 b.2>0)=true):zEG a b p=zUR b a p:=if_pos (xX h)
theorem zRM{b p:V2}(h:decide (qsg a.2 b.2>0)=false):zEG a b p=zUR a b p:=if_neg (nF h)
def zDI(f:Nat->Bool):Nat->Nat
 |0=>0
 |k+1=>zDI f k+(if f k=true then 1 else 0)
theorem zKy(f:Nat->Bool):∀k,zDI f k<=k
 |0=>vQ _
 |k+1=>by
  have:=zKy f k
  show zDI f k+_<=_
  split<;>omega
theorem zPv(h:f k=true):zDI f (k+1)=zDI f k+1:=by show _+(if f k=true then 1 else 0)=_;rw[if_pos h]
theorem zPw(h:f k=false):zDI f (k+1)=zDI f k:=by show _+(if f k=true then 1 else 0)=_;rw[if_neg (by simp[h])];rfl
def crK(ps:List V2)(p:V2)(k:Nat):Bool:=zEG (at_ ps k) (at_ ps ((k+1)%ps.length)) p
section
variable {f g f' g' f'' g'':UF}
end
section
variable {F:Fence}{m:Nat}{P:WH}{w0:WB}{ops:Array Oper}{G:Nat->SF}{d:Tmp}{ty:WF}{pos:String}{aft:Array Edge}
end
end Go.Proofs.Wd
