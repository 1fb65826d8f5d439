/- Walks of package roads: has, settled; Walks of package roads: costs; W and what it needs. -/
import Derived.Test.YtencnknhnckpaaaGreatDoorMRM20
import Derived.Test.YtencnknhnckpaaaGreatDoorMRM13
theorem kI {P:Prop} (h:P:=by kernel_rfl):P:=h
theorem oP {P:Prop} (h:P:=by omega):P:=h
theorem dB {P:Prop} (h:P:=by decide):P:=h
abbrev zUb:=@Go.wpIn_seq
abbrev zUc:=@Array.getElem?_eq_some_iff
abbrev zUd:=@Go.wpIn_block
abbrev zUe:=@List.length_map
abbrev zUf:=@congrArg
abbrev zUg:=@Go.wpIn_skip
abbrev zUh:=@Go.wpIn_ret
abbrev zUi:=@of_decide_eq_false
abbrev zUj:=@of_decide_eq_true
abbrev zUk:=@Option.some.inj
abbrev zUl:=@Nat.zero_le
abbrev zUm:=@Go.wpIn_exit
abbrev zUn:=@Go.RowKit.Below.refl
abbrev zUo:=@List.getElem?_eq_getElem
abbrev zUp:=@Bool.or_eq_false_iff
abbrev zUq:=@List.mem_singleton
abbrev zUr:=@List.length_singleton
abbrev zUs:=@Nat.le_refl
abbrev zUt:=@Bool.and_eq_true
abbrev zUu:=@List.getD_eq_getElem?_getD
abbrev zUv:=@List.length_append
abbrev zUw:=@beq_eq_false_iff_ne
abbrev zUx:=@Nat.lt_or_ge
abbrev zUy:=@Nat.not_lt_zero
abbrev zUz:=@Go.World.alloc_heap_new
abbrev zUA:=@List.all_eq_true
abbrev zUB:=@beq_iff_eq
abbrev zUC:=@Go.Sem.run_bind
abbrev zUD:=@decide_eq_true_eq
abbrev zUE:=@Rat.add_zero
abbrev zUF:=@List.getElem?_map
abbrev zUG:=@Nat.le_trans
abbrev zUH:=@Array.getD_eq_getD_getElem?
abbrev zUI:=@Go.Sem.run_pure
abbrev zUJ:=@List.getElem_mem
abbrev zUK:=@List.map_append
abbrev zUL:=@List.take_of_length_le
abbrev zUM:=@Rat.intCast_natCast
abbrev zUN:=@List.ext_getElem
abbrev zUO:=@Int.toNat_natCast
abbrev zUP:=@Bool.eq_iff_iff
abbrev zUQ:=@Bool.or_eq_true
abbrev zUR:=@Go.Result.andThen_ok
abbrev zUS:=@List.take_succ_eq_append_getElem
abbrev zUT:=@List.replicate_succ'
abbrev zUU:=@List.mem_cons
abbrev zUV:=@Array.toArray_toList
abbrev zUW:=@Bool.not_eq_false'
abbrev zUX:=@List.getElem?_eq_none
abbrev zUY:=@List.drop_zero
abbrev zUZ:=@Rat.intCast_mul
abbrev zU0:=@Int.natAbs_mul
abbrev zU1:=@Int.natAbs_natCast
abbrev zU2:=@List.eq_nil_of_length_eq_zero
abbrev zU3:=@List.getElem?_eq_some_iff
abbrev zU4:=@Bool.true_and
abbrev zU5:=@Bool.false_and
abbrev zU6:=@Bool.and_eq_false_iff
abbrev zU7:=@decide_eq_false_iff_not
abbrev zU8:=@Bool.false_eq_true
abbrev zU9:=@Bool.false_or
abbrev zVa:=@Array.getElem?_setIfInBounds_self_of_lt
abbrev zVb:=@List.getElem?_append_left
abbrev Wm:=Go.World
abbrev Wn:=Go.Value
abbrev Wp:=Go.TypeId
abbrev Wq:=Option
abbrev Wr:=Go.Operand
abbrev Ws:=Go.Program
namespace Go.Proofs.Wd
open Tryz
set_option maxRecDepth 100000
set_option maxHeartbeats 1000000
open Go.RowKit Lb
theorem zLv {W:Wm} {gg N cap:Nat} {x:Int} {u v:Wn} (hu:u=(.slice (some ⟨gg,0,none⟩) N cap)) (hv:v= .int .i64 x):Calls prog 31 #[u,v] W (Ret W (fB (yS N x)).tS):=by
 refine qH [(UF.eq (.slice (some ⟨gg,0,none⟩) N cap)).tS,(uI x).tS] func31 rfl kI ⟨hu,hv,trivial⟩ fun a s=> ?_
 refine zUb ?_
 refine zC 1 ((4, .u (uB false)):: []) hmix s kI
  (oc zG<|zE) fun a w1 s=> ?_
 refine zB rfl ?_
 refine zUb ?_
 replace s:=s.drop [4]
 refine zC 9 ((5, .Z (uI x))::(6, .Z (uB (decide (x≥0))))::(7, .Z (uB (decide (x≥0))))::(8, .s (SF.imp ((decide (x≥0))=true) ((uI x).tS)))::(9, .s (SF.imp ((decide (x≥0))=true) ((UF.eq (.slice (some ⟨gg,0,none⟩) N cap)).tS)))::(10, .s (SF.imp ((decide (x≥0))=true) ((uI (N:Int)).tS)))::(11, .s (SF.imp ((decide (x≥0))=true) ((uB (decide (x<(N:Int)))).tS)))::(12, .Z (uB ((decide (x≥0))&&(decide (x<(N:Int))))))::(4, .u (uB ((decide (x≥0))&&(decide (x<(N:Int)))))):: []) hmix s kI
  (oc zA<|oc (zP .i64 x 0 (decide (x≥0)) iiz iiz rfl rfl)<|oc zA<|oc (zD 7 (decide (x≥0)) kI iiz (fun e=>zL [] ((uI x).tS) fnz (fun _ _ h _=>h) kI zA) (fun e W h=>absurd h e))<|oc (zD 7 (decide (x≥0)) kI iiz (fun e=>zL [] ((UF.eq (.slice (some ⟨gg,0,none⟩) N cap)).tS) fnz (fun _ _ h _=>h) kI zA) (fun e W h=>absurd h e))<|oc (zD 7 (decide (x≥0)) kI iiz (fun e=>zL [(9,(UF.eq (.slice (some ⟨gg,0,none⟩) N cap)).tS)] ((uI (N:Int)).tS) (fmz ⟨fun v W h=>zI (c:=(decide (x≥0))=true) (f:=(UF.eq (.slice (some ⟨gg,0,none⟩) N cap)).tS) e h,fnz⟩) (fun _ _ h _=>h) kI (jV kI (fun v W h=>⟨_,_,_,h,rfl⟩))) (fun e W h=>absurd h e))<|oc (zD 7 (decide (x≥0)) kI iiz (fun e=>zL [(8,(uI x).tS),(10,(uI (N:Int)).tS)] ((uB (decide (x<(N:Int)))).tS) (fmz ⟨fun v W h=>zI (c:=(decide (x≥0))=true) (f:=(uI x).tS) e h,fmz ⟨fun v W h=>zI (c:=(decide (x≥0))=true) (f:=(uI (N:Int)).tS) e h,fnz⟩⟩) (fun _ _ h _=>h) kI (zP .i64 x (N:Int) (decide (x<(N:Int))) iiz iiz rfl rfl)) (fun e W h=>absurd h e))<|oc (yE (decide (x≥0)) iiz (fun e v W h=>zCs (zI e h) e) (fun e v W h=>zBK h e))<|oc zG<|zE) fun a w2 s=> ?_
 refine zB rfl ?_
 refine zUh ?_
 exact wF s (t:=4) rfl (fun v W h=>h)
def zR2 (W:Wm) (gv iv:Wn):SF:=⟨fun v w=> ∃b1 b2:Nat,v= .func (.func 65) #[] #[pO b1 0,pO b2 0]/\W.heap.size<=b1/\W.heap.size<=b2/\w.heap[b1]?=some (.cells #[gv] 61 (0,0))/\w.heap[b2]?=some (.cells #[iv] 3 (0,0)),fun _ _ _ ⟨b1,b2,h1,h2,h3,h4,h5⟩ hb=>⟨b1,b2,h1,h2,h3,(hb.block b1 (zUc.1 h4).1).trans h4,(hb.block b2 (zUc.1 h5).1).trans h5⟩⟩
theorem zNA {W W':Wm} {gv iv:Wn} (h:W.heap.size<=W'.heap.size) (v:Wn) (w:Wm) (hv:(zR2 W' gv iv).p v w):(zR2 W gv iv).p v w:=by
 obtain ⟨b1,b2,h1,h2,h3,h4⟩:=hv
 exact ⟨b1,b2,h1,zUG h h2,zUG h h3,h4⟩
theorem zKe {W:Wm} {gg N cap:Nat} {x:Int} {u v:Wn} (hu:u= .slice (some ⟨gg,0,none⟩) N cap) (hv:v= .int .i64 x):Calls prog 50 #[u,v] W (Ret W (zR2 W (.slice (some ⟨gg,0,none⟩) N cap) (.int .i64 x))):=by
 refine qH [(UF.eq (.slice (some ⟨gg,0,none⟩) N cap)).tS,(uI x).tS] func50 rfl kI ⟨hu,hv,trivial⟩ fun a s=> ?_
 refine zUb ?_
 refine zC 0 [] hmix s kI
  zE fun a w1 s=> ?_
 refine zA8 (wB [.slice (some ⟨gg,0,none⟩) N cap]) rfl s kI (fun v W h=>by rw [show v=_ from h];exact ⟨rfl,rfl⟩) fun b1 a w s=> ?_
 refine zA8 (wB [.int .i64 x]) rfl s kI (fun v W h=>by rw [show v=_ from h];exact ⟨rfl,rfl⟩) fun b2 a w s=> ?_
 refine qN (UF.eq (.nilFunc)) rfl s kI iiz fun a w s=> ?_
 refine zB rfl ?_
 refine zUb ?_
 replace s:=s.drop [4]
 refine zC 2 ((5, .Z (UF.eq (.func (.func 65) #[] #[pO b1 0,pO b2 0])))::(4, .u (UF.eq (.func (.func 65) #[] #[pO b1 0,pO b2 0]))):: []) hmix s kI
  (oc (zNe (fun u v W hb (h:(wH b1 (wB [Value.slice (some ⟨gg,0,none⟩) N cap]).cf).p u W) (h':(wH b2 (wB [Value.int .i64 x]).cf).p v W)=>by rw [h.1,h'.1];rfl))<|oc zG<|zE) fun a w2 s=> ?_
 refine zB rfl ?_
 refine zUh ?_
 obtain ⟨cs1,e1,e2,_⟩:=s.boxAt (c:=2) rfl
 obtain rfl:cs1= [_]:=e2
 obtain ⟨cs2,g1,g2,_⟩:=s.boxAt (c:=3) rfl
 obtain rfl:cs2= [_]:=g2
 exact StS.resN s (zUn _ _) rfl ⟨b1,b2,s.val (.head _),s.inB_new (q:=b1) ⟨_,mz1,rfl,rfl⟩,s.inB_new (q:=b2) ⟨_, .head _,rfl,rfl⟩,e1,g1⟩
abbrev qns (l:List Rat):List CU:=l.map fun q=>CU.agg (fQN q)
theorem zBE {l:List Rat} {i:Nat} (h:i<l.length):(qns l)[i]?=some (CU.agg (fQN (l.getD i 0))):=by simp [qns,h]
theorem zPL (l:List Rat) (i:Nat) (q:Rat):(qns l).set i (CU.agg (fQN q))=qns (l.set i q):=by unfold qns;rw [List.map_set]
theorem zKP {q:Rat} {v:Wn} {W:Wm} (h:(fQN q).p v W):v.cells.size=3/\(∀u,u∈v.cells.toList->u.oneCell'=true)/\v.cells.toList.all yA=true/\(CU.agg (fQN q)).p v.cells.toList W:=by
 obtain ⟨A,n,c,A',n',c',rfl⟩:=zBF h
 exact ⟨rfl,zCU,rfl,h⟩
theorem zQ8 (q:Rat):CU.ok 3 (CU.agg (fQN q)):=fun cs W h=>by
 obtain ⟨A,n,c,A',n',c',e⟩:=zBF (q:=q) (v:= .agg cs.toArray) (W:=W) h
 rw [zAq e]
 exact ⟨rfl,rfl,zCU⟩
theorem zSg (s:Bool) (A A':Wq Addr) (n n' c c':Nat):zS prog 23 1 [(0, .agg #[.bool s, .slice A n c, .slice A' n' c'])]=some (32,#[.bool s, .slice A n c, .slice A' n' c']):=by kernel_rfl
theorem zQP {q:Rat} {u:Wn} {W:Wm} (hu:QNp q u W): ∃cs,zS prog 23 1 [(0,u)]=some (32,cs)/\jG (W.alloc (.cells cs 32)) W.heap.size 32 3 1 [CU.agg (fQN q)]:=by
 obtain ⟨A,n,c,A',n',c',rfl⟩:=zBF hu
 refine ⟨_,zSg _ _ _ _ _ _ _,_,zUz W _,zUs _,by decide,rfl,rfl,fun i C hi=> ?_⟩
 cases i with
 |zero=>
  obtain rfl:CU.agg (fQN q)=C:=by simpa using hi
  exact (fQN q).us _ _ _ hu (zK (jQ W _))
 |succ i=>simp at hi
theorem zQV (z:Int):zS prog 24 1 [(0, .int .i64 z)]=some (3,#[.int .i64 z]):=by kernel_rfl
theorem zKc (z:Int) (W:Wm):jG (W.alloc (.cells #[.int .i64 z] 3)) W.heap.size 3 1 1 [wB [.int .i64 z]]:=
 zBR (zUz W _) rfl
section
variable {S:Nat->Prop} {F:Fence} {m:Nat} {P:Ws} {ops:Array Oper} {Q:Exit->Act->Wm->Prop} {w0:Wm} {K:List (Nat×KF)} {B:List Bx} {n:Nat} {ds:List Deferred} {a:Act} {w:Wm}
theorem opn {i:Nat} {o:Oper} {Kk:Act->Wm->Prop} (ho:ops[i]?=some o) (hg:o.guard=none) (h:o.wpIn F m P a w Kk Q):wpOpIn F m P ops Q i Kk a w:=by
 unfold wpOpIn
 rw [ho]
 show (if Region.wanted o (yielded ops a.tmps)=true then _ else _)
 rw [if_pos (zHs hg)]
 exact h
theorem wV (hs:a.tmps.size=n) (hd:a.defers= []) (hK: ∀q,q∈K-> ∃f,q.2=KF.u f/\f.p (a.tmps.getD q.1 undef) w):St w K [] n [] a w:=
 ⟨BlS.refl _ _,hs,hd,fun q hq=>by obtain ⟨f,e,h⟩:=hK q hq;rw [e];exact h,trivial,⟨[],Marks.nil _ _⟩, .inr fun _ h=>h⟩
theorem StS.home (h:St w K B n [] a w) (hu:(K.all fun q=>zJM q.2)=true) (hBr:(B.all fun x=>x.r)=true) (hb:Below w0.heap.size w0 w):St w0 K B n [] a w:=
 ⟨⟨hb.os,hb.tape,hb.output,hb.size,fun k hk _=>hb.block k hk⟩,h.size,h.nd,fun q hq=>by
  obtain ⟨f,e⟩:=zBN hu q hq
  have h1:=h.sl q hq
  rw [e] at h1 ⊢
  exact h1,wW B (fun x hx=>by simpa using zUA.1 hBr x hx) h.bx,⟨[],Marks.nil _ _⟩, .inr fun _ h=>h⟩
theorem yN {T:Nat->Prop} {w':Wm} (h:Below w0.heap.size w0 w) (k:BlS T w w') (hT: ∀q,T q->w0.heap.size<=q):Below w0.heap.size w0 w':=⟨k.os.trans h.os,k.tape.trans h.tape,k.output.trans h.output,zUG h.size k.size,fun q hq=>(k.block q (Nat.lt_of_lt_of_le hq h.size) fun ht=>by have:=hT q ht;omega).trans (h.block q hq)⟩
theorem zU {o:Oper} {l:Array Bool} {j:Nat} (hall: ∀e∈o.after,Region.binds .any e=true->l.getD e.on false=true) (h:(o.after.any fun e=>Region.binds .any e&&e.on==j)=true):l.getD j false=true:=by
 obtain ⟨x,hx,he⟩:=Array.any_eq_true.1 h
 simp only [zUt,zUB] at he
 rw [<-he.2]
 exact hall _ (Array.getElem_mem hx) he.1
theorem zKf {l:Array Bool} {i j:Nat} (hi:i<l.size) (h:(l.setIfInBounds i true).getD j false=false):i≠j/\l.getD j false=false:=by
 by_cases e:i=j
 ·subst e
  rw [zUH,zVa hi] at h
  cases h
 ·rw [getD_set_ne false e] at h
  exact ⟨e,h⟩
theorem zDV {l:Array Bool} {i:Nat} (hi:i<l.size):(l.setIfInBounds i true).getD i false=true:=by
 rw [zUH,zVa hi]
 rfl
end
structure TwoA (w:World) (base:Nat) (vc vs:Value) (Cs Ss:List CU) (l:Array Bool) (U:World):Prop where
 fr:BlS (fun q=>vc.ownBlock=some q∨vs.ownBlock=some q) w U
 kp:yL w U
 c3:l.getD 3 false=false->y9 U base 32 3 vc Cs
 c6:l.getD 6 false=false->y9 U base 3 1 vs Ss
def zRQ (vc vs:Wn) (i q:Nat):Prop:=(i=3/\vc.ownBlock=some q)∨(i=6/\vs.ownBlock=some q)
def zR5 (w:Wm) (base:Nat) (vc vs:Wn) (Cs Ss:List CU):Nat->Wn->Wm->Prop
 |0,v,_=>v=vc
 |1,v,U=>QNp 0 v U
 |2,v,U=> ∃g,v= .slice (some ⟨g,0,none⟩) 1 1/\w.heap.size<=g/\jG U g 32 3 1 [CU.agg (fQN 0)]
 |3,v,U=>y9 U base 32 3 v (Cs++ [CU.agg (fQN 0)])/\(v.ownBlock=vc.ownBlock∨ ∃q,v.ownBlock=some q/\w.heap.size<=q)
 |4,v,_=>v=vs
 |5,v,U=> ∃g,v= .slice (some ⟨g,0,none⟩) 1 1/\w.heap.size<=g/\jG U g 3 1 1 [wB [.int .i64 (-1)]]
 |6,v,U=>y9 U base 3 1 v (Ss++ [wB [.int .i64 (-1)]])/\(v.ownBlock=vs.ownBlock∨ ∃q,v.ownBlock=some q/\w.heap.size<=q)
 |_,_,_=>True
theorem zFh {w:Wm} {base base' z z':Nat} {e e':Wp} {v v':Wn} {Cs Cs':List CU} (h:y9 w base e z v Cs) (h':y9 w base' e' z' v' Cs') (hne:e≠e') {q:Nat} (hq:v.ownBlock=some q) (hq':v'.ownBlock=some q):False:=by
 obtain ⟨_,c,h1,_⟩:=qO h hq
 obtain ⟨_,c',h2,_⟩:=qO h' hq'
 exact z9 h1 h2 hne rfl
theorem zR5.keep {w:Wm} {base:Nat} {vc vs:Wn} {Cs Ss:List CU} (hc:y9 w base 32 3 vc Cs) (hs:y9 w base 3 1 vs Ss) {i j:Nat} {v:Wn} {U V:Wm} (hj:j<7) (hij:i≠j) (h:zR5 w base vc vs Cs Ss j v U) (hb:BlS (zRQ vc vs i) U V) (hk:yL U V):zR5 w base vc vs Cs Ss j v V:=by
 have hnew: ∀g,w.heap.size<=g-> ¬zRQ vc vs i g:=fun g hg ht=>by
  rcases ht with ⟨_,ht⟩|⟨_,ht⟩
  ·have:=(hc.lt g ht).2;omega
  ·have:=(hs.lt g ht).2;omega
 match j,hj,h with
 |0,_,h=>exact h
 |1,_,h=>exact (fQN 0).us _ _ _ h hk
 |2,_,⟨g,e,hg,hR⟩=>exact ⟨g,e,hg,hR.keep (hb.block g hR.lt (hnew g hg)) hk⟩
 | 3,_,⟨hR,ho⟩=>
  refine ⟨hR.keep (fun q hq=>hb.block q (hR.lt q hq).2 fun ht=> ?_) hk,ho⟩
  rcases ho with ho|⟨q',e',hq'⟩
  ·rcases ht with ⟨e,_⟩|⟨_,ht⟩
   ·exact hij e
   ·exact zFh hc hs dB (ho.symm.trans hq) ht
  ·obtain rfl:q'=q:=by rw [e'] at hq;exact zUk hq
   exact hnew _ hq' ht
 |4,_,h=>exact h
 |5,_,⟨g,e,hg,hR⟩=>exact ⟨g,e,hg,hR.keep (hb.block g hR.lt (hnew g hg)) hk⟩
 | 6,_,⟨hR,ho⟩=>
  refine ⟨hR.keep (fun q hq=>hb.block q (hR.lt q hq).2 fun ht=> ?_) hk,ho⟩
  rcases ho with ho|⟨q',e',hq'⟩
  ·rcases ht with ⟨_,ht⟩|⟨e,_⟩
   ·exact zFh hc hs dB ht (ho.symm.trans hq)
   ·exact hij e
  ·obtain rfl:q'=q:=by rw [e'] at hq;exact zUk hq
   exact hnew _ hq' ht
theorem TwoA.next {w:Wm} {base:Nat} {vc vs:Wn} {Cs Ss:List CU} (hc:y9 w base 32 3 vc Cs) (hs:y9 w base 3 1 vs Ss) {i:Nat} {l:Array Bool} {U V:Wm} (hi:i<l.size) (h:TwoA w base vc vs Cs Ss l U) (hb:BlS (zRQ vc vs i) U V) (hk:yL U V):TwoA w base vc vs Cs Ss (l.setIfInBounds i true) V:=by
 refine ⟨h.fr.comp (hb.sub fun q hq=>hq.imp (·.2) (·.2)),h.kp.trans hk,fun e=> ?_,fun e=> ?_⟩
 ·obtain ⟨e1,e2⟩:=zKf hi e
  have hR:=h.c3 e2
  refine hR.keep (fun q hq=>hb.block q (hR.lt q hq).2 fun ht=> ?_) hk
  rcases ht with ⟨e,_⟩|⟨_,ht⟩
  ·exact e1 e
  ·exact zFh hc hs dB hq ht
 ·obtain ⟨e1,e2⟩:=zKf hi e
  have hR:=h.c6 e2
  refine hR.keep (fun q hq=>hb.block q (hR.lt q hq).2 fun ht=> ?_) hk
  rcases ht with ⟨_,ht⟩|⟨e,_⟩
  ·exact zFh hc hs dB ht hq
  ·exact e1 e
theorem zCZ {P:Ws} {a:Act} {d:Tmp} {x y:Wr} {t ty e:Wp} {pos:String} {aft:Array Edge} {z base:Nat} {v:Wn} {Cs Ds:List CU} {U:Wm} (happ:zE7 P t=some (e,z,true)) (hr:y9 U base e z v Cs) (hx:a.eval x=v) (hy:(SF.row z Ds).p (a.eval y) U) (hD: ∀C,C∈Ds->CU.ok z C) (hsz:Cs.length+Ds.length<=140000000000) (hbase:base<=U.heap.size) {F:Fence} {m:Nat} {Kk:Act->Wm->Prop} {Q:Exit->Act->Wm->Prop}
  (hK: ∀v' V,y9 V base e z v' (Cs++Ds)->BlS (fun q=>v.ownBlock=some q) U V->yL U V->(v'.ownBlock=v.ownBlock∨v'.ownBlock=some U.heap.size)->Kk (a.put (some d) v') V):(⟨some d, .call ⟨.builtin .append,#[x,y],#[t,t]⟩,ty,pos,aft,none⟩:Oper).wpIn F m P a U Kk Q:=by
 obtain ⟨v',w',hrun,g1,g2,g3⟩:=zKp (P:=P) (ty:=ty) happ hr hy hD hsz hbase
 have hrun2:(execOp a.eval ⟨some d, .call ⟨.builtin .append,#[x,y],#[t,t]⟩,ty,pos,aft,none⟩).run P U= .ok (.value v') w':=by
  simp only [execOp,resolve,invoke,builtin,zUC,zUI,zUR,List.map_toArray,List.map_cons,List.map_nil,hx,hrun]
 refine ⟨fun f hf=>(by
  unfold Oper.about at hf
  simp [resolve,go_sem] at hf), ?_⟩
 rw [Oper.semAt_eq _ _ _ (fun _ e=>by cases e),hrun2]
 exact hK v' w' g1 ⟨g2.os,g2.tape,g2.output,g2.size,fun q hq hn=>g2.block q hq fun e=>hn e.symm⟩ (hr.keepU g2) g3
theorem yH {ops:Array Oper} {k t:Nat} (h:((List.range k).all fun i=> !(zX ops i==some t))=true): ∀j,j<k->zX ops j≠some t:=fun j hj e=>by
 have:=zUA.1 h j (List.mem_range.2 hj)
 rw [e] at this
 simp at this
theorem zIp {P:Ws} {a:Act} {d:Wq Tmp} {t ty e:Wp} {pos:String} {aft:Array Edge} {gd:Wq (Nat×Bool)} {x:Wr} {cs:Array Wn} {U:Wm} (h:zS P t 1 [(0,a.eval x)]=some (e,cs)):(execOp a.eval ⟨d, .buildSlice t 1 #[(0,x)],ty,pos,aft,gd⟩).run P U= .ok (.value (.slice (some ⟨U.heap.size,0,none⟩) 1 1)) (U.alloc (.cells cs e)):=by
 have h1:=zDE (parts:=#[(0,a.eval x)]) h U
 simp only [execOp,List.map_toArray,List.map_cons,List.map_nil,zUC,zUI]
 rw [h1]
 rfl
theorem zA6 {P:Ws} {a:Act} {d:Wq Tmp} {t ty:Wp} {pos:String} {aft:Array Edge} {gd:Wq (Nat×Bool)} {x:Wr} {b o:Nat} {cs:List Wn} {te:Wp} {v:Wn} {U:Wm} (ht:zBX P t=true) (hx:a.eval x= pO b o) (hb:U.heap[b]?=some (.cells cs.toArray te (0,0))) (hv:cs[o]?=some v):(execOp a.eval ⟨d, .load t x,ty,pos,aft,gd⟩).run P U= .ok (.value v) U:=by
 have hm:=(jW hb).drop o
 rw [Nat.zero_add] at hm
 simp [execOp,Instr.loadAt,hx,Instr.sureAddr,qT ht hm (u:=v) (by rw [List.getElem?_drop];simpa using hv)]
theorem zFC {P:Ws} {a:Act} {d:Wq Tmp} {t ty:Wp} {pos:String} {aft:Array Edge} {gd:Wq (Nat×Bool)} {x:Wr} {b o k:Nat} {cs:List Wn} {te:Wp} {U:Wm} (ht:zAx P t=some k) (hx:a.eval x= pO b o) (hb:U.heap[b]?=some (.cells cs.toArray te (0,0))) (hk:o+k<=cs.length):(execOp a.eval ⟨d, .load t x,ty,pos,aft,gd⟩).run P U= .ok (.value (.agg ((cs.drop o).take k).toArray)) U:=by
 have hm:=(jW hb).drop o
 rw [Nat.zero_add] at hm
 simp only [execOp,Instr.loadAt,hx,Instr.sureAddr,zUC,zUI,zUR,zBm ht hm (show k<=(cs.drop o).length by rw [List.length_drop];omega)]
theorem zBD {P:Ws} {a:Act} {d:Wq Tmp} {s ty:Wp} {f:Nat} {pos:String} {aft:Array Edge} {gd:Wq (Nat×Bool)} {x:Wr} {b o:Nat} {U:Wm} (k:Nat) (hk:zBz P s f=some k) (hx:a.eval x= pO b o):(execOp a.eval ⟨d, .fieldAddr s x f,ty,pos,aft,gd⟩).run P U= .ok (.value (.pointer (some ⟨b,o+k,none⟩))) U:=by
 unfold zBz at hk
 split at hk<;>try cases hk
 rename_i fs hu
 split at hk<;>try cases hk
 rename_i f' hf
 split at hk<;>try cases hk
 rename_i i hi
 split at hk<;>try cases hk
 rename_i hz
 simp [execOp,Instr.fieldAt,run_underlying hu,hf,hx,Instr.sureAddr,fieldPlace,sizeOf,typeInfo,hi,hz,Addr.add_lit]
theorem zEq {P:Ws} {a:Act} {d:Wq Tmp} {t ty:Wp} {pos:String} {aft:Array Edge} {gd:Wq (Nat×Bool)} {x y:Wr} {g nn cap i z:Nat} {U:Wm} (hz:zA2 P t=some z) (hi:i<nn) (hx:a.eval x= .slice (some ⟨g,0,none⟩) nn cap) (hy:a.eval y= .int .i64 (i:Int)):(execOp a.eval ⟨d, .indexAddr t x y,ty,pos,aft,gd⟩).run P U= .ok (.value (.pointer (some ⟨g,i*z,none⟩))) U:=by
 unfold zA2 at hz
 split at hz<;>try cases hz
 rename_i e' hu
 cases hin:P.info? e' with
 |none=>rw [hin] at hz;cases hz
 |some ie=>
  rw [hin] at hz
  simp only [Option.map_some,Option.some.injEq] at hz
  have hel:P.elem t=e':=by simp [Program.elem,hu]
  have hb1:(0:Int)<=(i:Int)/\(i:Int)<(nn:Nat):=by omega
  simp only [execOp,hx,hy]
  rw [zUC,run_indexAt_slice _ _ _ _ _ _ _ (by rw [hel];exact hu),if_pos hb1,hel]
  simp [sizeOf,typeInfo,hin,hz,Addr.add_lit]
section
variable {S:Nat->Prop} {F:Fence} {m:Nat} {P:Ws} {ops:Array Oper} {Q:Exit->Act->Wm->Prop} {w0:Wm} {K:List (Nat×KF)} {B:List Bx} {n:Nat} {ds:List Deferred} {a:Act} {w:Wm}
theorem yC {i:Nat} {d:Tmp} {op:Op} {ty:Wp} {pos:String} {aft:Array Edge} {Kk:Act->Wm->Prop} {v:Wn} {w':Wm} (ho:ops[i]?=some ⟨some d,op,ty,pos,aft,none⟩) (hd: ∀c,op≠ .defer c) (hc: ∀c,op≠ .call c) (hrun:(execOp a.eval ⟨some d,op,ty,pos,aft,none⟩).run P w= .ok (.value v) w') (hK:Kk (a.put (some d) v) w'):wpOpIn F m P ops Q i Kk a w:=opn ho rfl (zBy hd hc hrun hK)
theorem zFS {i g j cap z:Nat} {e:Wp} {Cs:List CU} {t:Wp} {x y:Wr} {ty:Wp} {pos:String} {aft:Array Edge} {Kk:Act->Wm->Prop} (C:CU) (ho:ops[i]?=some ⟨none, .store t x y,ty,pos,aft,none⟩) (hr:jG w g e z cap Cs) (hj:j<Cs.length) (hsz:zFr P t=some z) (hx:a.eval x= .pointer (some ⟨g,j*z,none⟩)) (hy:(a.eval y).cells.size=z/\(∀u,u∈(a.eval y).cells.toList->u.oneCell'=true)/\(a.eval y).cells.toList.all yA=true/\C.p (a.eval y).cells.toList w)
  (hK: ∀w',BlS (fun q=>q=g) w w'->yL w w'->jG w' g e z cap (Cs.set j C)->Kk (a.put none undef) w'):wpOpIn F m P ops Q i Kk a w:=by
 obtain ⟨w',hrun,g1,g2,g3⟩:=hr.put (P:=P) hj hsz hy
 have hrun2:(execOp a.eval ⟨none, .store t x y,ty,pos,aft,none⟩).run P w= .ok .skip w':=by simp [execOp,Instr.storeAt,Instr.sureAddr,hx,hrun]
 refine opn ho rfl ⟨fun f hf=>(by cases hf), ?_⟩
 rw [Oper.semAt_eq _ _ _ (fun _ e=>by cases e),hrun2]
 exact hK w' g1 g2 g3
theorem StS.act {a':Act} (h:StS S w0 K [] n ds a w) (hs:a'.tmps.size=n) (hd:a'.defers=ds) (hK: ∀q,q∈K->a'.tmps.getD q.1 undef=a.tmps.getD q.1 undef):StS S w0 K [] n ds a' w:=
 ⟨h.gr,hs,hd,fun q hq=>by rw [hK q hq];exact h.sl q hq,trivial,h.mks,h.so⟩
end
theorem zTy {F:Fence} {m:Nat} {P:Ws} {Q:Exit->Act->Wm->Prop} {a:Act} {w:Wm} {x:Code} {R:Act->Wm->Prop} (M:Act->Wm->Prop) (h1:x.wpIn F m P (Exit.then M Q) a w) (h2: ∀a w,M a w->R a w):x.wpIn F m P (Exit.then R Q) a w:=
 Code.wpIn_mono (fun e a w h=>by cases e<;>first|exact h2 a w h|exact h) h1
theorem StS.resM2 {w0:Wm} {K:List (Nat×KF)} {n:Nat} {ds:List Deferred} {a:Act} {w:Wm} {P:Ws} (h:St w0 K [] n ds a w) {fn:Func} {f:SF} {t s b b':Nat} {e e' te te':Wp} {v v':Wn} (hr:fn.results=#[.cell t e, .cell s e']) (hz:zBX P e=true) (hz':zBX P e'=true) (ht:a.tmps.getD t undef= pO b 0) (hs:a.tmps.getD s undef= pO b' 0) (hb:w.heap[b]?=some (.cells #[v] te (0,0))) (hb':w.heap[b']?=some (.cells #[v'] te' (0,0)))
  (hv: ∀w',Oth w0.heap.size w w'->f.p (.tuple #[v,v']) w'):bodyPostM Fence.wide 0 P fn (Ret w0 f) .ret a w:=by
 rw [zUH] at ht hs
 refine h.resM (v:= .tuple #[v,v']) (fun w' ho=> ?_) hv
 have h1:=qT hz (jW (cs:= [v]) (zEC ho hb)) (u:=v) rfl
 have h2:=qT hz' (jW (cs:= [v']) (zEC ho hb')) (u:=v') rfl
 simp [results,hr,asAddr,ht,hs,h1,h2]
theorem zIs {w w':Wm} {N base z:Nat} {e:Wp} {v:Wn} {Cs:List CU} (h:y9 w base e z v Cs) (ho:Oth N w w'):y9 w' base e z v Cs:=
 h.keep (fun q hq=>by obtain ⟨_,c,h1,_⟩:=qO h hq;rw [h1];exact zEC ho h1) (zLp ho)
theorem zOQ {l:List Wt} {k:Nat} (h:k<l.length):l.getD k wz∈l:=by
 rw [zUu,zUo h]
 exact zUJ h
theorem zHc {β:Type} (f:β->Wt->β) (ws:List Wt) (r:β) {k:Nat} (hk:k<ws.length):(ws.take (k+1)).foldl f r=f ((ws.take k).foldl f r) (ws.getD k wz):=by
 have e:ws.getD k wz=ws[k]:=by simp [hk]
 rw [zUS hk,List.foldl_append,e]
 rfl
theorem zHX {ops:Array Oper} {n j g:Nat} (h:jP ops n=true) (hj:zX ops j=some g):g<n:=by
 obtain ⟨o,ho,hd⟩:=yZ hj
 exact y4 h ho hd
theorem zBx {w:Wm} {base z:Nat} {e:Wp} {v:Wn} {Cs:List CU} (h:y9 w base e z v Cs):v.cells=#[v]/\v.oneCell'=true/\yA v=true:=by
 rcases h with ⟨rfl,_⟩|⟨g,cap,cur,rfl,_⟩
 ·exact ⟨rfl,rfl,rfl⟩
 ·exact ⟨rfl,rfl,rfl⟩
end Go.Proofs.Wd

namespace Go.Proofs.Wd
open Tryz
set_option maxRecDepth 100000
set_option maxHeartbeats 1000000
open Go.RowKit Lb
def csR (E:Adj) (N:Nat) (x:Int):List Rat:=if yS N x then zEW (stl E N x.toNat) (List.replicate N 0) else List.replicate N 0
def ssR (E:Adj) (N:Nat) (x:Int):List Int:=if yS N x then zEn (stl E N x.toNat) (List.replicate N (-1)) else List.replicate N (-1)
theorem zPM (k:Nat):qns (List.replicate k 0)++ [CU.agg (fQN 0)]=qns (List.replicate (k+1) 0):=by
 unfold qns
 rw [zUT,zUK]
 rfl
theorem zQa (k:Nat):ins (List.replicate k (-1))++ [wB [.int .i64 (-1)]]=ins (List.replicate (k+1) (-1)):=by
 unfold ins
 rw [zUT,zUK]
 rfl
theorem zQq {W:Wm} {gg cap N:Nat} {vs:List Wn} {G:List (List (Nat×Rat))} {x:Int} {u v:Wn} (hG:GM W gg cap vs G) (hN:N=G.length) (hu:u=(.slice (some ⟨gg,0,none⟩) N cap)) (hv:v= .int .i64 x) (hNs:N<=1000) (hGk:Gok (qE G) N) (hrb: ∀n,n<N-> ∀r,r∈qE G n->QB r.2 1) (hcb: ∀a,a<N-> ∀n c s,Rch (qE G) a n c s->s<=N+1->QB c 1) (hpd:1+zJx (qE G) (List.replicate N false) N<=80000) (hT:Tab W):Calls prog 30 #[u,v] W (Ret W (wI (wE W 32 3 (qns (csR (qE G) N x))) (wE W 3 1 (ins (ssR (qE G) N x))))):=by
 have hmix:prog.follows .mixedOrders=true:=by kernel_rfl
 have hGW: ∀q,zE5 gg vs q->q<W.heap.size:=fun q hq=>hG.lt hq
 have hTW:=hT
 have hFr:Below W.heap.size W W:=zUn _ _
 refine zPi [(UF.eq (.slice (some ⟨gg,0,none⟩) N cap)).tS,(uI x).tS] func30 rfl kI ⟨hu,hv,trivial⟩ fun a s=> ?_
 replace s:=s.renew [(0, .u (UF.eq (.slice (some ⟨gg,0,none⟩) N cap))),(1, .u (uI x))] (fmz ⟨.inr ⟨_,rfl, .head _⟩,fmz ⟨.inr ⟨_,rfl,mz1⟩,fnz⟩⟩)
 refine zUb ?_
 refine zC 0 [] hmix s kI
  zE fun a w1 s=> ?_
 refine qJ (wB [.slice none 0 0]) (cs:= [.slice none 0 0]) kI rfl s kI (fun W=>rfl) rfl fun b4 a w s=> ?_
 refine qJ (wB [.slice none 0 0]) (cs:= [.slice none 0 0]) kI rfl s kI (fun W=>rfl) rfl fun b5 a w s=> ?_
 refine zB rfl ?_
 have hb4W:=s.inB_new (q:=b4) ⟨_,mz1,rfl,rfl⟩
 have hb5W:=s.inB_new (q:=b5) ⟨_, .head _,rfl,rfl⟩
 obtain ⟨c4,h4,e4,-⟩:=s.boxAt (c:=4) rfl
 obtain rfl:c4= [.slice none 0 0]:=e4
 obtain ⟨c5,h5,e5,-⟩:=s.boxAt (c:=5) rfl
 obtain rfl:c5= [.slice none 0 0]:=e5
 replace s:=(s.learn 4 _ (s.bx.mem _ mz1).choose_spec.1).learn 5 _ (s.bx.mem _ (.head _)).choose_spec.1
 replace s:=s.popB
 replace s:=s.popB
 have hb:=s.below
 replace hG:=hG.below hb
 replace hT:=hT.below hb
 replace hFr:=hFr.trans (hb.mono hFr.size)
 replace s:=s.anewB rfl rfl
 have hc:y9 w W.heap.size 32 3 (.slice none 0 0) (qns (List.replicate 0 0)):=y9.nil _ _ _ _
 have hs:y9 w W.heap.size 3 1 (.slice none 0 0) (ins (List.replicate 0 (-1))):=y9.nil _ _ _ _
 refine zUb ?_
 refine zUb ?_
 refine zC 3 ((7, .Z (UF.eq (.slice (some ⟨gg,0,none⟩) N cap)))::(8, .u (uI (N:Int)))::(9, .u (uI 0)):: []) hmix s kI
  (oc zA<|oc (jV kI (fun v W h=>⟨_,_,_,h,rfl⟩))<|oc zA<|zE) fun a w2 s=> ?_
 refine zB rfl ?_
 have hb:=s.below
 replace hFr:=hFr.trans (hb.mono hFr.size)
 replace hG:=hG.below hb
 replace hT:=hT.below hb
 replace h4:=(hb.block b4 (zUc.1 h4).1).trans h4
 replace h5:=(hb.block b5 (zUc.1 h5).1).trans h5
 replace hc:=hc.below hb
 replace hs:=hs.below hb
 replace s:=s.anewB rfl rfl
 refine zUd ?_
 refine yM (fun (y:Nat×Wn×Wn) a w=>y.1<=N/\Below W.heap.size W w/\GM w gg cap vs G/\Tab w/\w.heap[b4]?=some (.cells #[y.2.1] 23 (0,0))/\w.heap[b5]?=some (.cells #[y.2.2] 24 (0,0))/\y9 w W.heap.size 32 3 y.2.1 (qns (List.replicate y.1 0))/\y9 w W.heap.size 3 1 y.2.2 (ins (List.replicate y.1 (-1)))/\St w [(0, .u (UF.eq (.slice (some ⟨gg,0,none⟩) N cap))),(1, .u (uI x)),(4, .u (UF.eq (pO b4 0))),(5, .u (UF.eq (pO b5 0))),(8, .u (uI (N:Int))),(9, .u (uI (y.1:Int)))] [] f30.ntmps [] a w) (fun y=>N - y.1) (0, .slice none 0 0, .slice none 0 0) ⟨zUl _,hFr,hG,hT,h4,h5,hc,hs,s.keepK _ (fmz ⟨mz4,fmz ⟨mz5,fmz ⟨mz3,fmz ⟨mz2,fmz ⟨.head _,fmz ⟨mz1,fnz⟩⟩⟩⟩⟩⟩)⟩ fun y a w hx=> ?_
 clear hFr hG hT h4 h5 hc hs
 obtain ⟨hk,hFr,hG,hT,h4,h5,hc,hs,s⟩:=hx
 refine zUb ?_
 refine zC 1 ((10, .u (uB (decide ((y.1:Int)<(N:Int))))):: []) hmix s kI
  (oc (zP .i64 (y.1:Int) (N:Int) (decide ((y.1:Int)<(N:Int))) iiz iiz rfl rfl)<|zE) fun a w3 s=> ?_
 refine zB rfl ?_
 have hb:=s.below
 replace hFr:=hFr.trans (hb.mono hFr.size)
 replace hG:=hG.below hb
 replace hT:=hT.below hb
 replace h4:=(hb.block b4 (zUc.1 h4).1).trans h4
 replace h5:=(hb.block b5 (zUc.1 h5).1).trans h5
 replace hc:=hc.below hb
 replace hs:=hs.below hb
 replace s:=s.anewB rfl rfl
 refine zUb ?_
 refine StS.cond s (decide ((y.1:Int)<(N:Int))) iiz (fun e=> ?_) (fun e=> ?_)
 ·have hkN:y.1<N:=by have:=zUj e;omega
  refine zUg ?_
  refine zUb ?_
  refine zUd ?_
  have hown: ∀q,(y.2.1.ownBlock=some q∨y.2.2.ownBlock=some q)->q≠b4/\q≠b5/\W.heap.size<=q/\q<w3.heap.size/\zHn w3 q:=fun q hq=>by
   rcases hq with hq|hq
   ·obtain ⟨_,c,g1,g2⟩:=qO hc hq
    exact ⟨z9 g1 h4 dB,z9 g1 h5 dB,(hc.lt q hq).1,(hc.lt q hq).2,c,_,_,g1,g2⟩
   ·obtain ⟨_,c,g1,g2⟩:=qO hs hq
    exact ⟨z9 g1 h4 dB,z9 g1 h5 dB,(hs.lt q hq).1,(hs.lt q hq).2,c,_,_,g1,g2⟩
  have hb4l:=(zUc.1 h4).1
  have hb5l:=(zUc.1 h5).1
  have hWw:=hFr.size
  refine zBk (w:=w3) (n:=f30.ntmps) (zR5 w3 W.heap.size y.2.1 y.2.2 (qns (List.replicate y.1 0)) (ins (List.replicate y.1 (-1)))) (TwoA w3 W.heap.size y.2.1 y.2.2 (qns (List.replicate y.1 0)) (ins (List.replicate y.1 (-1)))) (fun i U V=>BlS (zRQ y.2.1 y.2.2 i) U V/\yL U V) 7 hmix s.size kI (fun i l U V hi hl _ hC hR=>hC.next hc hs (by rw [hl];show i<9;omega) hR.1 hR.2) (fun i j v U V _ hj hij hE hR=>hE.keep hc hs hj hij hR.1 hR.2) (fun l U _ hb=>⟨jZ hb,zK hb,fun _=>hc.below hb,fun _=>hs.below hb⟩) (fun i o hi ho l a' U hf hnl hall Kk hK=> ?_) (fun Q' hQ a' w' hC hsz hnd hkp hv=> ?_)
  ·have hU4:U.heap[b4]?=_:=(hf.cls.fr.block b4 hb4l (fun h=>(hown _ h).1 rfl)).trans h4
   have hU5:U.heap[b5]?=_:=(hf.cls.fr.block b5 hb5l (fun h=>(hown _ h).2.1 rfl)).trans h5
   have hwU:=hf.cls.fr.size
   have hkeep:BlS (zRQ y.2.1 y.2.2 i) U U/\yL U U:=⟨BlS.refl _ _,fun _ _ h=>h⟩
   have hi':i=0∨i=1∨i=2∨i=3∨i=4∨i=5∨i=6:=by omega
   rcases hi' with rfl|rfl|rfl|rfl|rfl|rfl|rfl<;>obtain rfl:=zUk ho
   ·have e4:a'.eval (.tmp 4)= (pO b4 0):=(hf.keep 4 (fun j hj=>yH (k:=7) kI j hj)).trans (s.val mz3)
    exact yC ho (fun _ e=>by cases e) (fun _ e=>by cases e) (zA6 (cs:= [y.2.1]) (o:=0) kI e4 hU4 rfl) (hK _ U rfl hkeep)
   ·exact jT (w0:=U) (G:=upd zP0 [(12,(fQN 0).tS)]) ho (zM zF (enters_of func32 kI rfl) (fun u0 X hb h0=>zIu h0)) (fun j g hj=>by rw [hf.size,s.size];exact zHX kI hj) (zUn _ _) (fun t ht=>by cases ht) fun v V hv hb=>hK v V (hv 12 rfl) ⟨jZ hb,zK hb⟩
   ·obtain ⟨cs,g1,g2⟩:=zQP (hf.vals 1 dB (zU hall kI) 12 rfl)
    exact yC ho (fun _ e=>by cases e) (fun _ e=>by cases e) (zIp g1) (hK _ _ ⟨_,rfl,hwU,g2⟩ ⟨jZ (jQ _ _),zK (jQ _ _)⟩)
   ·obtain ⟨g,e13,hg,hR13⟩:=hf.vals 2 dB (zU hall kI) 13 rfl
    have e11:a'.eval (.tmp 11)=y.2.1:=hf.vals 0 dB (zU hall kI) 11 rfl
    refine opn ho rfl (zCZ (z:=3) (e:=32) (base:=W.heap.size) (v:=y.2.1) (Cs:=qns (List.replicate y.1 0)) (Ds:= [CU.agg (fQN 0)]) kI (hf.cls.c3 hnl) e11 (by rw [show a'.eval (.tmp 13)=_ from e13];exact hR13.row rfl) (fun C hC=>by obtain rfl:=zUq.1 hC;exact zQ8 0) (by simp;omega) oP fun v' V h1 h2 h3 h4=>hK v' V ⟨h1,h4.imp_right fun e=>⟨_,e,hwU⟩⟩ ⟨h2.sub fun q hq=> .inl ⟨rfl,hq⟩,h3⟩)
   ·have e5:a'.eval (.tmp 5)= (pO b5 0):=(hf.keep 5 (fun j hj=>yH (k:=7) kI j hj)).trans (s.val mz4)
    exact yC ho (fun _ e=>by cases e) (fun _ e=>by cases e) (zA6 (cs:= [y.2.2]) (o:=0) kI e5 hU5 rfl) (hK _ U rfl hkeep)
   ·exact yC ho (fun _ e=>by cases e) (fun _ e=>by cases e) (zIp (zQV (-1))) (hK _ _ ⟨_,rfl,hwU,zKc _ _⟩ ⟨jZ (jQ _ _),zK (jQ _ _)⟩)
   ·obtain ⟨g,e16,hg,hR16⟩:=hf.vals 5 dB (zU hall kI) 16 rfl
    have e15:a'.eval (.tmp 15)=y.2.2:=hf.vals 4 dB (zU hall kI) 15 rfl
    refine opn ho rfl (zCZ (z:=1) (e:=3) (base:=W.heap.size) (v:=y.2.2) (Cs:=ins (List.replicate y.1 (-1))) (Ds:= [wB [.int .i64 (-1)]]) kI (hf.cls.c6 hnl) e15 (by rw [show a'.eval (.tmp 16)=_ from e16];exact hR16.row rfl) (fun C hC=>by obtain rfl:=zUq.1 hC;exact zLu rfl rfl) (by simp;omega) oP fun v' V h1 h2 h3 h4=>hK v' V ⟨h1,h4.imp_right fun e=>⟨_,e,hwU⟩⟩ ⟨h2.sub fun q hq=> .inr ⟨rfl,hq⟩,h3⟩)
  obtain ⟨hc',hoc⟩:=hv 3 dB 14 rfl
  obtain ⟨hs',hos⟩:=hv 6 dB 17 rfl
  obtain ⟨vc,evc⟩: ∃v,a'.tmps.getD 14 undef=v:=⟨_,rfl⟩
  obtain ⟨vs',evs⟩: ∃v,a'.tmps.getD 17 undef=v:=⟨_,rfl⟩
  rw [evc] at hc' hoc
  rw [evs] at hs' hos
  replace h4:=(hC.fr.block b4 hb4l (fun h=>(hown _ h).1 rfl)).trans h4
  replace h5:=(hC.fr.block b5 hb5l (fun h=>(hown _ h).2.1 rfl)).trans h5
  have hGf: ∀q,zE5 gg vs q-> ¬(y.2.1.ownBlock=some q∨y.2.2.ownBlock=some q):=fun q hq h=>by have:=(hown q h).2.2.1;have:=hGW q hq;omega
  replace hG:=hG.keep (fun q hq=>hC.fr.block q (hG.lt hq) (hGf q hq)) hC.kp
  replace hT:=zBO hT hC.fr (fun h=>by have:=(hown _ h).2.2.1;have:=zFa hTW;omega)
  replace hFr:=yN hFr hC.fr (fun q hq=>(hown q hq).2.2.1)
  have hkv: ∀t,(∀j,j<7->zX _ j≠some t)->a'.tmps.getD t undef=a.tmps.getD t undef:=hkp
  rw [zPM] at hc'
  rw [zQa] at hs'
  replace s:St w' [(14, .u (UF.eq vc)),(17, .u (UF.eq vs')),(10, .u (uB (decide ((y.1:Int)<(N:Int))))),(0, .u (UF.eq (.slice (some ⟨gg,0,none⟩) N cap))),(1, .u (uI x)),(4, .u (UF.eq (pO b4 0))),(5, .u (UF.eq (pO b5 0))),(8, .u (uI (N:Int))),(9, .u (uI (y.1:Int)))] [] f30.ntmps [] a' w':=wV hsz (hnd.trans s.nd) (fmz ⟨⟨_,rfl,evc⟩,fmz ⟨⟨_,rfl,evs⟩,fmz ⟨⟨_,rfl,(hkv 10 (fun j hj=>yH (k:=7) kI j hj)).trans (s.val (.head _))⟩,fmz ⟨⟨_,rfl,(hkv 0 (fun j hj=>yH (k:=7) kI j hj)).trans (s.val mz1)⟩,fmz ⟨⟨_,rfl,(hkv 1 (fun j hj=>yH (k:=7) kI j hj)).trans (s.val mz2)⟩,fmz ⟨⟨_,rfl,(hkv 4 (fun j hj=>yH (k:=7) kI j hj)).trans (s.val mz3)⟩,fmz ⟨⟨_,rfl,(hkv 5 (fun j hj=>yH (k:=7) kI j hj)).trans (s.val mz4)⟩,fmz ⟨⟨_,rfl,(hkv 8 (fun j hj=>yH (k:=7) kI j hj)).trans (s.val mz5)⟩,fmz ⟨⟨_,rfl,(hkv 9 (fun j hj=>yH (k:=7) kI j hj)).trans (s.val mz6)⟩,fnz⟩⟩⟩⟩⟩⟩⟩⟩⟩)
  have hcf:=zBx hc'
  have hsf:=zBx hs'
  have hcf0:=zBx hc
  have hsf0:=zBx hs
  refine zCC (g:=b4) (i:=0) (cap:=1) (z:=1) (e:=23) (wB [vc]) rfl s rfl rfl (zBR h4 hcf0.2.2) (by simp) kI (s.fct (.tmp 4)) (zAX (s.fct (.tmp 14)) hcf.1 hcf.2.1 hcf.2.2) (fun q hq=>by cases hq) fun w2 hF1 hk1 hB1 s=> ?_
  have hne:b5≠b4:=z9 h5 h4 dB
  replace h5:=(hF1.block b5 (zUc.1 h5).1 hne).trans h5
  replace hc':=hc'.keep (fun q hq=>hF1.block q (hc'.lt q hq).2 (fun e=>z9 (qO hc' hq).2.choose_spec.1 h4 dB e)) hk1
  replace hs':=hs'.keep (fun q hq=>hF1.block q (hs'.lt q hq).2 (fun e=>z9 (qO hs' hq).2.choose_spec.1 h4 dB e)) hk1
  replace hG:=hG.keep (fun q hq=>hF1.block q (hG.lt hq) (fun e=>by have:=hGW q hq;omega)) hk1
  replace hT:=zBO hT hF1 (fun e=>by have:=zFa hTW;omega)
  replace hFr:=yN hFr hF1 (fun q hq=>by rw [hq];exact hb4W)
  replace h4:=zCz hB1
  refine zCC (g:=b5) (i:=0) (cap:=1) (z:=1) (e:=24) (wB [vs']) rfl s rfl rfl (zBR h5 hsf0.2.2) (by simp) kI (s.fct (.tmp 5)) (zAX (s.fct (.tmp 17)) hsf.1 hsf.2.1 hsf.2.2) (fun q hq=>by cases hq) fun w2 hF1 hk1 hB1 s=> ?_
  have hne:b4≠b5:=z9 h4 h5 dB
  replace h4:=(hF1.block b4 (zUc.1 h4).1 hne).trans h4
  replace hc':=hc'.keep (fun q hq=>hF1.block q (hc'.lt q hq).2 (fun e=>z9 (qO hc' hq).2.choose_spec.1 h5 dB e)) hk1
  replace hs':=hs'.keep (fun q hq=>hF1.block q (hs'.lt q hq).2 (fun e=>z9 (qO hs' hq).2.choose_spec.1 h5 dB e)) hk1
  replace hG:=hG.keep (fun q hq=>hF1.block q (hG.lt hq) (fun e=>by have:=hGW q hq;omega)) hk1
  replace hT:=zBO hT hF1 (fun e=>by have:=zFa hTW;omega)
  replace hFr:=yN hFr hF1 (fun q hq=>by rw [hq];exact hb5W)
  replace h5:=zCz hB1
  replace hc:=hc'
  replace hs:=hs'
  refine zB rfl (hQ _ _ ?_)
  refine yI 1 ((18, .u (uI ((y.1+1:Nat):Int))):: []) s kI
   (oc (qX .i64 (y.1:Int) 1 ((y.1+1:Nat):Int) iiz iiz (wrap64 _ _ oP oP))<|zE) fun a w4 s=> ?_
  replace s:=s.drop [9]
  refine zCr (uI ((y.1+1:Nat):Int)) rfl s kI zA kI fun a w s=> ?_
  refine zB rfl ?_
  have hb:=s.below
  replace hFr:=hFr.trans (hb.mono hFr.size)
  replace hG:=hG.below hb
  replace hT:=hT.below hb
  replace h4:=(hb.block b4 (zUc.1 h4).1).trans h4
  replace h5:=(hb.block b5 (zUc.1 h5).1).trans h5
  replace hc:=hc.below hb
  replace hs:=hs.below hb
  replace s:=s.anewB rfl rfl
  exact ⟨(y.1+1,vc,vs'),(by show N - (y.1+1)<N - y.1;omega),hkN,hFr,hG,hT,h4,h5,hc,hs,s.keepK _ (fmz ⟨mz5,fmz ⟨mz6,fmz ⟨mz7,fmz ⟨mz8,fmz ⟨mz9,fmz ⟨.head _,fnz⟩⟩⟩⟩⟩⟩)⟩
 ·have hkN:y.1=N:=by have:=zUi e;omega
  rw [hkN] at hc hs
  refine zUm ?_
  refine zUb ?_
  refine zUb ?_
  refine zC 3 ((19, .Z (UF.eq (.slice (some ⟨gg,0,none⟩) N cap)))::(20, .Z (uI x))::(21, .u (uB (yS N x))):: []) hmix s kI
   (oc zA<|oc zA<|oc (yB zF zLJ (fun u0 u1 W hb (h0:u0=(.slice (some ⟨gg,0,none⟩) N cap)) (h1:u1= .int .i64 x)=>zLv h0 h1))<|zE) fun a w5 s=> ?_
  refine zB rfl ?_
  have hb:=s.below
  replace hFr:=hFr.trans (hb.mono hFr.size)
  replace hG:=hG.below hb
  replace hT:=hT.below hb
  replace h4:=(hb.block b4 (zUc.1 h4).1).trans h4
  replace h5:=(hb.block b5 (zUc.1 h5).1).trans h5
  replace hc:=hc.below hb
  replace hs:=hs.below hb
  replace s:=s.anewB rfl rfl
  refine zTy (fun a w=> ∃ds cv sv,St W [(4, .u (UF.eq (pO b4 0))),(5, .u (UF.eq (pO b5 0)))] [] f30.ntmps ds a w/\w.heap[b4]?=some (.cells #[cv] 23 (0,0))/\w.heap[b5]?=some (.cells #[sv] 24 (0,0))/\y9 w W.heap.size 32 3 cv (qns (csR (qE G) N x))/\y9 w W.heap.size 3 1 sv (ins (ssR (qE G) N x))) ?_ ?_
  ·refine StS.cond s (yS N x) iiz (fun e=> ?_) (fun e=> ?_)
   ·have hhas:=e
    have hsl: ∀q,y.2.2.ownBlock=some q->q<_:=fun q hq=>(hs.lt q hq).2
    refine zUb ?_
    refine qU 3 ((22, .Z (UF.eq (.slice (some ⟨gg,0,none⟩) N cap)))::(23, .Z (uI x))::(24, .s (zR2 w5 (.slice (some ⟨gg,0,none⟩) N cap) (.int .i64 x))):: []) hmix s kI
     (oc zA<|oc zA<|oc (yB zF zS1 (fun u0 u1 W hb (h0:u0=(.slice (some ⟨gg,0,none⟩) N cap)) (h1:u1= .int .i64 x)=>(zKe h0 h1).mono (wG (zNA hb.size))))<|zE) fun a w6 s hr=> ?_
    refine zB rfl ?_
    have hb:=s.below
    replace hFr:=hFr.trans (hb.mono hFr.size)
    replace hG:=hG.below hb
    replace hT:=hT.below hb
    replace h4:=(hb.block b4 (zUc.1 h4).1).trans h4
    replace h5:=(hb.block b5 (zUc.1 h5).1).trans h5
    replace hc:=hc.below hb
    replace hs:=hs.below hb
    replace s:=s.anewB rfl rfl
    refine zUd ?_
    obtain ⟨b1,b2,ef,-,hb2o,hbk1,hbk2⟩:=hr (24,_) mz2
    replace s:=s.learn 24 _ ef
    obtain ⟨ha,hxa⟩:=jX hhas
    rw [<-hxa] at hbk2
    have lq:(qns (List.replicate N 0)).length=N:=by simp [qns]
    have li:(ins (List.replicate N (-1))).length=N:=by simp [ins]
    obtain ⟨gc,capc,ec,hgcW,hRc⟩:=zDF hc oP
    obtain ⟨gs,caps,es,hgsW,hRs⟩:=zDF hs oP
    rw [lq] at ec
    rw [li] at es
    have hgl:=hsl gs (by rw [es];rfl)
    rw [ec] at h4
    rw [es] at h5
    have hgcl:=hRc.lt
    have hgsl:=hRs.lt
    have hcs:gc≠gs:=z9 hRc.at.choose_spec hRs.at.choose_spec dB
    replace s:=s.home rfl rfl hFr
    refine zJ6 (gf:=65) (lb:=#[pO b1 0,pO b2 0]) (Ef:=fun k=> [fWt ((stl (qE G) N x.toNat).getD k wz)]) (N:=(stl (qE G) N x.toNat).length) (T:=fun q=>q=gc∨q=gs) (X:=fun k U=>jG U gc 32 3 capc (qns (zEW ((stl (qE G) N x.toNat).take k) (List.replicate N 0)))/\jG U gs 3 1 caps (ins (zEn ((stl (qE G) N x.toNat).take k) (List.replicate N (-1))))/\U.heap[b4]?=some (.cells #[.slice (some ⟨gc,0,none⟩) N capc] 23 (0,0))/\U.heap[b5]?=some (.cells #[.slice (some ⟨gs,0,none⟩) N caps] 24 (0,0))) (fun k=> [(4, .u (UF.eq (pO b4 0))),(5, .u (UF.eq (pO b5 0))),(25, .u (fWt ((stl (qE G) N x.toNat).getD k wz)))]) s rfl iiz (enters_of func65 kI rfl) (fun q hq=>by rcases hq with rfl|rfl<;>exact ⟨by assumption,by assumption⟩) (fun x hx=>by cases hx) (zJi hbk1 hbk2 hG hN ha oP hGk hrb (hcb _ ha) hpd hT (fun q hq=>by rcases hq with rfl|rfl<;>assumption) (fun q hq h=> ?_)) (fun k U V hl hx=>⟨hx.1.keep (hl.low _ hgcl) hl.keep,hx.2.1.keep (hl.low _ hgsl) hl.keep,(hl.low _ (zUc.1 h4).1).trans hx.2.2.1,(hl.low _ (zUc.1 h5).1).trans hx.2.2.2⟩) (fun k U hx q hq=>by rcases hq with rfl|rfl;exact hx.1.plain;exact hx.2.1.plain) ⟨hRc,hRs,h4,h5⟩ (fun _=>rfl) (fun k q hq=> ?_) rfl kI rfl (fun l k V a' hk hX hsz s=> ?_) (fun D V hX s=> ?_)
    ·have hqW:W.heap.size<=q:=by rcases h with rfl|rfl<;>assumption
     rcases hq with rfl|rfl|hq|rfl
     ·rcases h with h|h
      ·exact z9 hbk1 hRc.at.choose_spec dB h
      ·exact z9 hbk1 hRs.at.choose_spec dB h
     ·rcases h with h|h
      ·exact z9 hbk2 hRc.at.choose_spec dB h
      ·omega
     ·have:=hGW q hq;omega
     ·have:=zFa hTW;omega
    ·rcases zUU.1 hq with rfl|hq
     ·exact .inl ⟨mz5,rfl,rfl⟩
     ·rcases zUU.1 hq with rfl|hq
      ·exact .inl ⟨mz6,rfl,rfl⟩
      ·obtain rfl:=zUq.1 hq
       exact .inr ⟨0,_,rfl,rfl,rfl⟩
    ·obtain ⟨t,et⟩: ∃t,(stl (qE G) N x.toNat).getD k wz=t:=⟨_,rfl⟩
     rw [et] at s
     have htn:t.n<N:=by rw [<-et];exact ((zOb hGk ha).1 _ (zOQ hk)).1
     refine zC 0 [] hmix s kI
      zE fun a w7 s=> ?_
     refine qJ (CU.len 5) (cs:= [.bool false, .slice none 0 0, .slice none 0 0, .int .i64 0, .int .i64 0]) kI rfl s kI (fun W=>rfl) rfl fun b6 a w s=> ?_
     refine yY (CU.agg (fWt t)) ((fWt t).tS) rfl s kI rfl rfl rfl iiz iiz zFv fun a w s=> ?_
     refine zB rfl ?_
     refine ⟨s.below,fun U hzU hXU hj=> ?_⟩
     replace s:StS _ _ _ [⟨6,86,CU.agg (fWt t),b6,true⟩] _ _ _ _:=s.freeze
     replace s:=hj _ _ rfl rfl s
     replace s:=s.anewB rfl rfl
     obtain ⟨c6,h6,e6,-⟩:=s.boxAt (c:=6) rfl
     replace h6:U.heap[b6]?=some (.cells c6.toArray 86 (0,0)):=h6
     replace s:=(s.learn 6 _ (s.bx.mem _ (.head _)).choose_spec.1).popB
     obtain ⟨hRc,hRs,h4,h5⟩:=hXU
     refine zUd ?_
     have hkk:=hk
     obtain ⟨cur6,hc6,hn6⟩:=zDk c6 U e6
     obtain ⟨cur3,hc3,hn3⟩:=zCm c6 U e6
     obtain ⟨hl7,hq7⟩:=zFw c6 U e6
     rw [hn6] at hc6
     rw [hn3] at hc3
     have hb4l:=(zUc.1 h4).1
     have hb5l:=(zUc.1 h5).1
     have hb6l:=(zUc.1 h6).1
     have h4c:b4≠gc:=z9 h4 hRc.at.choose_spec dB
     have h4s:b4≠gs:=z9 h4 hRs.at.choose_spec dB
     have h5c:b5≠gc:=z9 h5 hRc.at.choose_spec dB
     have h5s:b5≠gs:=z9 h5 hRs.at.choose_spec dB
     have h6c:b6≠gc:=z9 h6 hRc.at.choose_spec dB
     have h6s:b6≠gs:=z9 h6 hRs.at.choose_spec dB
     obtain ⟨cl,ecl⟩: ∃cl,zEW ((stl (qE G) N x.toNat).take k) (List.replicate N 0)=cl:=⟨_,rfl⟩
     obtain ⟨sl,esl⟩: ∃sl,zEn ((stl (qE G) N x.toNat).take k) (List.replicate N (-1))=sl:=⟨_,rfl⟩
     have hcl:cl.length=N:=by rw [<-ecl];simp [zEW,zBh]
     have hsl':sl.length=N:=by rw [<-esl];simp [zEn,zBh]
     rw [ecl] at hRc
     rw [esl] at hRs
     refine zBk (w:=U) (n:=f30.ntmps) (fun i v V=>match i with|0=>v= .slice (some ⟨gc,0,none⟩) N capc|1=>v= (pO b6 4)|2=>v= .int .i64 (t.n:Int)|3=>v= .slice (some ⟨gs,0,none⟩) N caps|4=>v= (pO b6 4)|5=>v= .int .i64 (t.n:Int)|6=>v= (pO b6 0)|7=>QNp t.c v V|8=>v= (pO b6 3)|9=>v= .int .i64 (t.s:Int)|10=>v= .pointer (some ⟨gc,t.n*3,none⟩)|12=>v= .pointer (some ⟨gs,t.n*1,none⟩)|_=>True)
      (fun l V=>BlS (fun q=>q=gc∨q=gs) U V/\yL U V/\jG V gc 32 3 capc (qns (if l.getD 11 false then cl.set t.n t.c else cl))/\jG V gs 3 1 caps (ins (if l.getD 13 false then sl.set t.n (t.s:Int) else sl)))
      (fun i V V'=>BlS (fun q=>(i=11/\q=gc)∨(i=13/\q=gs)) V V'/\yL V V'/\(i=11->jG V' gc 32 3 capc (qns (cl.set t.n t.c)))/\(i=13->jG V' gs 3 1 caps (ins (sl.set t.n (t.s:Int))))) 14 hmix s.size kI
      (fun i l V V' hi hl _ hC hR=>⟨hC.1.comp (hR.1.sub fun q hq=>hq.imp (·.2) (·.2)),hC.2.1.trans hR.2.1, ?_, ?_⟩) (fun i j v V V' _ hj hij hE hR=> ?_) (fun l V hl hb=>⟨jZ hb,zK hb, ?_, ?_⟩) (fun i o hi ho l a' V hf hnl hall Kk hK=> ?_) (fun Q' hQ a' w' hC hsz hnd hkp hv=> ?_)
     ·by_cases e:i=11
      ·subst e
       rw [zDV (by rw [hl];decide)]
       exact hR.2.2.1 rfl
      ·rw [getD_set_ne false e]
       exact hC.2.2.1.keep (hR.1.block gc hC.2.2.1.lt (fun h=>h.elim (fun h=>e h.1) (fun h=>hcs h.2))) hR.2.1
     ·by_cases e:i=13
      ·subst e
       rw [zDV (by rw [hl];decide)]
       exact hR.2.2.2 rfl
      ·rw [getD_set_ne false e]
       exact hC.2.2.2.keep (hR.1.block gs hC.2.2.2.lt (fun h=>h.elim (fun h=>hcs h.2.symm) (fun h=>e h.1))) hR.2.1
     ·have hj':j=0∨j=1∨j=2∨j=3∨j=4∨j=5∨j=6∨j=7∨j=8∨j=9∨j=10∨j=11∨j=12∨j=13:=by omega
      rcases hj' with rfl|rfl|rfl|rfl|rfl|rfl|rfl|rfl|rfl|rfl|rfl|rfl|rfl|rfl<;>first|exact hE|exact (fQN t.c).us _ _ _ hE hR.2.1
     ·rw [hl 11]
      exact hRc.below hb
     ·rw [hl 13]
      exact hRs.below hb
     ·obtain ⟨hB,hk,hC1,hC2⟩:=hf.cls
      have hU4:=(hB.block b4 hb4l (fun h=>h.elim h4c h4s)).trans h4
      have hU5:=(hB.block b5 hb5l (fun h=>h.elim h5c h5s)).trans h5
      have hU6:=(hB.block b6 hb6l (fun h=>h.elim h6c h6s)).trans h6
      have q4:a'.eval (.tmp 4)= (pO b4 0):=(hf.keep 4 (fun j hj=>yH (k:=14) kI j hj)).trans (s.val mz1)
      have q5:a'.eval (.tmp 5)= (pO b5 0):=(hf.keep 5 (fun j hj=>yH (k:=14) kI j hj)).trans (s.val mz2)
      have q6:a'.eval (.tmp 6)= (pO b6 0):=(hf.keep 6 (fun j hj=>yH (k:=14) kI j hj)).trans (s.val (.head _))
      have hk0:i≠11->i≠13->BlS (fun q=>(i=11/\q=gc)∨(i=13/\q=gs)) V V/\yL V V/\(i=11->jG V gc 32 3 capc (qns (cl.set t.n t.c)))/\(i=13->jG V gs 3 1 caps (ins (sl.set t.n (t.s:Int)))):=fun e1 e2=>⟨BlS.refl _ _,fun _ _ h=>h,fun e=>absurd e e1,fun e=>absurd e e2⟩
      have hi':i=0∨i=1∨i=2∨i=3∨i=4∨i=5∨i=6∨i=7∨i=8∨i=9∨i=10∨i=11∨i=12∨i=13:=by omega
      rcases hi' with rfl|rfl|rfl|rfl|rfl|rfl|rfl|rfl|rfl|rfl|rfl|rfl|rfl|rfl<;>obtain rfl:=zUk ho
      ·exact yC ho (fun _ e=>by cases e) (fun _ e=>by cases e) (zA6 (cs:= [_]) (o:=0) kI q4 hU4 rfl) (hK _ V rfl (hk0 dB dB))
      ·exact yC ho (fun _ e=>by cases e) (fun _ e=>by cases e) (zBD 4 kI q6) (hK _ V rfl (hk0 dB dB))
      ·exact yC ho (fun _ e=>by cases e) (fun _ e=>by cases e) (zA6 (cs:=c6) (o:=4) kI (hf.vals 1 dB (zU hall kI) 27 rfl) hU6 hc6) (hK _ V rfl (hk0 dB dB))
      ·exact yC ho (fun _ e=>by cases e) (fun _ e=>by cases e) (zA6 (cs:= [_]) (o:=0) kI q5 hU5 rfl) (hK _ V rfl (hk0 dB dB))
      ·exact yC ho (fun _ e=>by cases e) (fun _ e=>by cases e) (zBD 4 kI q6) (hK _ V rfl (hk0 dB dB))
      ·exact yC ho (fun _ e=>by cases e) (fun _ e=>by cases e) (zA6 (cs:=c6) (o:=4) kI (hf.vals 4 dB (zU hall kI) 30 rfl) hU6 hc6) (hK _ V rfl (hk0 dB dB))
      ·exact yC ho (fun _ e=>by cases e) (fun _ e=>by cases e) (zBD 0 kI q6) (hK _ V rfl (hk0 dB dB))
      ·exact yC ho (fun _ e=>by cases e) (fun _ e=>by cases e) (zFC (cs:=c6) (o:=0) (k:=3) kI (hf.vals 6 dB (zU hall kI) 32 rfl) hU6 hl7) (hK _ V ((fQN t.c).us _ _ _ hq7 hk) (hk0 dB dB))
      ·exact yC ho (fun _ e=>by cases e) (fun _ e=>by cases e) (zBD 3 kI q6) (hK _ V rfl (hk0 dB dB))
      ·exact yC ho (fun _ e=>by cases e) (fun _ e=>by cases e) (zA6 (cs:=c6) (o:=3) kI (hf.vals 8 dB (zU hall kI) 34 rfl) hU6 hc3) (hK _ V rfl (hk0 dB dB))
      ·have e26:a'.eval (.tmp 26)= .slice (some ⟨gc,0,none⟩) N capc:=hf.vals 0 dB (zU hall kI) 26 rfl
       have e28:a'.eval (.tmp 28)= .int .i64 (t.n:Int):=hf.vals 2 dB (zU hall kI) 28 rfl
       exact yC ho (fun _ e=>by cases e) (fun _ e=>by cases e) (zEq (z:=3) kI htn e26 e28) (hK _ V rfl (hk0 dB dB))
      ·have e36:a'.eval (.tmp 36)= .pointer (some ⟨gc,t.n*3,none⟩):=hf.vals 10 dB (zU hall kI) 36 rfl
       have e33:QNp t.c (a'.eval (.tmp 33)) V:=hf.vals 7 dB (zU hall kI) 33 rfl
       rw [hnl] at hC1
       exact zFS (g:=gc) (j:=t.n) (Cs:=qns cl) (CU.agg (fQN t.c)) ho hC1 (by simp [qns];omega) kI e36 (zKP e33) fun V' hb hk' hR=>hK _ V' trivial ⟨hb.sub fun q hq=> .inl ⟨rfl,hq⟩,hk',fun _=>by rw [<-zPL];exact hR,fun e=>absurd e dB⟩
      ·have e29:a'.eval (.tmp 29)= .slice (some ⟨gs,0,none⟩) N caps:=hf.vals 3 dB (zU hall kI) 29 rfl
       have e31:a'.eval (.tmp 31)= .int .i64 (t.n:Int):=hf.vals 5 dB (zU hall kI) 31 rfl
       exact yC ho (fun _ e=>by cases e) (fun _ e=>by cases e) (zEq (z:=1) kI htn e29 e31) (hK _ V rfl (hk0 dB dB))
      ·have e37:a'.eval (.tmp 37)= .pointer (some ⟨gs,t.n*1,none⟩):=hf.vals 12 dB (zU hall kI) 37 rfl
       have e35:a'.eval (.tmp 35)= .int .i64 (t.s:Int):=hf.vals 9 dB (zU hall kI) 35 rfl
       rw [hnl] at hC2
       exact zFS (g:=gs) (j:=t.n) (Cs:=ins sl) (wB [.int .i64 (t.s:Int)]) ho hC2 (by simp [ins];omega) kI e37 (zAX e35 rfl rfl rfl) fun V' hb hk' hR=>hK _ V' trivial ⟨hb.sub fun q hq=> .inr ⟨rfl,hq⟩,hk',fun e=>absurd e dB,fun _=>by rw [<-zDx];exact hR⟩
     ·obtain ⟨hB,hk,g1,g2⟩:=hC
      replace g1:jG w' gc 32 3 capc (qns (cl.set t.n t.c)):=g1
      replace g2:jG w' gs 3 1 caps (ins (sl.set t.n (t.s:Int))):=g2
      have e1:zEW ((stl (qE G) N x.toNat).take (k+1)) (List.replicate N 0)=cl.set t.n t.c:=by rw [<-ecl, <-et];exact zHc _ _ _ hkk
      have e2:zEn ((stl (qE G) N x.toNat).take (k+1)) (List.replicate N (-1))=sl.set t.n (t.s:Int):=by rw [<-esl, <-et];exact zHc _ _ _ hkk
      exact zB rfl (hQ _ _ ⟨hB,by rw [e1];exact g1,by rw [e2];exact g2,(hB.block b4 hb4l (fun h=>h.elim h4c h4s)).trans h4,(hB.block b5 hb5l (fun h=>h.elim h5c h5s)).trans h5⟩)
    ·obtain ⟨hRc,hRs,h4,h5⟩:=hX
     rw [List.take_length] at hRc hRs
     have e1:csR (qE G) N x=zEW (stl (qE G) N x.toNat) (List.replicate N 0):=by simp [csR,hhas]
     have e2:ssR (qE G) N x=zEn (stl (qE G) N x.toNat) (List.replicate N (-1)):=by simp [ssR,hhas]
     exact ⟨_,_,_,s.keepK _ (fmz ⟨.tail _ mz4,fmz ⟨.tail _ mz5,fnz⟩⟩),h4,h5,by rw [e1];exact hRc.toN hgcW (by simp [qns,zEW,zBh]),by rw [e2];exact hRs.toN hgsW (by simp [ins,zEn,zBh])⟩
   ·refine zUg ?_
    have e1:csR (qE G) N x=List.replicate N 0:=by simp [csR,e]
    have e2:ssR (qE G) N x=List.replicate N (-1):=by simp [ssR,e]
    exact ⟨[],y.2.1,y.2.2,(s.home rfl rfl hFr).keepK _ (fmz ⟨mz4,fmz ⟨mz5,fnz⟩⟩),h4,h5,by rw [e1];exact hc,by rw [e2];exact hs⟩
  ·rintro a w ⟨ds,cv,sv,s,h4,h5,hc,hs⟩
   refine zUb ?_
   have hb4l:=(zUc.1 h4).1
   have hb5l:=(zUc.1 h5).1
   have hne:b5≠b4:=z9 h5 h4 dB
   have gw:=s.gr.size
   refine zBk (w:=w) (n:=f30.ntmps) (fun i v _=>(i=0->v=cv)/\(i=1->v=sv)) (fun _ U=>BlS (fun q=>q=b4∨q=b5) w U/\yL w U/\U.heap[b4]?=some (.cells #[cv] 23 (0,0))/\U.heap[b5]?=some (.cells #[sv] 24 (0,0))) (fun _ U V=>BlS (fun q=>q=b4∨q=b5) U V/\yL U V/\V.heap[b4]?=some (.cells #[cv] 23 (0,0))/\V.heap[b5]?=some (.cells #[sv] 24 (0,0))) 4 hmix s.size kI (fun i l U V _ _ _ hC hR=>⟨hC.1.comp hR.1,hC.2.1.trans hR.2.1,hR.2.2⟩) (fun i j v U V _ _ _ hE _=>hE) (fun l U _ hb=>⟨jZ hb,zK hb,(hb.block b4 hb4l).trans h4,(hb.block b5 hb5l).trans h5⟩) (fun i o hi ho l a' U hf hnl hall Kk hK=> ?_) (fun Q' hQ a' w' hC hsz hnd hkp hv=> ?_)
   ·obtain ⟨hB,hk,hU4,hU5⟩:=hf.cls
    have e4:a'.eval (.tmp 4)= (pO b4 0):=(hf.keep 4 (fun j hj=>yH (k:=4) kI j hj)).trans (s.val (.head _))
    have e5:a'.eval (.tmp 5)= (pO b5 0):=(hf.keep 5 (fun j hj=>yH (k:=4) kI j hj)).trans (s.val mz1)
    have hi':i=0∨i=1∨i=2∨i=3:=by omega
    rcases hi' with rfl|rfl|rfl|rfl<;>obtain rfl:=zUk ho
    ·exact yC ho (fun _ e=>by cases e) (fun _ e=>by cases e) (zA6 (cs:= [cv]) (o:=0) kI e4 hU4 rfl) (hK _ U ⟨fun _=>rfl,(fun e=>by cases e)⟩ ⟨BlS.refl _ _,fun _ _ h=>h,hU4,hU5⟩)
    ·exact yC ho (fun _ e=>by cases e) (fun _ e=>by cases e) (zA6 (cs:= [sv]) (o:=0) kI e5 hU5 rfl) (hK _ U ⟨(fun e=>by cases e),fun _=>rfl⟩ ⟨BlS.refl _ _,fun _ _ h=>h,hU4,hU5⟩)
    ·have e38:a'.eval (.tmp 38)=cv:=(hf.vals 0 dB (zU hall kI) 38 rfl).1 rfl
     have c1:=zBx hc
     exact zFS (g:=b4) (j:=0) (wB [cv]) ho (zBR hU4 c1.2.2) (by simp) kI e4 (zAX e38 c1.1 c1.2.1 c1.2.2) fun V hb hk2 hR=>hK _ V ⟨(fun e=>by cases e),(fun e=>by cases e)⟩ ⟨hb.sub fun q hq=> .inl hq,hk2,zCz hR,(hb.block b5 (zUc.1 hU5).1 hne).trans hU5⟩
    ·have e39:a'.eval (.tmp 39)=sv:=(hf.vals 1 dB (zU hall kI) 39 rfl).2 rfl
     have c1:=zBx hs
     exact zFS (g:=b5) (j:=0) (wB [sv]) ho (zBR hU5 c1.2.2) (by simp) kI e5 (zAX e39 c1.1 c1.2.1 c1.2.2) fun V hb hk2 hR=>hK _ V ⟨(fun e=>by cases e),(fun e=>by cases e)⟩ ⟨hb.sub fun q hq=> .inr hq,hk2,(hb.block b4 (zUc.1 hU4).1 (fun e=>hne e.symm)).trans hU4,zCz hR⟩
   refine zB rfl (hQ _ _ ?_)
   obtain ⟨hB,hk,g4,g5⟩:=hC
   have hto: ∀q,q=b4∨q=b5->W.heap.size<=q:=fun q hq=>by rcases hq with rfl|rfl;exact hb4W;exact hb5W
   have hown: ∀q,cv.ownBlock=some q∨sv.ownBlock=some q-> ¬(q=b4∨q=b5):=fun q hq h=>by
    rcases hq with hq|hq
    ·obtain ⟨_,c,g1,_⟩:=qO hc hq
     exact h.elim (z9 g1 h4 dB) (z9 g1 h5 dB)
    ·obtain ⟨_,c,g1,_⟩:=qO hs hq
     exact h.elim (z9 g1 h4 dB) (z9 g1 h5 dB)
   replace hc:=hc.keep (fun q hq=>hB.block q (hc.lt q hq).2 (hown q (.inl hq))) hk
   replace hs:=hs.keep (fun q hq=>hB.block q (hs.lt q hq).2 (hown q (.inr hq))) hk
   have k4:a'.tmps.getD 4 undef=a.tmps.getD 4 undef:=hkp 4 (fun j hj=>yH (k:=4) kI j hj)
   have k5:a'.tmps.getD 5 undef=a.tmps.getD 5 undef:=hkp 5 (fun j hj=>yH (k:=4) kI j hj)
   have e4:=k4.trans (s.val (.head _))
   have e5:=k5.trans (s.val mz1)
   replace s:=(s.hop hB hk hto (fun x hx=>by cases hx) (fun Ds hm D hd hq=>by rcases hq with rfl|rfl;rw [(hm.at_ _ hd).2] at h4;cases h4;rw [(hm.at_ _ hd).2] at h5;cases h5)).act hsz (hnd.trans s.nd) (fmz ⟨k4,fmz ⟨k5,fnz⟩⟩)
   refine zUh ?_
   exact s.resM2 rfl kI kI e4 e5 g4 g5 fun w2 ho=>⟨cv,sv,rfl,zIs hc ho,zIs hs ho⟩
/-! ### Joins and lengths as they are given -/
abbrev fJn (j:Int×Int):UF:=UF.eq (.agg #[.int .i64 j.1, .int .i64 j.2])
abbrev jns (js:List (Int×Int)):List CU:=js.map fun j=>CU.agg (fJn j)
theorem zHV {l:List (Int×Int)} {i:Nat} (h:i<l.length):(jns l)[i]?=some (CU.agg (fJn (l.getD i (0,0)))):=by simp [jns,h]
theorem zC9 {j:Int×Int} {cs:List Wn} {W:Wm} (h:(CU.agg (fJn j)).p cs W):cs= [.int .i64 j.1, .int .i64 j.2]:=by
 have:=zUf Array.toList (zAk (show Value.agg cs.toArray=_ from h))
 simpa using this
theorem zOG (j:Int×Int): ∀cs:List Wn, ∀W,(fJn j).p (.agg cs.toArray) W->cs.length=2:=fun cs W h=>by rw [zC9 (W:=W) h];rfl
theorem zSC {j:Int×Int} (cs:List Wn) (W:Wm) (h:(CU.agg (fJn j)).p cs W): ∃u,cs[0]?=some u/\u= .int .i64 j.1:=by rw [zC9 h];exact ⟨_,rfl,rfl⟩
theorem zSB {j:Int×Int} (cs:List Wn) (W:Wm) (h:(CU.agg (fJn j)).p cs W): ∃u,cs[1]?=some u/\u= .int .i64 j.2:=by rw [zC9 h];exact ⟨_,rfl,rfl⟩
theorem zNw {j:Int×Int} (v:Wn) (W:Wm) (h:(fJn j).p v W): ∃vs:List Wn,v= .agg vs.toArray/\vs.length=2/\(∀u,u∈vs->u.oneCell'=true)/\vs.all yA=true/\(CU.agg (fJn j)).p vs W:=by
 refine ⟨[.int .i64 j.1, .int .i64 j.2],h,rfl,fun u hu=> ?_,rfl,rfl⟩
 simp only [zUU,List.not_mem_nil,or_false] at hu
 rcases hu with rfl|rfl<;>rfl
/-! ### The graph of roads that are given as a list -/
def glN (N:Nat) (rs:List (Nat×Nat×Rat)):List (List (Nat×Rat)):=(List.range N).map (zH rs)
theorem zAi (N:Nat) (rs:List (Nat×Nat×Rat)):(glN N rs).length=N:=by simp [glN]
theorem zDz {N i:Nat} (rs:List (Nat×Nat×Rat)) (h:i<N):(glN N rs).getD i []=zH rs i:=by simp [glN,h]
theorem zEQ (N:Nat) (js:List (Int×Int)) (fs:List Rat):qE (glN N (rds N js fs))=grE N js fs:=by
 funext n
 by_cases h:n<N
 ·exact zDz _ h
 ·have e:qE (glN N (rds N js fs)) n= []:=by simp [qE,glN,h]
  rw [e]
  refine (List.eq_nil_iff_forall_not_mem.2 fun ⟨b,f⟩ hr=>h (zSE hr)).symm
theorem zL3 (a:Nat) (x:Nat×Rat) (b:Nat):zH [(a,x)] b=if a=b then [x] else []:=by
 unfold zH
 by_cases h:a=b
 ·subst h;simp
 ·rw [if_neg h];simp [h]
theorem zEY (rs:List (Nat×Nat×Rat)) (a:Nat):(zH rs a).length<=rs.length:=by
 unfold zH
 rw [zUe]
 exact List.length_filter_le _ _
theorem zFJ (N:Nat) (js:List (Int×Int)) (fs:List Rat) (k:Nat):(zAC N js fs k).length<=2*k:=by
 induction k with
 |zero=>simp [zAC]
 |succ k ih=>
  rw [zDq,zUv]
  have:(zFG N js fs k).length<=2:=by unfold zFG;split<;>simp
  omega
structure GBd (w:World) (base gg cap:Nat) (vs:List Value) (N:Nat) (rs:List (Nat×Nat×Rat)):Prop where
 ln:vs.length=N
 rw:jG w gg 65 1 cap (sls vs)
 gl:base<=gg
 rows: ∀i,i<N->y9 w base 67 4 (vs.getD i (.slice none 0 0)) (ros (zH rs i))
 ap: ∀i j q,i<N->j<N->(vs.getD i (.slice none 0 0)).ownBlock=some q->(vs.getD j (.slice none 0 0)).ownBlock=some q->i=j
theorem GBd.ne {w:Wm} {base gg cap N:Nat} {vs:List Wn} {rs:List (Nat×Nat×Rat)} (h:GBd w base gg cap vs N rs) {i q:Nat} (hi:i<N) (hq:(vs.getD i (.slice none 0 0)).ownBlock=some q):q≠gg/\base<=q/\q<w.heap.size:=by
 obtain ⟨hb,c,h1,_⟩:=qO (h.rows i hi) hq
 exact ⟨z9 h1 h.rw.at.choose_spec dB,hb,(zUc.1 h1).1⟩
theorem GBd.keep {w w':Wm} {base gg cap N:Nat} {vs:List Wn} {rs:List (Nat×Nat×Rat)} (h:GBd w base gg cap vs N rs) (hb: ∀q,base<=q->q<w.heap.size->(∃c t z,w.heap[q]?=some (.cells c t z))->w'.heap[q]?=w.heap[q]?) (hk:yL w w'):GBd w' base gg cap vs N rs:=
 ⟨h.ln,h.rw.keep (hb gg h.gl h.rw.lt ⟨_,_,_,h.rw.at.choose_spec⟩) hk,h.gl,fun i hi=>(h.rows i hi).keep (fun q hq=>by
  obtain ⟨g1,c,g2,_⟩:=qO (h.rows i hi) hq
  exact hb q g1 (h.ne hi hq).2.2 ⟨_,_,_,g2⟩) hk,h.ap⟩
theorem GBd.below {w w':Wm} {base gg cap N:Nat} {vs:List Wn} {rs:List (Nat×Nat×Rat)} (h:GBd w base gg cap vs N rs) (hb:Below w.heap.size w w'):GBd w' base gg cap vs N rs:=h.keep (fun q _ hq _=>hb.block q hq) (zK hb)
theorem GBd.gm {w:Wm} {base gg cap N:Nat} {vs:List Wn} {rs:List (Nat×Nat×Rat)} (h:GBd w base gg cap vs N rs) (hb:0<base):GM w gg cap vs (glN N rs):=
 ⟨by rw [h.ln,zAi],h.rw,by have:=h.gl;omega,fun i hi=>by
  rw [zAi] at hi
  rw [zDz rs hi]
  exact (h.rows i hi).mono hb⟩
theorem GBd.new {w:Wm} {base gg cap N:Nat} (hr:jG w gg 65 1 cap (List.replicate N (wB [.slice none 0 0]))) (hg:base<=gg):GBd w base gg cap (List.replicate N (.slice none 0 0)) N []:=by
 have e: ∀i,i<N->(List.replicate N (Value.slice none 0 0)).getD i (.slice none 0 0)= .slice none 0 0:=fun i hi=>by simp [hi]
 refine ⟨by simp,by unfold sls;rw [List.map_replicate];exact hr,hg,fun i hi=> ?_,fun i j q hi hj h1 _=> ?_⟩
 ·rw [e i hi]
  exact y9.nil _ _ _ _
 ·rw [e i hi] at h1
  simp [Value.ownBlock] at h1
theorem zHa {l:List Wn} {i a:Nat} {v d:Wn} (ha:a<l.length):(l.set a v).getD i d=if i=a then v else l.getD i d:=by
 by_cases h:i=a
 ·subst h;rw [if_pos rfl];simp [ha]
 ·rw [if_neg h];simp [List.getElem?_set_ne (Ne.symm h)]
theorem GBd.add {w U V:Wm} {base gg cap N:Nat} {vs:List Wn} {rs:List (Nat×Nat×Rat)} (h:GBd w base gg cap vs N rs) {a:Nat} (ha:a<N) {v':Wn} {x:Nat×Rat} (hb1:BlS (fun q=>(vs.getD a (.slice none 0 0)).ownBlock=some q) w U) (k1:yL w U) (hv:y9 U base 67 4 v' (ros (zH rs a)++ [CU.agg (fRo x)])) (ho:v'.ownBlock=(vs.getD a (.slice none 0 0)).ownBlock∨ ∃q,v'.ownBlock=some q/\w.heap.size<=q) (hb2:BlS (fun q=>q=gg) U V) (k2:yL U V) (hr:jG V gg 65 1 cap (sls (vs.set a v'))):GBd V base gg cap (vs.set a v') N (rs++ [(a,x)]):=by
 have hal:a<vs.length:=by rw [h.ln];exact ha
 have hgU:U.heap[gg]?=w.heap[gg]?:=hb1.block gg h.rw.lt fun hh=>(h.ne ha hh).1 rfl
 have hgt:=hgU.trans h.rw.at.choose_spec
 refine ⟨by rw [List.length_set];exact h.ln,hr,h.gl,fun i hi=> ?_,fun i j q hi hj h1 h2=> ?_⟩
 ·rw [zHa hal,zL4,zL3]
  by_cases e:i=a
  ·subst e
   rw [if_pos rfl,if_pos rfl]
   unfold ros
   rw [zUK]
   refine hv.keep (fun q hq=>hb2.block q (hv.lt q hq).2 ?_) k2
   obtain ⟨_,c,g1,_⟩:=qO hv hq
   exact z9 g1 hgt dB
  ·rw [if_neg e,if_neg (fun k=>e k.symm),List.append_nil]
   have hR:=h.rows i hi
   refine hR.keep (fun q hq=> ?_) (k1.trans k2)
   obtain ⟨n1,n2,n3⟩:=h.ne hi hq
   exact (hb2.block q (Nat.lt_of_lt_of_le n3 hb1.size) n1).trans (hb1.block q n3 fun hh=>e (h.ap _ _ _ hi ha hq hh))
 ·rw [zHa hal] at h1 h2
  have hnew: ∀j,j<N->j≠a->v'.ownBlock=some q->(vs.getD j (.slice none 0 0)).ownBlock=some q->False:=fun j hj hja g1 g2=>by
   rcases ho with ho|⟨q',e',hq'⟩
   ·exact hja (h.ap _ _ _ hj ha g2 (ho.symm.trans g1))
   ·obtain rfl:q'=q:=by rw [e'] at g1;exact zUk g1
    have:=(h.ne hj g2).2.2
    omega
  by_cases e:i=a<;>by_cases e':j=a
  ·rw [e,e']
  ·rw [if_pos e] at h1;rw [if_neg e'] at h2
   exact (hnew j hj e' h1 h2).elim
  ·rw [if_neg e] at h1;rw [if_pos e'] at h2
   exact (hnew i hi e h2 h1).elim
  ·rw [if_neg e] at h1;rw [if_neg e'] at h2
   exact h.ap _ _ _ hi hj h1 h2
def AdE (w:Wm) (base gg cap N b9 oa ob a b:Nat) (VA:Wn) (Cs:List CU) (far:Rat):Nat->Wn->Wm->Prop
 |0,v,_=>v= .slice (some ⟨gg,0,none⟩) N cap
 |1,v,_=>v= pO b9 oa
 |2,v,_=>v= .int .i64 (a:Int)
 |3,v,_=>v= .slice (some ⟨gg,0,none⟩) N cap
 |4,v,_=>v= pO b9 oa
 |5,v,_=>v= .int .i64 (a:Int)
 |6,v,_=>v= .pointer (some ⟨gg,a*1,none⟩)
 |7,v,_=>v=VA
 |8,v,_=>v= pO b9 ob
 |9,v,_=>v= .int .i64 (b:Int)
 |10,v,U=>QNp far v U
 |11,v,U=>(fRo (b,far)).p v U
 |12,v,U=> ∃g,v= .slice (some ⟨g,0,none⟩) 1 1/\w.heap.size<=g/\jG U g 67 4 1 [CU.agg (fRo (b,far))]
 |13,v,U=>y9 U base 67 4 v (Cs++ [CU.agg (fRo (b,far))])/\(v.ownBlock=VA.ownBlock∨ ∃q,v.ownBlock=some q/\w.heap.size<=q)
 |_,_,_=>True
structure AdC (w:World) (base:Nat) (VA:Value) (Cs:List CU) (l:Array Bool) (U:World):Prop where
 fr:BlS (fun q=>VA.ownBlock=some q) w U
 kp:yL w U
 ca:l.getD 13 false=false->y9 U base 67 4 VA Cs
def AdR (VA:Wn) (i:Nat) (U V:Wm):Prop:=BlS (fun q=>i=13/\VA.ownBlock=some q) U V/\yL U V
theorem AdR.no {VA:Wn} {i:Nat} {U V:Wm} (h:Below U.heap.size U V):AdR VA i U V:=⟨jZ h,zK h⟩
theorem AdC.next {w:Wm} {base:Nat} {VA:Wn} {Cs:List CU} {i:Nat} {l:Array Bool} {U V:Wm} (hi:i<l.size) (h:AdC w base VA Cs l U) (hR:AdR VA i U V):AdC w base VA Cs (l.setIfInBounds i true) V:=by
 refine ⟨h.fr.comp (hR.1.sub fun q hq=>hq.2),h.kp.trans hR.2,fun e=> ?_⟩
 obtain ⟨e1,e2⟩:=zKf hi e
 have:=h.ca e2
 exact this.keep (fun q hq=>hR.1.block q (this.lt q hq).2 fun hh=>e1 hh.1) hR.2
theorem AdE.keep {w:Wm} {base gg cap N b9 oa ob a b:Nat} {VA:Wn} {Cs:List CU} {far:Rat} (hva: ∀q,VA.ownBlock=some q->q<w.heap.size) {i j:Nat} {v:Wn} {U V:Wm} (hij:i≠j) (hj:j<14) (h:AdE w base gg cap N b9 oa ob a b VA Cs far j v U) (hR:AdR VA i U V):AdE w base gg cap N b9 oa ob a b VA Cs far j v V:=by
 match j,hj,h with
 |0,_,h=>exact h
 |1,_,h=>exact h
 |2,_,h=>exact h
 |3,_,h=>exact h
 |4,_,h=>exact h
 |5,_,h=>exact h
 |6,_,h=>exact h
 |7,_,h=>exact h
 |8,_,h=>exact h
 |9,_,h=>exact h
 |10,_,h=>exact (fQN far).us _ _ _ h hR.2
 |11,_,h=>exact (fRo (b,far)).us _ _ _ h hR.2
 |12,_,⟨g,e,hg,hr⟩=>exact ⟨g,e,hg,hr.keep (hR.1.block g hr.lt fun hh=>by have:=hva _ hh.2;omega) hR.2⟩
 |13,_,⟨hr,ho⟩=>exact ⟨hr.keep (fun q hq=>hR.1.block q (hr.lt q hq).2 fun hh=>hij hh.1) hR.2,ho⟩
theorem zKr {w:Wm} {g cap i:Nat} {e:Wp} {Cs:List CU} {v:Wn} (h:jG w g e 1 cap Cs) (hi:Cs[i]?=some (wB [v])): ∃cs:List Wn,w.heap[g]?=some (.cells cs.toArray e (0,0))/\cs[i*1]?=some v:=by
 obtain ⟨cur,h1,_,_,_,_,h6⟩:=h
 have h7:(cur.toList.drop (i*1)).take 1= [v]:=h6 i _ hi
 refine ⟨cur.toList,by rw [zUV];exact h1, ?_⟩
 have h8:=zUf (fun l:List Wn=>l[0]?) h7
 simpa [List.getElem?_take,List.getElem?_drop] using h8
theorem zKo {P:Ws} {a:Act} {d:Wq Tmp} {t ty:Wp} {i j:Nat} {pos:String} {aft:Array Edge} {gd:Wq (Nat×Bool)} {x y:Wr} {cells:Array Wn} {U:Wm} (h:P.built t [(i,a.eval x),(j,a.eval y)]=some cells):(execOp a.eval ⟨d, .build t #[(i,x),(j,y)],ty,pos,aft,gd⟩).run P U= .ok (.value (.agg cells)) U:=by
 have h1:P.built t ((#[(i,x),(j,y)]:Array (Nat×Wr)).map fun (i,x)=>(i,a.eval x)).toList=some cells:=by simpa using h
 simp only [execOp,zUC,run_build U t _ cells h1,zUR,zUI]
theorem zEo {P:Ws} {a:Act} {d:Wq Tmp} {ty:Wp} {pos:String} {aft:Array Edge} {gd:Wq (Nat×Bool)} {x:Wr} {v:Wn} {U:Wm} (h:a.eval x=v):(execOp a.eval ⟨d, .move x,ty,pos,aft,gd⟩).run P U= .ok (.value v) U:=by
 simp [execOp,h]
theorem zOe {x:Nat×Rat} {u:Wn} {W:Wm} (hu:(fRo x).p u W): ∃cs,zS prog 65 1 [(0,u)]=some (67,cs)/\jG (W.alloc (.cells cs 67)) W.heap.size 67 4 1 [CU.agg (fRo x)]:=by
 obtain ⟨s,A,n,c,A',n',c',rfl,h1⟩:=hu
 refine ⟨_,zSf _ _ _ _ _ _ _ _,_,zUz W _,zUs _,by decide,rfl,rfl,fun i C hi=> ?_⟩
 cases i with
 |zero=>
  obtain rfl:CU.agg (fRo x)=C:=by simpa using hi
  exact ⟨s,A,n,c,A',n',c',rfl,(fQN x.2).us _ _ _ h1 (zK (jQ W _))⟩
 |succ i=>simp at hi
theorem zPU {F:Fence} {m:Nat} {P:Ws} {w0:Wm} {ops:Array Oper} {G:Nat->SF} {d:Tmp} {ty:Wp} {pos:String} {aft:Array Edge} {x y:Wr} {ats:Array Wp} (u v:Int) (hx: ∀q W,(fct G x).p q W->q= .int .i64 u) (hy: ∀q W,(fct G y).p q W->q= .int .i64 v) (hd: ∀W,(G d).p (.int .i64 (max u v)) W:=by exact fun _=>rfl):qB F m P w0 ops G ⟨some d, .call ⟨.builtin .max,#[x,y],ats⟩,ty,pos,aft,none⟩:=by
 intro b W K Q hb hr hK
 have e1:=hx _ _ (y6 hr (x:=x) (by simp [Op.operands,Call.operands]))
 have e2:=hy _ _ (y6 hr (x:=y) (by simp [Op.operands,Call.operands]))
 refine ⟨fun f hf=>(by
  unfold Oper.about at hf
  simp [resolve,go_sem] at hf), ?_⟩
 rw [Oper.semAt_eq _ _ _ (fun _ e=>by cases e)]
 have:(execOp b.eval ⟨some d, .call ⟨.builtin .max,#[x,y],ats⟩,ty,pos,aft,none⟩).run P W= .ok (.value (.int .i64 (max u v))) W:=by
  have h:max u v=if u<v then v else u:=by split<;>omega
  simp [execOp,resolve,invoke,builtin,e1,e2,Builtin.max_,Builtin.max2,h]
 rw [this]
 exact hK _ _ (fun d' e'=>by cases e';exact hd _) (zUn _ _)
theorem zIj (q:Rat):decide (q.num.sign>0)=decide (0<q):=by
 have h0:0<q↔0<q.num:=by rw [Rat.lt_iff];simp
 rw [decide_eq_decide,h0]
 constructor
 ·intro h;exact Int.sign_eq_one_iff_pos.1 (by have:=Int.sign_trichotomy q.num;omega)
 ·intro h;rw [Int.sign_eq_one_of_pos h];decide
end Go.Proofs.Wd

namespace Go.Proofs.Wd
open Tryz
set_option maxRecDepth 100000
set_option maxHeartbeats 1000000
open Go.RowKit Lb
def fG (G:List (List (Nat×Rat))):SF:=⟨fun v w=> ∃gg cap vs,v= .slice (some ⟨gg,0,none⟩) G.length cap/\GM w gg cap vs G,fun _ _ _ ⟨gg,cap,vs,e,h⟩ hb=>⟨gg,cap,vs,e,h.below hb⟩⟩
theorem zQt {W:Wm} {n:Int} {N:Nat} {js:List (Int×Int)} {fs:List Rat} {u lj lf:Wn} (hu:u= .int .i64 n) (hj:(SF.row 2 (jns js)).p lj W) (hf:(SF.row 3 (rvs 1 fs)).p lf W) (hNz:min (max n 0) 131072=(N:Int)) (hNs:N<=1000) (hjl:js.length<=1000) (hT:Tab W):Calls prog 29 #[u,lj,lf] W (Ret W (fG (glN N (rds N js fs)))):=by
 have hFr:Below W.heap.size W W:=zUn _ _
 refine qH [(uI n).tS,(UF.eq lj).tS,(UF.eq lf).tS] func29 rfl kI ⟨hu,rfl,rfl,trivial⟩ fun a s=> ?_
 replace s:=s.renew [(0, .u (uI n)),(1, .u (UF.eq lj)),(2, .u (UF.eq lf))] (fmz ⟨.inr ⟨_,rfl, .head _⟩,fmz ⟨.inr ⟨_,rfl,mz1⟩,fmz ⟨.inr ⟨_,rfl,mz2⟩,fnz⟩⟩⟩)
 refine zUb ?_
 refine zC 1 ((6, .u (UF.eq (.slice none 0 0))):: []) hmix s kI
  (oc zG<|zE) fun a w1 s=> ?_
 refine zB rfl ?_
 refine zUb ?_
 refine zC 3 ((11, .Z (uI n))::(12, .Z (uI (max n 0)))::(13, .u (uI (N:Int))):: []) hmix s kI
  (oc zA<|oc (zPU n 0 iiz iiz)<|oc (zPT (max n 0) 131072 iiz iiz (hd:=fun _=>zUf (Value.int .i64) hNz))<|zE) fun a w2 s=> ?_
 have hb:=s.below
 replace hFr:=hFr.trans (hb.mono hFr.size)
 replace s:=s.anewB rfl rfl
 refine zO9 (nn:=N) (z:=1) (e:=65) (zs:= [.slice none 0 0]) (wB [.slice none 0 0]) s rfl kI kI kI rfl rfl oP (fun W=>rfl) (s.fct (.tmp 13)) (s.fct (.tmp 13)) fun gg a w egg hb hD s=> ?_
 have hgg:W.heap.size<=gg:=by rw [egg];exact hFr.size
 replace hFr:=hFr.trans (hb.mono hFr.size)
 have hGB:=GBd.new hD hgg
 refine qN (UF.eq (.slice (some ⟨gg,0,none⟩) N N)) rfl s kI iiz fun a w s=> ?_
 refine zB rfl ?_
 refine zUb ?_
 refine zUb ?_
 have hjw:=(SF.row 2 (jns js)).st _ _ _ hj hFr
 refine zC 3 ((15, .u (UF.eq lj))::(16, .u (uI ((jns js).length:Int)))::(17, .u (uI 0)):: []) hmix s kI
  (oc zA<|oc (qK (z:=2) (Cs:=jns js) kI (fun v W hb h=>(yT hjw h (s.up hb))) (fun _=>rfl))<|oc zA<|zE) fun a w3 s=> ?_
 refine zB rfl ?_
 refine zUd ?_
 have hb:=s.below
 replace hFr:=hFr.trans (hb.mono hFr.size)
 replace hGB:=hGB.below hb
 replace s:=s.anewB rfl rfl
 refine yM (fun (y:Nat×List Wn) a w=>y.1<=js.length/\Below W.heap.size W w/\GBd w W.heap.size gg N y.2 N (zAC N js fs y.1)/\St w [(2, .u (UF.eq lf)),(7, .u (UF.eq (.slice (some ⟨gg,0,none⟩) N N))),(15, .u (UF.eq lj)),(16, .u (uI ((jns js).length:Int))),(17, .u (uI (y.1:Int)))] [] f29.ntmps [] a w) (fun y=>js.length - y.1) (0,List.replicate N (.slice none 0 0)) ⟨zUl _,hFr,hGB,s.keepK _ (fmz ⟨mz9,fmz ⟨mz3,fmz ⟨.head _,fmz ⟨mz1,fmz ⟨mz2,fnz⟩⟩⟩⟩⟩)⟩ fun y a wl hx=> ?_
 clear hFr hGB
 obtain ⟨hk,hFr,hGB,s⟩:=hx
 have hTw:=hT.below hFr
 have hjw:=(SF.row 2 (jns js)).st _ _ _ hj hFr
 have hfw:=(SF.row 3 (rvs 1 fs)).st _ _ _ hf hFr
 refine zUb ?_
 refine zC 1 ((18, .u (uB (decide ((y.1:Int)<((jns js).length:Int))))):: []) hmix s kI
  (oc (zP .i64 (y.1:Int) ((jns js).length:Int) (decide ((y.1:Int)<((jns js).length:Int))) iiz iiz rfl rfl)<|zE) fun a w4 s=> ?_
 refine zB rfl ?_
 refine zUb ?_
 refine StS.cond s (decide ((y.1:Int)<((jns js).length:Int))) iiz (fun e=> ?_) (fun e=> ?_)
 ·have hkl:y.1<js.length:=by have h7:=zUj e;simp only [zUe] at h7;omega
  refine zUg ?_
  refine zUb ?_
  refine zUd ?_
  refine zUb ?_
  refine zC 3 ((19, .u (uI (y.1:Int)))::(20, .Y (fJn (js.getD y.1 (0,0))))::(21, .u (fJn (js.getD y.1 (0,0)))):: []) hmix s kI
   (oc zA<|oc (zT (z:=2) (Cs:=jns js) (i:=y.1) (C:=CU.agg (fJn (js.getD y.1 (0,0)))) kI (zHV hkl) (fun v W hb h=>(yT hjw h (s.up hb))) iiz)<|oc (yP (f:=fJn (js.getD y.1 (0,0))) 2 kI (hz:=zOG _))<|zE) fun a w5 s=> ?_
  refine qJ (CU.len 2) (cs:= [.int .i64 0, .int .i64 0]) kI rfl s kI (fun W=>rfl) rfl fun b9 a w s=> ?_
  refine qN (uI (y.1:Int)) rfl s kI iiz fun a w s=> ?_
  refine yY (CU.agg (fJn (js.getD y.1 (0,0)))) ((fJn (js.getD y.1 (0,0))).tS) rfl s kI rfl rfl rfl iiz iiz zNw fun a w s=> ?_
  refine zB rfl ?_
  refine zUb ?_
  refine zUb ?_
  refine zC 19 ((22, .X (fJn (js.getD y.1 (0,0))) 0)::(23, .Z (uI ((js.getD y.1 (0,0)).1)))::(24, .X (fJn (js.getD y.1 (0,0))) 1)::(25, .Z (uI ((js.getD y.1 (0,0)).2)))::(26, .Z (uB ((js.getD y.1 (0,0)).1==(js.getD y.1 (0,0)).2)))::(27, .Z (uB ((js.getD y.1 (0,0)).1==(js.getD y.1 (0,0)).2)))::(28, .s (SF.imp (((js.getD y.1 (0,0)).1==(js.getD y.1 (0,0)).2)=false) ((UF.eq (.slice (some ⟨gg,0,none⟩) N N)).tS)))::(29, .s (SF.imp (((js.getD y.1 (0,0)).1==(js.getD y.1 (0,0)).2)=false) (wC ((CU.agg (fJn (js.getD y.1 (0,0)))).cf.at 0))))::(30, .s (SF.imp (((js.getD y.1 (0,0)).1==(js.getD y.1 (0,0)).2)=false) ((uI ((js.getD y.1 (0,0)).1)).tS)))::(31, .s (SF.imp (((js.getD y.1 (0,0)).1==(js.getD y.1 (0,0)).2)=false) ((uB (yS N (js.getD y.1 (0,0)).1)).tS)))::(32, .s (SF.imp (((js.getD y.1 (0,0)).1==(js.getD y.1 (0,0)).2)=false) ((uB (!(yS N (js.getD y.1 (0,0)).1))).tS)))::(33, .Z (uB (((js.getD y.1 (0,0)).1==(js.getD y.1 (0,0)).2)||(!(yS N (js.getD y.1 (0,0)).1)))))::(34, .Z (uB (((js.getD y.1 (0,0)).1==(js.getD y.1 (0,0)).2)||(!(yS N (js.getD y.1 (0,0)).1)))))::(35, .s (SF.imp ((((js.getD y.1 (0,0)).1==(js.getD y.1 (0,0)).2)||(!(yS N (js.getD y.1 (0,0)).1)))=false) ((UF.eq (.slice (some ⟨gg,0,none⟩) N N)).tS)))::(36, .s (SF.imp ((((js.getD y.1 (0,0)).1==(js.getD y.1 (0,0)).2)||(!(yS N (js.getD y.1 (0,0)).1)))=false) (wC ((CU.agg (fJn (js.getD y.1 (0,0)))).cf.at 1))))::(37, .s (SF.imp ((((js.getD y.1 (0,0)).1==(js.getD y.1 (0,0)).2)||(!(yS N (js.getD y.1 (0,0)).1)))=false) ((uI ((js.getD y.1 (0,0)).2)).tS)))::(38, .s (SF.imp ((((js.getD y.1 (0,0)).1==(js.getD y.1 (0,0)).2)||(!(yS N (js.getD y.1 (0,0)).1)))=false) ((uB (yS N (js.getD y.1 (0,0)).2)).tS)))::(39, .s (SF.imp ((((js.getD y.1 (0,0)).1==(js.getD y.1 (0,0)).2)||(!(yS N (js.getD y.1 (0,0)).1)))=false) ((uB (!(yS N (js.getD y.1 (0,0)).2))).tS)))::(40, .u (uB ((((js.getD y.1 (0,0)).1==(js.getD y.1 (0,0)).2)||(!(yS N (js.getD y.1 (0,0)).1)))||(!(yS N (js.getD y.1 (0,0)).2))))):: []) hmix s kI
   (oc (zW (C:=cg (fJn (js.getD y.1 (0,0)))) 0 kI)<|oc (yW (C:=cg (fJn (js.getD y.1 (0,0)))) (k:=0) kI (h:=zSC))<|oc (zW (C:=cg (fJn (js.getD y.1 (0,0)))) 1 kI)<|oc (yW (C:=cg (fJn (js.getD y.1 (0,0)))) (k:=1) kI (h:=zSB))<|oc (zP .i64 ((js.getD y.1 (0,0)).1) ((js.getD y.1 (0,0)).2) ((js.getD y.1 (0,0)).1==(js.getD y.1 (0,0)).2) iiz iiz rfl rfl)<|oc zA<|oc (zD 27 ((js.getD y.1 (0,0)).1==(js.getD y.1 (0,0)).2) kI iiz (fun e=>zL [] ((UF.eq (.slice (some ⟨gg,0,none⟩) N N)).tS) fnz (fun _ _ h _=>h) kI zA) (fun e W h=>absurd h e))<|oc (zD 27 ((js.getD y.1 (0,0)).1==(js.getD y.1 (0,0)).2) kI iiz (fun e=>zL [] (wC ((CU.agg (fJn (js.getD y.1 (0,0)))).cf.at 0)) fnz (fun _ _ h _=>h) kI (zW (C:=cg (fJn (js.getD y.1 (0,0)))) 0 kI)) (fun e W h=>absurd h e))<|oc (zD 27 ((js.getD y.1 (0,0)).1==(js.getD y.1 (0,0)).2) kI iiz (fun e=>zL [(29,wC ((CU.agg (fJn (js.getD y.1 (0,0)))).cf.at 0))] ((uI ((js.getD y.1 (0,0)).1)).tS) (fmz ⟨fun v W h=>zI (c:=((js.getD y.1 (0,0)).1==(js.getD y.1 (0,0)).2)=false) (f:=wC ((CU.agg (fJn (js.getD y.1 (0,0)))).cf.at 0)) e h,fnz⟩) (fun _ _ h _=>h) kI (yW (C:=cg (fJn (js.getD y.1 (0,0)))) (k:=0) kI (h:=zSC))) (fun e W h=>absurd h e))<|oc (zD 27 ((js.getD y.1 (0,0)).1==(js.getD y.1 (0,0)).2) kI iiz (fun e=>zL [(28,(UF.eq (.slice (some ⟨gg,0,none⟩) N N)).tS),(30,(uI ((js.getD y.1 (0,0)).1)).tS)] ((uB (yS N (js.getD y.1 (0,0)).1)).tS) (fmz ⟨fun v W h=>zI (c:=((js.getD y.1 (0,0)).1==(js.getD y.1 (0,0)).2)=false) (f:=(UF.eq (.slice (some ⟨gg,0,none⟩) N N)).tS) e h,fmz ⟨fun v W h=>zI (c:=((js.getD y.1 (0,0)).1==(js.getD y.1 (0,0)).2)=false) (f:=(uI ((js.getD y.1 (0,0)).1)).tS) e h,fnz⟩⟩) (fun _ _ h _=>h) kI (yB zF zLJ (fun u0 u1 W hb (h0:u0=(.slice (some ⟨gg,0,none⟩) N N)) (h1:u1= .int .i64 ((js.getD y.1 (0,0)).1))=>zLv h0 h1))) (fun e W h=>absurd h e))<|oc (zD 27 ((js.getD y.1 (0,0)).1==(js.getD y.1 (0,0)).2) kI iiz (fun e=>zL [(31,(uB (yS N (js.getD y.1 (0,0)).1)).tS)] ((uB (!(yS N (js.getD y.1 (0,0)).1))).tS) (fmz ⟨fun v W h=>zI (c:=((js.getD y.1 (0,0)).1==(js.getD y.1 (0,0)).2)=false) (f:=(uB (yS N (js.getD y.1 (0,0)).1)).tS) e h,fnz⟩) (fun _ _ h _=>h) kI (zAT (yS N (js.getD y.1 (0,0)).1) iiz (fun _=>rfl))) (fun e W h=>absurd h e))<|oc (yE ((js.getD y.1 (0,0)).1==(js.getD y.1 (0,0)).2) iiz (fun e v W h=>zAV h e) (fun e v W h=>zAe (zI e h) e))<|oc zA<|oc (zD 34 (((js.getD y.1 (0,0)).1==(js.getD y.1 (0,0)).2)||(!(yS N (js.getD y.1 (0,0)).1))) kI iiz (fun e=>zL [] ((UF.eq (.slice (some ⟨gg,0,none⟩) N N)).tS) fnz (fun _ _ h _=>h) kI zA) (fun e W h=>absurd h e))<|oc (zD 34 (((js.getD y.1 (0,0)).1==(js.getD y.1 (0,0)).2)||(!(yS N (js.getD y.1 (0,0)).1))) kI iiz (fun e=>zL [] (wC ((CU.agg (fJn (js.getD y.1 (0,0)))).cf.at 1)) fnz (fun _ _ h _=>h) kI (zW (C:=cg (fJn (js.getD y.1 (0,0)))) 1 kI)) (fun e W h=>absurd h e))<|oc (zD 34 (((js.getD y.1 (0,0)).1==(js.getD y.1 (0,0)).2)||(!(yS N (js.getD y.1 (0,0)).1))) kI iiz (fun e=>zL [(36,wC ((CU.agg (fJn (js.getD y.1 (0,0)))).cf.at 1))] ((uI ((js.getD y.1 (0,0)).2)).tS) (fmz ⟨fun v W h=>zI (c:=(((js.getD y.1 (0,0)).1==(js.getD y.1 (0,0)).2)||(!(yS N (js.getD y.1 (0,0)).1)))=false) (f:=wC ((CU.agg (fJn (js.getD y.1 (0,0)))).cf.at 1)) e h,fnz⟩) (fun _ _ h _=>h) kI (yW (C:=cg (fJn (js.getD y.1 (0,0)))) (k:=1) kI (h:=zSB))) (fun e W h=>absurd h e))<|oc (zD 34 (((js.getD y.1 (0,0)).1==(js.getD y.1 (0,0)).2)||(!(yS N (js.getD y.1 (0,0)).1))) kI iiz (fun e=>zL [(35,(UF.eq (.slice (some ⟨gg,0,none⟩) N N)).tS),(37,(uI ((js.getD y.1 (0,0)).2)).tS)] ((uB (yS N (js.getD y.1 (0,0)).2)).tS) (fmz ⟨fun v W h=>zI (c:=(((js.getD y.1 (0,0)).1==(js.getD y.1 (0,0)).2)||(!(yS N (js.getD y.1 (0,0)).1)))=false) (f:=(UF.eq (.slice (some ⟨gg,0,none⟩) N N)).tS) e h,fmz ⟨fun v W h=>zI (c:=(((js.getD y.1 (0,0)).1==(js.getD y.1 (0,0)).2)||(!(yS N (js.getD y.1 (0,0)).1)))=false) (f:=(uI ((js.getD y.1 (0,0)).2)).tS) e h,fnz⟩⟩) (fun _ _ h _=>h) kI (yB zF zLJ (fun u0 u1 W hb (h0:u0=(.slice (some ⟨gg,0,none⟩) N N)) (h1:u1= .int .i64 ((js.getD y.1 (0,0)).2))=>zLv h0 h1))) (fun e W h=>absurd h e))<|oc (zD 34 (((js.getD y.1 (0,0)).1==(js.getD y.1 (0,0)).2)||(!(yS N (js.getD y.1 (0,0)).1))) kI iiz (fun e=>zL [(38,(uB (yS N (js.getD y.1 (0,0)).2)).tS)] ((uB (!(yS N (js.getD y.1 (0,0)).2))).tS) (fmz ⟨fun v W h=>zI (c:=(((js.getD y.1 (0,0)).1==(js.getD y.1 (0,0)).2)||(!(yS N (js.getD y.1 (0,0)).1)))=false) (f:=(uB (yS N (js.getD y.1 (0,0)).2)).tS) e h,fnz⟩) (fun _ _ h _=>h) kI (zAT (yS N (js.getD y.1 (0,0)).2) iiz (fun _=>rfl))) (fun e W h=>absurd h e))<|oc (yE (((js.getD y.1 (0,0)).1==(js.getD y.1 (0,0)).2)||(!(yS N (js.getD y.1 (0,0)).1))) iiz (fun e v W h=>zAV h e) (fun e v W h=>zAe (zI e h) e))<|zE) fun a w6 s=> ?_
  refine zB rfl ?_
  refine StS.cond s ((((js.getD y.1 (0,0)).1==(js.getD y.1 (0,0)).2)||(!(yS N (js.getD y.1 (0,0)).1)))||(!(yS N (js.getD y.1 (0,0)).2))) iiz (fun e=> ?_) (fun e=> ?_)
  ·have hjo:zB0 N (js.getD y.1 (0,0))=false:=by unfold zB0;rw [zUW];simpa [or_assoc] using e
   refine zUm ?_
   refine yI 1 ((89, .u (uI ((y.1+1:Nat):Int))):: []) s kI
    (oc (qX .i64 (y.1:Int) 1 ((y.1+1:Nat):Int) iiz iiz (wrap64 _ _ oP oP))<|zE) fun a w7 s=> ?_
   replace s:=s.drop [17]
   refine zCr (uI ((y.1+1:Nat):Int)) rfl s kI zA kI fun a w s=> ?_
   refine zB rfl ?_
   have hb:=s.below
   replace hFr:=hFr.trans (hb.mono hFr.size)
   replace hGB:=hGB.below hb
   replace s:=s.popB
   replace s:=s.anewB rfl rfl
   have hgs:zAC N js fs (y.1+1)=zAC N js fs y.1:=by rw [zDq];unfold zFG;rw [hjo];simp
   exact ⟨(y.1+1,y.2),(by show js.length - (y.1+1)<js.length - y.1;omega),hkl,hFr,(by rw [hgs];exact hGB),s.keepK _ (fmz ⟨mz7,fmz ⟨mz8,fmz ⟨mz9,fmz ⟨zGo,fmz ⟨.head _,fnz⟩⟩⟩⟩⟩)⟩
  ·have hjo:zB0 N (js.getD y.1 (0,0))=true:=by unfold zB0;simpa using e
   refine zUg ?_
   refine zUb ?_
   refine zC 1 ((41, .u (fQN 0)):: []) hmix s kI
    (oc (zM zF zNH (fun u0 W hb (h0:u0= .int .i64 0)=>zIu h0))<|zE) fun a w8 s=> ?_
   refine qJ (CU.len 3) (cs:=zR3) kI rfl s kI (fun W=>rfl) rfl fun b10 a w s=> ?_
   refine yY (CU.agg (fQN 0)) ((fQN 0).tS) rfl s kI rfl rfl rfl iiz iiz qP fun a w s=> ?_
   refine zB rfl ?_
   refine zUb ?_
   refine zUb ?_
   refine zC 12 ((42, .Z (uI (y.1:Int)))::(43, .Z (UF.eq lf))::(44, .Z (uI ((rvs 1 fs).length:Int)))::(45, .Z (uB (decide ((y.1:Int)<((rvs 1 fs).length:Int)))))::(46, .Z (uB (decide ((y.1:Int)<((rvs 1 fs).length:Int)))))::(47, .s (SF.imp ((decide ((y.1:Int)<((rvs 1 fs).length:Int)))=true) ((UF.eq lf).tS)))::(48, .s (SF.imp ((decide ((y.1:Int)<((rvs 1 fs).length:Int)))=true) ((uI (y.1:Int)).tS)))::(49, .s (SF.imp ((decide ((y.1:Int)<((rvs 1 fs).length:Int)))=true) (wC (cg (fRV 1 (fs.getD y.1 0))))))::(50, .s (SF.imp ((decide ((y.1:Int)<((rvs 1 fs).length:Int)))=true) ((fRV 1 (fs.getD y.1 0)).tS)))::(51, .s (SF.imp ((decide ((y.1:Int)<((rvs 1 fs).length:Int)))=true) ((uI ((fs.getD y.1 0).num.sign)).tS)))::(52, .s (SF.imp ((decide ((y.1:Int)<((rvs 1 fs).length:Int)))=true) ((uB (decide ((fs.getD y.1 0).num.sign>0))).tS)))::(53, .u (uB ((decide ((y.1:Int)<((rvs 1 fs).length:Int)))&&(decide ((fs.getD y.1 0).num.sign>0))))):: []) hmix s kI
    (oc zA<|oc zA<|oc (qK (z:=3) (Cs:=rvs 1 fs) kI (fun v W hb h=>(yT hfw h (s.up hb))) (fun _=>rfl))<|oc (zP .i64 (y.1:Int) ((rvs 1 fs).length:Int) (decide ((y.1:Int)<((rvs 1 fs).length:Int))) iiz iiz rfl rfl)<|oc zA<|oc (zD 46 (decide ((y.1:Int)<((rvs 1 fs).length:Int))) kI iiz (fun e=>zL [] ((UF.eq lf).tS) fnz (fun _ _ h _=>h) kI zA) (fun e W h=>absurd h e))<|oc (zD 46 (decide ((y.1:Int)<((rvs 1 fs).length:Int))) kI iiz (fun e=>zL [] ((uI (y.1:Int)).tS) fnz (fun _ _ h _=>h) kI zA) (fun e W h=>absurd h e))<|oc (zD 46 (decide ((y.1:Int)<((rvs 1 fs).length:Int))) kI iiz (fun e=>zL [(47,(UF.eq lf).tS),(48,(uI (y.1:Int)).tS)] (wC (cg (fRV 1 (fs.getD y.1 0)))) (fmz ⟨fun v W h=>zI (c:=(decide ((y.1:Int)<((rvs 1 fs).length:Int)))=true) (f:=(UF.eq lf).tS) e h,fmz ⟨fun v W h=>zI (c:=(decide ((y.1:Int)<((rvs 1 fs).length:Int)))=true) (f:=(uI (y.1:Int)).tS) e h,fnz⟩⟩) (fun _ _ h _=>h) kI (zT (z:=3) (Cs:=rvs 1 fs) (i:=y.1) (C:=CU.agg (fRV 1 (fs.getD y.1 0))) kI (zDo (k:=y.1) (by first|exact hkf|(have h7:=zUj e;simp only [zUe] at h7;omega))) (fun v W hb h=>(yT hfw h (s.up hb))) iiz)) (fun e W h=>absurd h e))<|oc (zD 46 (decide ((y.1:Int)<((rvs 1 fs).length:Int))) kI iiz (fun e=>zL [(49,wC (cg (fRV 1 (fs.getD y.1 0))))] ((fRV 1 (fs.getD y.1 0)).tS) (fmz ⟨fun v W h=>zI (c:=(decide ((y.1:Int)<((rvs 1 fs).length:Int)))=true) (f:=wC (cg (fRV 1 (fs.getD y.1 0)))) e h,fnz⟩) (fun _ _ h _=>h) kI (yP (f:=fRV 1 (fs.getD y.1 0)) 3 kI (hz:=zBe _ _))) (fun e W h=>absurd h e))<|oc (zD 46 (decide ((y.1:Int)<((rvs 1 fs).length:Int))) kI iiz (fun e=>zL [(50,(fRV 1 (fs.getD y.1 0)).tS)] ((uI ((fs.getD y.1 0).num.sign)).tS) (fmz ⟨fun v W h=>zI (c:=(decide ((y.1:Int)<((rvs 1 fs).length:Int)))=true) (f:=(fRV 1 (fs.getD y.1 0)).tS) e h,fnz⟩) (fun _ _ h _=>h) kI (zM zF zS3 (fun u0 W hb (h0:RVp 1 (fs.getD y.1 0) u0 W)=>zPt (m:=1) h0 dB dB (hTw.below (s.up hb))))) (fun e W h=>absurd h e))<|oc (zD 46 (decide ((y.1:Int)<((rvs 1 fs).length:Int))) kI iiz (fun e=>zL [(51,(uI ((fs.getD y.1 0).num.sign)).tS)] ((uB (decide ((fs.getD y.1 0).num.sign>0))).tS) (fmz ⟨fun v W h=>zI (c:=(decide ((y.1:Int)<((rvs 1 fs).length:Int)))=true) (f:=(uI ((fs.getD y.1 0).num.sign)).tS) e h,fnz⟩) (fun _ _ h _=>h) kI (zP .i64 ((fs.getD y.1 0).num.sign) 0 (decide ((fs.getD y.1 0).num.sign>0)) iiz iiz rfl rfl)) (fun e W h=>absurd h e))<|oc (yE (decide ((y.1:Int)<((rvs 1 fs).length:Int))) iiz (fun e v W h=>zCs (zI e h) e) (fun e v W h=>zBK h e))<|zE) fun a w9 s=> ?_
   refine zB rfl ?_
   refine zTy (fun a w=>St wl [(2, .u (UF.eq lf)),(7, .u (UF.eq (.slice (some ⟨gg,0,none⟩) N N))),(8, .u (uI (y.1:Int))),(15, .u (UF.eq lj)),(16, .u (uI ((jns js).length:Int))),(17, .u (uI (y.1:Int)))] [⟨10,32,CU.agg (fQN (zDj fs y.1)),b10,false⟩,⟨9,47,CU.agg (fJn (js.getD y.1 (0,0))),b9,false⟩] f29.ntmps [] a w) ?_ ?_
   ·refine StS.cond s ((decide ((y.1:Int)<((rvs 1 fs).length:Int)))&&(decide ((fs.getD y.1 0).num.sign>0))) iiz (fun e=> ?_) (fun e=> ?_)
    ·have hkf:y.1<fs.length:=by have h7:=zUj (Bool.and_eq_true_iff.1 e).1;simp only [zUe] at h7;omega
     have hfar:(zDj fs y.1)=(fs.getD y.1 0):=by unfold zDj;rw [if_pos];simp only [zUt,zIj,zUD] at e;exact e.2
     refine zC 5 ((54, .Z (UF.eq lf))::(55, .Z (uI (y.1:Int)))::(56, .Y (fRV 1 (fs.getD y.1 0)))::(57, .Z (fRV 1 (fs.getD y.1 0)))::(58, .u (fQN (fs.getD y.1 0))):: []) hmix s kI
      (oc zA<|oc zA<|oc (zT (z:=3) (Cs:=rvs 1 fs) (i:=y.1) (C:=CU.agg (fRV 1 (fs.getD y.1 0))) kI (zDo (k:=y.1) (by first|exact hkf|(have h7:=zUj e;simp only [zUe] at h7;omega))) (fun v W hb h=>(yT hfw h (s.up hb))) iiz)<|oc (yP (f:=fRV 1 (fs.getD y.1 0)) 3 kI (hz:=zBe _ _))<|oc (zM zF zS2 (fun u0 W hb (h0:RVp 1 (fs.getD y.1 0) u0 W)=>zPu (m:=1) h0 dB dB (hTw.below (s.up hb))))<|zE) fun a w10 s=> ?_
     refine yY (CU.agg (fQN (fs.getD y.1 0))) ((fQN (fs.getD y.1 0)).tS) rfl s kI rfl rfl rfl (jH _) iiz qP fun a w s=> ?_
     refine zB rfl ?_
     rw [hfar]
     exact s.keepK _ (fmz ⟨mz8,fmz ⟨mz9,fmz ⟨mz4,fmz ⟨zGo,fmz ⟨zF2,fmz ⟨zG1,fnz⟩⟩⟩⟩⟩⟩)
    ·have hfar:(zDj fs y.1)=0:=by
      unfold zDj
      refine if_neg fun h0=> ?_
      rw [zIj,decide_eq_true h0,Bool.and_true] at e
      have e6:=zUi e
      simp only [zUe] at e6
      have e7:fs.length<=y.1:=by omega
      rw [zUu,zUX e7] at h0
      exact absurd h0 dB
     refine zUg ?_
     rw [hfar]
     exact s.keepK _ (fmz ⟨mz7,fmz ⟨mz8,fmz ⟨mz3,fmz ⟨mz9,fmz ⟨zGo,fmz ⟨zF2,fnz⟩⟩⟩⟩⟩⟩)
   ·intro a w s
    have hb:=s.below
    replace hFr:=hFr.trans (hb.mono hFr.size)
    replace hGB:=hGB.below hb
    obtain ⟨far,efar⟩: ∃q,(zDj fs y.1)=q:=⟨_,rfl⟩
    rw [efar] at s
    obtain ⟨c10,h10,e10,-⟩:=s.boxAt (c:=10) rfl
    obtain ⟨c9,h9,e9,-⟩:=s.boxAt (c:=9) rfl
    replace h10:w.heap[b10]?=some (.cells c10.toArray 32 (0,0)):=h10
    replace h9:w.heap[b9]?=some (.cells c9.toArray 47 (0,0)):=h9
    replace s:=(s.learn 9 _ (s.bx.mem _ mz1).choose_spec.1).learn 10 _ (s.bx.mem _ (.head _)).choose_spec.1
    replace s:=s.popB
    replace s:=s.popB
    replace s:=s.anewB rfl rfl
    obtain ⟨hl10,hq10⟩:0+3<=c10.length/\QNp far (.agg ((c10.drop 0).take 3).toArray) w:=by have h7:=jH far c10 w e10;exact ⟨by omega,by rw [zUY,zUL oP];exact e10⟩
    have hc9:=zC9 e9
    obtain ⟨hne,hj1,hj2⟩:=zEM hjo
    obtain ⟨ha_,ea'⟩:=jX hj1
    obtain ⟨hb_,eb'⟩:=jX hj2
    obtain ⟨a_,ea⟩: ∃a,(js.getD y.1 (0,0)).1.toNat=a:=⟨_,rfl⟩
    obtain ⟨b_,eb⟩: ∃b,(js.getD y.1 (0,0)).2.toNat=b:=⟨_,rfl⟩
    rw [ea] at ha_ ea'
    rw [eb] at hb_ eb'
    have h9A:c9[0]?=some (.int .i64 (a_:Int)):=by rw [hc9,ea'];rfl
    have h9B:c9[1]?=some (.int .i64 (b_:Int)):=by rw [hc9,eb'];rfl
    have hrl:=zFJ N js fs y.1
    refine zUb ?_
    have hva: ∀q,(y.2.getD a_ (.slice none 0 0)).ownBlock=some q->q≠gg/\W.heap.size<=q/\q<w.heap.size:=fun q hq=>hGB.ne ha_ hq
    have hb9l:=(zUc.1 h9).1
    have hb10l:=(zUc.1 h10).1
    have hty: ∀q,(y.2.getD a_ (.slice none 0 0)).ownBlock=some q->b9≠q/\b10≠q:=fun q hq=>by
     obtain ⟨_,c,g1,_⟩:=qO (hGB.rows a_ ha_) hq
     exact ⟨z9 h9 g1 dB,z9 h10 g1 dB⟩
    have h9g:b9≠gg:=z9 h9 hGB.rw.at.choose_spec dB
    have h10g:b10≠gg:=z9 h10 hGB.rw.at.choose_spec dB
    have hal:a_<y.2.length:=by rw [hGB.ln];exact ha_
    have hle:(ros (zH (zAC N js fs y.1) a_)).length+1<=140000000000:=by have h1:=zEY (zAC N js fs y.1) a_;have h2:=hrl;simp only [zUe] at h1 h2 ⊢;omega
    have hWw:=hFr.size
    refine zBk (w:=w) (n:=f29.ntmps) (AdE w W.heap.size gg N N b9 0 1 a_ b_ (y.2.getD a_ (.slice none 0 0)) (ros (zH (zAC N js fs y.1) a_)) far) (AdC w W.heap.size (y.2.getD a_ (.slice none 0 0)) (ros (zH (zAC N js fs y.1) a_))) (AdR (y.2.getD a_ (.slice none 0 0))) 14 hmix s.size kI (fun i l U V hi hl _ hC hR=>hC.next (by rw [hl];show i<16;omega) hR) (fun i j v U V _ hj hij hE hR=>hE.keep (fun q hq=>(hva q hq).2.2) hij hj hR) (fun l U _ hb=>⟨jZ hb,zK hb,fun _=>(hGB.rows a_ ha_).below hb⟩) (fun i o hi ho l a' U hf hnl hall Kk hK=> ?_) (fun Q' hQ a' w' hC hsz hnd hkp hv=> ?_)
    ·have hU9:=(hf.cls.fr.block b9 hb9l (fun h=>(hty _ h).1 rfl)).trans h9
     have hU10:=(hf.cls.fr.block b10 hb10l (fun h=>(hty _ h).2 rfl)).trans h10
     have hUg:=(hf.cls.fr.block gg hGB.rw.lt (fun h=>(hva _ h).1 rfl))
     have hwU:=hf.cls.fr.size
     have k7:a'.eval (.tmp 7)=(.slice (some ⟨gg,0,none⟩) N N):=(hf.keep 7 (fun j hj=>yH (k:=14) kI j hj)).trans (s.val mz3)
     have k9:a'.eval (.tmp 9)= (pO b9 0):=(hf.keep 9 (fun j hj=>yH (k:=14) kI j hj)).trans (s.val mz1)
     have k10:a'.eval (.tmp 10)= (pO b10 0):=(hf.keep 10 (fun j hj=>yH (k:=14) kI j hj)).trans (s.val (.head _))
     have h0:AdR (y.2.getD a_ (.slice none 0 0)) i U U:= .no (zUn _ _)
     have hi':i=0∨i=1∨i=2∨i=3∨i=4∨i=5∨i=6∨i=7∨i=8∨i=9∨i=10∨i=11∨i=12∨i=13:=by omega
     rcases hi' with rfl|rfl|rfl|rfl|rfl|rfl|rfl|rfl|rfl|rfl|rfl|rfl|rfl|rfl<;>obtain rfl:=zUk ho
     ·exact yC ho (fun _ e=>by cases e) (fun _ e=>by cases e) (zEo k7) (hK _ U rfl h0)
     ·exact yC ho (fun _ e=>by cases e) (fun _ e=>by cases e) (zBD 0 kI k9) (hK _ U rfl h0)
     ·have e1:a'.eval (.tmp 60)= (pO b9 0):=hf.vals 1 dB (zU hall kI) 60 rfl
      exact yC ho (fun _ e=>by cases e) (fun _ e=>by cases e) (zA6 (cs:=c9) (o:=0) kI e1 hU9 h9A) (hK _ U rfl h0)
     ·exact yC ho (fun _ e=>by cases e) (fun _ e=>by cases e) (zEo k7) (hK _ U rfl h0)
     ·exact yC ho (fun _ e=>by cases e) (fun _ e=>by cases e) (zBD 0 kI k9) (hK _ U rfl h0)
     ·have e4:a'.eval (.tmp 63)= (pO b9 0):=hf.vals 4 dB (zU hall kI) 63 rfl
      exact yC ho (fun _ e=>by cases e) (fun _ e=>by cases e) (zA6 (cs:=c9) (o:=0) kI e4 hU9 h9A) (hK _ U rfl h0)
     ·have e3:a'.eval (.tmp 62)=(.slice (some ⟨gg,0,none⟩) N N):=hf.vals 3 dB (zU hall kI) 62 rfl
      have e5:a'.eval (.tmp 64)= .int .i64 (a_:Int):=hf.vals 5 dB (zU hall kI) 64 rfl
      exact yC ho (fun _ e=>by cases e) (fun _ e=>by cases e) (zEq (z:=1) kI ha_ e3 e5) (hK _ U rfl h0)
     ·have e6:a'.eval (.tmp 65)= .pointer (some ⟨gg,a_*1,none⟩):=hf.vals 6 dB (zU hall kI) 65 rfl
      obtain ⟨cs,g1,g2⟩:=zKr hGB.rw (zEm hal)
      exact yC ho (fun _ e=>by cases e) (fun _ e=>by cases e) (zA6 (cs:=cs) kI e6 (hUg.trans g1) g2) (hK _ U rfl h0)
     ·exact yC ho (fun _ e=>by cases e) (fun _ e=>by cases e) (zBD 1 kI k9) (hK _ U rfl h0)
     ·have e8:a'.eval (.tmp 67)= (pO b9 1):=hf.vals 8 dB (zU hall kI) 67 rfl
      exact yC ho (fun _ e=>by cases e) (fun _ e=>by cases e) (zA6 (cs:=c9) (o:=1) kI e8 hU9 h9B) (hK _ U rfl h0)
     ·exact yC ho (fun _ e=>by cases e) (fun _ e=>by cases e) (zFC (cs:=c10) (o:=0) (k:=3) kI k10 hU10 hl10) (hK _ U ((fQN far).us _ _ _ hq10 hf.cls.kp) h0)
     ·have e9:a'.eval (.tmp 68)= .int .i64 (b_:Int):=hf.vals 9 dB (zU hall kI) 68 rfl
      have e10:QNp far (a'.eval (.tmp 69)) U:=hf.vals 10 dB (zU hall kI) 69 rfl
      obtain ⟨cells,g1,g2⟩:=zTC (x:=(b_,far)) e9 e10
      exact yC ho (fun _ e=>by cases e) (fun _ e=>by cases e) (zKo g1) (hK _ U g2 h0)
     ·have e11:(fRo (b_,far)).p (a'.eval (.tmp 70)) U:=hf.vals 11 dB (zU hall kI) 70 rfl
      obtain ⟨cs,g1,g2⟩:=zOe e11
      exact yC ho (fun _ e=>by cases e) (fun _ e=>by cases e) (zIp g1) (hK _ _ ⟨_,rfl,hwU,g2⟩ (.no (jQ _ _)))
     ·obtain ⟨g,e12,hg,hR12⟩:=hf.vals 12 dB (zU hall kI) 71 rfl
      have e7:a'.eval (.tmp 66)=(y.2.getD a_ (.slice none 0 0)):=hf.vals 7 dB (zU hall kI) 66 rfl
      exact opn ho rfl (zCZ (z:=4) (e:=67) (base:=W.heap.size) (v:=(y.2.getD a_ (.slice none 0 0))) (Cs:=(ros (zH (zAC N js fs y.1) a_))) (Ds:= [CU.agg (fRo (b_,far))]) kI (hf.cls.ca hnl) e7 (by rw [show a'.eval (.tmp 71)=_ from e12];exact hR12.row rfl) (fun C hC=>by obtain rfl:=zUq.1 hC;exact zQY _) hle oP fun v' V h1 h2 h3 h4=>hK v' V ⟨h1,h4.imp_right fun e=>⟨_,e,hwU⟩⟩ ⟨h2.sub fun q hq=>⟨rfl,hq⟩,h3⟩)
    obtain ⟨hB1,hk1,-⟩:=hC
    have e0:a'.tmps.getD 59 undef=(.slice (some ⟨gg,0,none⟩) N N):=hv 0 dB 59 rfl
    have e2:a'.tmps.getD 61 undef= .int .i64 (a_:Int):=hv 2 dB 61 rfl
    obtain ⟨hN13,ho13⟩:=hv 13 dB 72 rfl
    obtain ⟨v1,e13⟩: ∃v,a'.tmps.getD 72 undef=v:=⟨_,rfl⟩
    rw [e13] at hN13 ho13
    replace h9:=(hB1.block b9 hb9l (fun h=>(hty _ h).1 rfl)).trans h9
    replace h10:=(hB1.block b10 hb10l (fun h=>(hty _ h).2 rfl)).trans h10
    replace hq10:=(fQN far).us _ _ _ hq10 hk1
    have hRg:=hGB.rw.keep (hB1.block gg hGB.rw.lt (fun h=>(hva _ h).1 rfl)) hk1
    replace hFr:=yN hFr hB1 (fun q hq=>(hva q hq).2.1)
    have c13:=zBx hN13
    replace s:St w' [(59, .u (UF.eq (.slice (some ⟨gg,0,none⟩) N N))),(61, .u (uI (a_:Int))),(72, .u (UF.eq v1)),(10, .u (UF.eq (pO b10 0))),(9, .u (UF.eq (pO b9 0))),(2, .u (UF.eq lf)),(7, .u (UF.eq (.slice (some ⟨gg,0,none⟩) N N))),(8, .u (uI (y.1:Int))),(15, .u (UF.eq lj)),(16, .u (uI ((jns js).length:Int))),(17, .u (uI (y.1:Int)))] [] f29.ntmps [] a' w':=wV hsz (hnd.trans s.nd) (fmz ⟨⟨_,rfl,e0⟩,fmz ⟨⟨_,rfl,e2⟩,fmz ⟨⟨_,rfl,e13⟩,fmz ⟨⟨_,rfl,(hkp 10 (fun j hj=>yH (k:=14) kI j hj)).trans (s.val (.head _))⟩,fmz ⟨⟨_,rfl,(hkp 9 (fun j hj=>yH (k:=14) kI j hj)).trans (s.val mz1)⟩,fmz ⟨⟨_,rfl,(hkp 2 (fun j hj=>yH (k:=14) kI j hj)).trans (s.val mz2)⟩,fmz ⟨⟨_,rfl,(hkp 7 (fun j hj=>yH (k:=14) kI j hj)).trans (s.val mz3)⟩,fmz ⟨⟨_,rfl,(hkp 8 (fun j hj=>yH (k:=14) kI j hj)).trans (s.val mz4)⟩,fmz ⟨⟨_,rfl,(hkp 15 (fun j hj=>yH (k:=14) kI j hj)).trans (s.val mz5)⟩,fmz ⟨⟨_,rfl,(hkp 16 (fun j hj=>yH (k:=14) kI j hj)).trans (s.val mz6)⟩,fmz ⟨⟨_,rfl,(hkp 17 (fun j hj=>yH (k:=14) kI j hj)).trans (s.val mz7)⟩,fnz⟩⟩⟩⟩⟩⟩⟩⟩⟩⟩⟩)
    refine zCr (UF.eq (.pointer (some ⟨gg,a_*1,none⟩))) rfl s kI (zAm (z:=1) (g:=gg) (nn:=N) (cap:=N) (i:=a_) kI ha_ iiz iiz) kI fun a w s=> ?_
    have hb:=s.below
    replace h9:=(hb.block b9 (zUc.1 h9).1).trans h9
    replace h10:=(hb.block b10 (zUc.1 h10).1).trans h10
    replace hq10:=(fQN far).us _ _ _ hq10 (zK hb)
    have hB1':=hB1.trans hb
    have hk1':=hk1.trans (zK hb)
    replace hN13:=hN13.below hb
    replace hRg:=hRg.below hb
    replace hFr:=hFr.trans (hb.mono hFr.size)
    replace s:=s.anewB rfl rfl
    refine zCC (g:=gg) (i:=a_) (cap:=N) (z:=1) (e:=65) (wB [v1]) rfl s rfl rfl hRg (by simpa using hal) kI (s.fct (.tmp 73)) (zAX (s.fct (.tmp 72)) c13.1 c13.2.1 c13.2.2) (fun q hq=>by cases hq) fun w hF1 hk2 hR1 s=> ?_
    rw [zJ8] at hR1
    replace hGB:=hGB.add ha_ hB1' hk1' hN13 ho13 hF1 hk2 hR1
    replace h9:=(hF1.block b9 (zUc.1 h9).1 h9g).trans h9
    replace h10:=(hF1.block b10 (zUc.1 h10).1 h10g).trans h10
    replace hq10:=(fQN far).us _ _ _ hq10 hk2
    replace hFr:=yN hFr hF1 (fun q hq=>by rw [hq];exact hgg)
    clear hva hty h9g h10g hal hle hWw hRg hB1 hk1 hB1' hk1' hF1 hk2 hR1 hN13 ho13 e0 e2 hv hkp
    refine zB rfl (hQ _ _ ?_)
    clear hQ
    replace s:=s.drop [73,59,61,72]
    have hrl1:=hrl
    replace hrl:(zAC N js fs y.1++ [(a_,(b_,far))]).length<=2*y.1+1:=by rw [zUv];simp only [zUr];omega
    have hva: ∀q,((y.2.set a_ v1).getD b_ (.slice none 0 0)).ownBlock=some q->q≠gg/\W.heap.size<=q/\q<w.heap.size:=fun q hq=>hGB.ne hb_ hq
    have hb9l:=(zUc.1 h9).1
    have hb10l:=(zUc.1 h10).1
    have hty: ∀q,((y.2.set a_ v1).getD b_ (.slice none 0 0)).ownBlock=some q->b9≠q/\b10≠q:=fun q hq=>by
     obtain ⟨_,c,g1,_⟩:=qO (hGB.rows b_ hb_) hq
     exact ⟨z9 h9 g1 dB,z9 h10 g1 dB⟩
    have h9g:b9≠gg:=z9 h9 hGB.rw.at.choose_spec dB
    have h10g:b10≠gg:=z9 h10 hGB.rw.at.choose_spec dB
    have hal:b_<(y.2.set a_ v1).length:=by rw [hGB.ln];exact hb_
    have hle:(ros (zH (zAC N js fs y.1++ [(a_,(b_,far))]) b_)).length+1<=140000000000:=by have h1:=zEY (zAC N js fs y.1++ [(a_,(b_,far))]) b_;have h2:=hrl;simp only [zUe] at h1 h2 ⊢;omega
    have hWw:=hFr.size
    refine zBk (w:=w) (n:=f29.ntmps) (AdE w W.heap.size gg N N b9 1 0 b_ a_ ((y.2.set a_ v1).getD b_ (.slice none 0 0)) (ros (zH (zAC N js fs y.1++ [(a_,(b_,far))]) b_)) far) (AdC w W.heap.size ((y.2.set a_ v1).getD b_ (.slice none 0 0)) (ros (zH (zAC N js fs y.1++ [(a_,(b_,far))]) b_))) (AdR ((y.2.set a_ v1).getD b_ (.slice none 0 0))) 14 hmix s.size kI (fun i l U V hi hl _ hC hR=>hC.next (by rw [hl];show i<16;omega) hR) (fun i j v U V _ hj hij hE hR=>hE.keep (fun q hq=>(hva q hq).2.2) hij hj hR) (fun l U _ hb=>⟨jZ hb,zK hb,fun _=>(hGB.rows b_ hb_).below hb⟩) (fun i o hi ho l a' U hf hnl hall Kk hK=> ?_) (fun Q' hQ a' w' hC hsz hnd hkp hv=> ?_)
    ·have hU9:=(hf.cls.fr.block b9 hb9l (fun h=>(hty _ h).1 rfl)).trans h9
     have hU10:=(hf.cls.fr.block b10 hb10l (fun h=>(hty _ h).2 rfl)).trans h10
     have hUg:=(hf.cls.fr.block gg hGB.rw.lt (fun h=>(hva _ h).1 rfl))
     have hwU:=hf.cls.fr.size
     have k7:a'.eval (.tmp 7)=(.slice (some ⟨gg,0,none⟩) N N):=(hf.keep 7 (fun j hj=>yH (k:=14) kI j hj)).trans (s.val mz3)
     have k9:a'.eval (.tmp 9)= (pO b9 0):=(hf.keep 9 (fun j hj=>yH (k:=14) kI j hj)).trans (s.val mz1)
     have k10:a'.eval (.tmp 10)= (pO b10 0):=(hf.keep 10 (fun j hj=>yH (k:=14) kI j hj)).trans (s.val (.head _))
     have h0:AdR ((y.2.set a_ v1).getD b_ (.slice none 0 0)) i U U:= .no (zUn _ _)
     have hi':i=0∨i=1∨i=2∨i=3∨i=4∨i=5∨i=6∨i=7∨i=8∨i=9∨i=10∨i=11∨i=12∨i=13:=by omega
     rcases hi' with rfl|rfl|rfl|rfl|rfl|rfl|rfl|rfl|rfl|rfl|rfl|rfl|rfl|rfl<;>obtain rfl:=zUk ho
     ·exact yC ho (fun _ e=>by cases e) (fun _ e=>by cases e) (zEo k7) (hK _ U rfl h0)
     ·exact yC ho (fun _ e=>by cases e) (fun _ e=>by cases e) (zBD 1 kI k9) (hK _ U rfl h0)
     ·have e1:a'.eval (.tmp 75)= (pO b9 1):=hf.vals 1 dB (zU hall kI) 75 rfl
      exact yC ho (fun _ e=>by cases e) (fun _ e=>by cases e) (zA6 (cs:=c9) (o:=1) kI e1 hU9 h9B) (hK _ U rfl h0)
     ·exact yC ho (fun _ e=>by cases e) (fun _ e=>by cases e) (zEo k7) (hK _ U rfl h0)
     ·exact yC ho (fun _ e=>by cases e) (fun _ e=>by cases e) (zBD 1 kI k9) (hK _ U rfl h0)
     ·have e4:a'.eval (.tmp 78)= (pO b9 1):=hf.vals 4 dB (zU hall kI) 78 rfl
      exact yC ho (fun _ e=>by cases e) (fun _ e=>by cases e) (zA6 (cs:=c9) (o:=1) kI e4 hU9 h9B) (hK _ U rfl h0)
     ·have e3:a'.eval (.tmp 77)=(.slice (some ⟨gg,0,none⟩) N N):=hf.vals 3 dB (zU hall kI) 77 rfl
      have e5:a'.eval (.tmp 79)= .int .i64 (b_:Int):=hf.vals 5 dB (zU hall kI) 79 rfl
      exact yC ho (fun _ e=>by cases e) (fun _ e=>by cases e) (zEq (z:=1) kI hb_ e3 e5) (hK _ U rfl h0)
     ·have e6:a'.eval (.tmp 80)= .pointer (some ⟨gg,b_*1,none⟩):=hf.vals 6 dB (zU hall kI) 80 rfl
      obtain ⟨cs,g1,g2⟩:=zKr hGB.rw (zEm hal)
      exact yC ho (fun _ e=>by cases e) (fun _ e=>by cases e) (zA6 (cs:=cs) kI e6 (hUg.trans g1) g2) (hK _ U rfl h0)
     ·exact yC ho (fun _ e=>by cases e) (fun _ e=>by cases e) (zBD 0 kI k9) (hK _ U rfl h0)
     ·have e8:a'.eval (.tmp 82)= (pO b9 0):=hf.vals 8 dB (zU hall kI) 82 rfl
      exact yC ho (fun _ e=>by cases e) (fun _ e=>by cases e) (zA6 (cs:=c9) (o:=0) kI e8 hU9 h9A) (hK _ U rfl h0)
     ·exact yC ho (fun _ e=>by cases e) (fun _ e=>by cases e) (zFC (cs:=c10) (o:=0) (k:=3) kI k10 hU10 hl10) (hK _ U ((fQN far).us _ _ _ hq10 hf.cls.kp) h0)
     ·have e9:a'.eval (.tmp 83)= .int .i64 (a_:Int):=hf.vals 9 dB (zU hall kI) 83 rfl
      have e10:QNp far (a'.eval (.tmp 84)) U:=hf.vals 10 dB (zU hall kI) 84 rfl
      obtain ⟨cells,g1,g2⟩:=zTC (x:=(a_,far)) e9 e10
      exact yC ho (fun _ e=>by cases e) (fun _ e=>by cases e) (zKo g1) (hK _ U g2 h0)
     ·have e11:(fRo (a_,far)).p (a'.eval (.tmp 85)) U:=hf.vals 11 dB (zU hall kI) 85 rfl
      obtain ⟨cs,g1,g2⟩:=zOe e11
      exact yC ho (fun _ e=>by cases e) (fun _ e=>by cases e) (zIp g1) (hK _ _ ⟨_,rfl,hwU,g2⟩ (.no (jQ _ _)))
     ·obtain ⟨g,e12,hg,hR12⟩:=hf.vals 12 dB (zU hall kI) 86 rfl
      have e7:a'.eval (.tmp 81)=((y.2.set a_ v1).getD b_ (.slice none 0 0)):=hf.vals 7 dB (zU hall kI) 81 rfl
      exact opn ho rfl (zCZ (z:=4) (e:=67) (base:=W.heap.size) (v:=((y.2.set a_ v1).getD b_ (.slice none 0 0))) (Cs:=(ros (zH (zAC N js fs y.1++ [(a_,(b_,far))]) b_))) (Ds:= [CU.agg (fRo (a_,far))]) kI (hf.cls.ca hnl) e7 (by rw [show a'.eval (.tmp 86)=_ from e12];exact hR12.row rfl) (fun C hC=>by obtain rfl:=zUq.1 hC;exact zQY _) hle oP fun v' V h1 h2 h3 h4=>hK v' V ⟨h1,h4.imp_right fun e=>⟨_,e,hwU⟩⟩ ⟨h2.sub fun q hq=>⟨rfl,hq⟩,h3⟩)
    obtain ⟨hB1,hk1,-⟩:=hC
    have e0:a'.tmps.getD 74 undef=(.slice (some ⟨gg,0,none⟩) N N):=hv 0 dB 74 rfl
    have e2:a'.tmps.getD 76 undef= .int .i64 (b_:Int):=hv 2 dB 76 rfl
    obtain ⟨hN13,ho13⟩:=hv 13 dB 87 rfl
    obtain ⟨v2,e13⟩: ∃v,a'.tmps.getD 87 undef=v:=⟨_,rfl⟩
    rw [e13] at hN13 ho13
    replace h9:=(hB1.block b9 hb9l (fun h=>(hty _ h).1 rfl)).trans h9
    replace h10:=(hB1.block b10 hb10l (fun h=>(hty _ h).2 rfl)).trans h10
    replace hq10:=(fQN far).us _ _ _ hq10 hk1
    have hRg:=hGB.rw.keep (hB1.block gg hGB.rw.lt (fun h=>(hva _ h).1 rfl)) hk1
    replace hFr:=yN hFr hB1 (fun q hq=>(hva q hq).2.1)
    have c13:=zBx hN13
    replace s:St w' [(74, .u (UF.eq (.slice (some ⟨gg,0,none⟩) N N))),(76, .u (uI (b_:Int))),(87, .u (UF.eq v2)),(10, .u (UF.eq (pO b10 0))),(9, .u (UF.eq (pO b9 0))),(2, .u (UF.eq lf)),(7, .u (UF.eq (.slice (some ⟨gg,0,none⟩) N N))),(8, .u (uI (y.1:Int))),(15, .u (UF.eq lj)),(16, .u (uI ((jns js).length:Int))),(17, .u (uI (y.1:Int)))] [] f29.ntmps [] a' w':=wV hsz (hnd.trans s.nd) (fmz ⟨⟨_,rfl,e0⟩,fmz ⟨⟨_,rfl,e2⟩,fmz ⟨⟨_,rfl,e13⟩,fmz ⟨⟨_,rfl,(hkp 10 (fun j hj=>yH (k:=14) kI j hj)).trans (s.val (.head _))⟩,fmz ⟨⟨_,rfl,(hkp 9 (fun j hj=>yH (k:=14) kI j hj)).trans (s.val mz1)⟩,fmz ⟨⟨_,rfl,(hkp 2 (fun j hj=>yH (k:=14) kI j hj)).trans (s.val mz2)⟩,fmz ⟨⟨_,rfl,(hkp 7 (fun j hj=>yH (k:=14) kI j hj)).trans (s.val mz3)⟩,fmz ⟨⟨_,rfl,(hkp 8 (fun j hj=>yH (k:=14) kI j hj)).trans (s.val mz4)⟩,fmz ⟨⟨_,rfl,(hkp 15 (fun j hj=>yH (k:=14) kI j hj)).trans (s.val mz5)⟩,fmz ⟨⟨_,rfl,(hkp 16 (fun j hj=>yH (k:=14) kI j hj)).trans (s.val mz6)⟩,fmz ⟨⟨_,rfl,(hkp 17 (fun j hj=>yH (k:=14) kI j hj)).trans (s.val mz7)⟩,fnz⟩⟩⟩⟩⟩⟩⟩⟩⟩⟩⟩)
    refine zCr (UF.eq (.pointer (some ⟨gg,b_*1,none⟩))) rfl s kI (zAm (z:=1) (g:=gg) (nn:=N) (cap:=N) (i:=b_) kI hb_ iiz iiz) kI fun a w s=> ?_
    have hb:=s.below
    replace h9:=(hb.block b9 (zUc.1 h9).1).trans h9
    replace h10:=(hb.block b10 (zUc.1 h10).1).trans h10
    replace hq10:=(fQN far).us _ _ _ hq10 (zK hb)
    have hB1':=hB1.trans hb
    have hk1':=hk1.trans (zK hb)
    replace hN13:=hN13.below hb
    replace hRg:=hRg.below hb
    replace hFr:=hFr.trans (hb.mono hFr.size)
    replace s:=s.anewB rfl rfl
    refine zCC (g:=gg) (i:=b_) (cap:=N) (z:=1) (e:=65) (wB [v2]) rfl s rfl rfl hRg (by simpa using hal) kI (s.fct (.tmp 88)) (zAX (s.fct (.tmp 87)) c13.1 c13.2.1 c13.2.2) (fun q hq=>by cases hq) fun w hF1 hk2 hR1 s=> ?_
    rw [zJ8] at hR1
    replace hGB:=hGB.add hb_ hB1' hk1' hN13 ho13 hF1 hk2 hR1
    replace h9:=(hF1.block b9 (zUc.1 h9).1 h9g).trans h9
    replace h10:=(hF1.block b10 (zUc.1 h10).1 h10g).trans h10
    replace hq10:=(fQN far).us _ _ _ hq10 hk2
    replace hFr:=yN hFr hF1 (fun q hq=>by rw [hq];exact hgg)
    clear hva hty h9g h10g hal hle hWw hRg hB1 hk1 hB1' hk1' hF1 hk2 hR1 hN13 ho13 e0 e2 hv hkp
    refine zB rfl (hQ _ _ ?_)
    clear hQ
    replace s:=s.drop [88,74,76,87]
    refine yI 1 ((89, .u (uI ((y.1+1:Nat):Int))):: []) s kI
     (oc (qX .i64 (y.1:Int) 1 ((y.1+1:Nat):Int) iiz iiz (wrap64 _ _ oP oP))<|zE) fun a w11 s=> ?_
    replace s:=s.drop [17]
    refine zCr (uI ((y.1+1:Nat):Int)) rfl s kI zA kI fun a w s=> ?_
    refine zB rfl ?_
    have hb:=s.below
    replace hFr:=hFr.trans (hb.mono hFr.size)
    replace hGB:=hGB.below hb
    replace s:=s.anewB rfl rfl
    have hgs:zAC N js fs (y.1+1)=zAC N js fs y.1++ [(a_,(b_,far))]++ [(b_,(a_,far))]:=by rw [zDq];unfold zFG;rw [if_pos hjo, <-efar, <-ea, <-eb];simp
    exact ⟨(y.1+1,(y.2.set a_ v1).set b_ v2),(by show js.length - (y.1+1)<js.length - y.1;omega),hkl,hFr,(by rw [hgs];exact hGB),s.keepK _ (fmz ⟨mz4,fmz ⟨mz5,fmz ⟨mz7,fmz ⟨mz8,fmz ⟨.head _,fnz⟩⟩⟩⟩⟩)⟩
 ·have hkl:y.1=js.length:=by have h7:=zUi e;simp only [zUe] at h7;omega
  refine zUm ?_
  refine zUb ?_
  refine zC 2 ((90, .Z (UF.eq (.slice (some ⟨gg,0,none⟩) N N)))::(6, .u (UF.eq (.slice (some ⟨gg,0,none⟩) N N))):: []) hmix s kI
   (oc zA<|oc zG<|zE) fun a w12 s=> ?_
  refine zB rfl ?_
  refine zUh ?_
  rw [hkl] at hGB
  exact StS.resN s hFr rfl ⟨gg,N,_,by rw [zAi];exact s.fct (.tmp 6),(hGB.below s.below).gm (zFa hT)⟩
end Go.Proofs.Wd

namespace Go.Proofs.Wd
open Tryz
set_option maxRecDepth 100000
set_option maxHeartbeats 1000000
open Go.RowKit Lb
theorem zPY (q:Rat):(q.num:Rat)=q*(q.den:Rat):=by
 have h:=Rat.mkRat_self q
 rw [Rat.mkRat_eq_div] at h
 have hd:(q.den:Rat)≠0:=fun h=>q.den_nz (by exact_mod_cast h)
 grind
theorem vH {q:Rat} {X D:Int} {m:Nat} (hm:0<m) (h:q*(D:Rat)=(X:Rat)) (hD:D≠0) (hX:Bd X m) (hD':Bd D m):QB q m:=by
  have e0:=zPY q
  have e1:((q.num*D:Int):Rat)=((X*(q.den:Int):Int):Rat):=by
    rw [zUZ,zUZ,e0, <-h]
    show q*(q.den:Rat)*(D:Rat)=q*(D:Rat)*((q.den:Int):Rat)
    rw [zUM]
    grind
  have e2:q.num*D=X*(q.den:Int):=by exact_mod_cast e1
  have e3:q.num.natAbs*D.natAbs=X.natAbs*q.den:=by
    have:=zUf Int.natAbs e2
    rwa [zU0,zU0,zU1] at this
  have hc:Nat.Coprime q.den q.num.natAbs:=q.reduced.symm
  have hd:q.den∣D.natAbs:=hc.dvd_of_dvd_mul_left (by rw [e3];exact Nat.dvd_mul_left _ _)
  have hDp:0<D.natAbs:=Int.natAbs_pos.2 hD
  obtain ⟨k,hk⟩:=hd
  have hk0 : 0 < k := by rcases Nat.eq_zero_or_pos k with h|h;· rw [h] at hk;omega
                         . exact h
  refine ⟨?_,Nat.lt_of_le_of_lt ?_ hD'⟩
  . have:q.num.natAbs*k=X.natAbs:=by
      rw [hk, <-Nat.mul_assoc,Nat.mul_comm q.num.natAbs,Nat.mul_assoc,Nat.mul_comm q.den] at e3
      exact Nat.eq_of_mul_eq_mul_right q.den_pos e3
    refine Nat.lt_of_le_of_lt ?_ hX
    rw [<-this]
    exact Nat.le_mul_of_pos_right _ hk0
  . rw [hk];exact Nat.le_mul_of_pos_right _ hk0
theorem vL {w0:Wm} {K:List (Nat×KF)} {B:List Bx} {n:Nat} {a:Act} {w:Wm} {P:Ws} (h:St w0 K B n [] a w) {fn:Func} {f:SF} {t r:Nat} (hr:fn.results=#[.tmp t, .tmp r]) (hd:f.p (.tuple #[a.tmps.getD t undef,a.tmps.getD r undef]) w):bodyPost P fn (Ret w0 f) .ret a w:=by
 refine ⟨h.nd,_, ?_,⟨_,rfl,hd,h.gr.below⟩⟩
 simp [results,hr]
def TnR (q:Rat):Prop:= ∃k:Nat,q*27720=(k:Rat)/\k<=55384560
structure GrB (N:Nat) (js:List (Int×Int)) (fs:List Rat):Prop where
 hN:N<=20
 hj:js.length<=61
 hf: ∀i,TnR (zDj fs i)
theorem zIG {c:Rat} {k:Nat} (h:c*27720=(k:Rat)) (hk:k<4294967296):QB c 1:=
 vH (X:=(k:Int)) (D:=27720) dB (by rw [zUM];exact h) dB (by unfold Bd BB;rw [zU1,Nat.pow_one];exact hk) (by unfold Bd BB;decide+kernel)
theorem GrB.tn {N:Nat} {js:List (Int×Int)} {fs:List Rat} (h:GrB N js fs) {a b:Nat} {f:Rat} (hr:(b,f)∈grE N js fs a):TnR f:=by
 obtain ⟨_,_,_,_,i,_,rfl⟩:=zKw (zCN.1 hr)
 exact h.hf i
theorem GrB.rch {N:Nat} {js:List (Int×Int)} {fs:List Rat} (h:GrB N js fs) {a n:Nat} {c:Rat} {s:Nat} (hr:Rch (grE N js fs) a n c s): ∃k:Nat,c*27720=(k:Rat)/\k<=s*55384560:=by
 induction hr with
 |nil=>exact ⟨0,by simp,by omega⟩
 |cons _ he ih=>
  obtain ⟨k,h1,h2⟩:=ih
  obtain ⟨k',h3,h4⟩:=h.tn he
  refine ⟨k+k', ?_,by omega⟩
  rw [Rat.natCast_add, <-h1, <-h3,Rat.add_mul]
theorem GrB.qb {N:Nat} {js:List (Int×Int)} {fs:List Rat} (h:GrB N js fs) {a n:Nat} {c:Rat} {s:Nat} (hr:Rch (grE N js fs) a n c s) (hs:s<=77):QB c 1:=by
 obtain ⟨k,h1,h2⟩:=h.rch hr
 exact zIG h1 oP
theorem GrB.qr {N:Nat} {js:List (Int×Int)} {fs:List Rat} (h:GrB N js fs) {a:Nat} {r:Nat×Rat} (hr:r∈grE N js fs a):QB r.2 1:=by
 obtain ⟨k,h1,h2⟩:=h.tn (b:=r.1) (f:=r.2) hr
 exact zIG h1 oP
theorem zKW (E:Adj) (done:List Bool) (d:Nat) (hd: ∀n,(E n).length<=d): ∀N,zJx E done N<=N*d
 |0=>zUl _
 |N+1=>by
  have h1:=zKW E done d hd N
  have h2:=hd N
  show zJx E done N+(if done.getD N false=true then 0 else (E N).length)<=(N+1)*d
  rw [Nat.succ_mul]
  split<;>omega
theorem GrB.pd {N:Nat} {js:List (Int×Int)} {fs:List Rat} (h:GrB N js fs) (done:List Bool):1+zJx (grE N js fs) done N<=80000:=by
 have hd: ∀n,(grE N js fs n).length<=122:=fun n=>by
  have h1:=zEY (rds N js fs) n
  have h2:=zFJ N js fs js.length
  have h3:=h.hj
  unfold rds at h1
  show (zH (zAC N js fs js.length) n).length<=122
  omega
 have h1:=zKW _ done 122 hd N
 have h2:=h.hN
 have h3:=Nat.mul_le_mul_right 122 h2
 omega
theorem zLW {W:Wm} {js:List (Int×Int)} {fs:List Rat} {N:Nat} {x:Int} {u v:Wn} (hu:(fG (glN N (rds N js fs))).p u W) (hv:v= .int .i64 x) (hB:GrB N js fs) (hT:Tab W):Calls prog 30 #[u,v] W (Ret W (wI (wE W 32 3 (qns (csR (grE N js fs) N x))) (wE W 3 1 (ins (ssR (grE N js fs) N x))))):=by
 obtain ⟨gg,cap,vs,e,hG⟩:=hu
 rw [zAi] at e
 have hN:=hB.hN
 have:=zQq (u:=u) (v:=v) (x:=x) hG (zAi _ _).symm e hv oP (by rw [zEQ];exact zGb _ _ _) (by rw [zEQ];exact fun n _ r hr=>hB.qr hr) (by rw [zEQ];exact fun a _ n c s hr hs=>hB.qb hr oP) (by rw [zEQ];exact hB.pd _) hT
 rwa [zEQ] at this
theorem zH1 {W:Wm} {n:Int} {N:Nat} {js:List (Int×Int)} {fs:List Rat} {u lj lf:Wn} (hu:u= .int .i64 n) (hj:(SF.row 2 (jns js)).p lj W) (hf:(SF.row 3 (rvs 1 fs)).p lf W) (hNz:min (max n 0) 131072=(N:Int)) (hN:N<=20) (hjl:js.length<=61) (hT:Tab W):Calls prog 29 #[u,lj,lf] W (Ret W (fG (glN N (rds N js fs)))):=zQt hu hj hf hNz oP oP hT
theorem zDl {W W':Wm} {e e':Wp} {z z':Nat} {Cs Ds:List CU} {v:Wn} {V:Wm} (hW:W.heap.size<=W'.heap.size) (h:(wI (wE W' e z Cs) (wE W' e' z' Ds)).p v V):(wI (wE W e z Cs) (wE W e' z' Ds)).p v V:=by
 obtain ⟨x,y,h1,h2,h3⟩:=h
 exact ⟨x,y,h1,y9.mono h2 hW,y9.mono h3 hW⟩
theorem zDZ {W:Wm} {n x:Int} {N:Nat} {js:List (Int×Int)} {fs:List Rat} {u lj lf v:Wn} (hu:u= .int .i64 n) (hj:(SF.row 2 (jns js)).p lj W) (hf:(SF.row 3 (rvs 1 fs)).p lf W) (hv:v= .int .i64 x) (hNz:min (max n 0) 131072=(N:Int)) (hB:GrB N js fs) (hT:Tab W):Calls prog 16 #[u,lj,lf,v] W (Ret W (wI (wE W 32 3 (qns (csR (grE N js fs) N x))) (wE W 3 1 (ins (ssR (grE N js fs) N x))))):=by
 refine qH [(uI n).tS,SF.row 2 (jns js),SF.row 3 (rvs 1 fs),(uI x).tS] func16 rfl kI ⟨hu,hj,hf,hv,trivial⟩ fun a s=> ?_
 refine zUb ?_
 refine zC 2 ((8, .u (UF.eq (.slice none 0 0)))::(9, .u (UF.eq (.slice none 0 0))):: []) hmix s kI
  (oc zG<|oc zG<|zE) fun a w1 s=> ?_
 refine zB rfl ?_
 refine zUb ?_
 replace s:=s.drop [8,9]
 refine qU 10 ((10, .Z (uI n))::(11, .s (SF.row 2 (jns js)))::(12, .s (SF.row 3 (rvs 1 fs)))::(13, .s (fG (glN N (rds N js fs))))::(14, .Z (uI x))::(15, .s (wI (wE W 32 3 (qns (csR (grE N js fs) N x))) (wE W 3 1 (ins (ssR (grE N js fs) N x)))))::(16, .s (wE W 32 3 (qns (csR (grE N js fs) N x))))::(17, .s (wE W 3 1 (ins (ssR (grE N js fs) N x))))::(8, .s (wE W 32 3 (qns (csR (grE N js fs) N x))))::(9, .s (wE W 3 1 (ins (ssR (grE N js fs) N x)))):: []) hmix s kI
  (oc zA<|oc zA<|oc zA<|oc (zD7 zF zQn (fun u0 u1 u2 W hb (h0:u0= .int .i64 n) (h1:(SF.row 2 (jns js)).p u1 W) (h2:(SF.row 3 (rvs 1 fs)).p u2 W)=>zH1 h0 h1 h2 hNz hB.hN hB.hj (hT.below (s.up hb))))<|oc zA<|oc (yB zF zRB (fun u0 u1 W hb (h0:(fG (glN N (rds N js fs))).p u0 W) (h1:u1= .int .i64 x)=>(zLW h0 h1 hB (hT.below (s.up hb))).mono (wG (fun v W h=>zDl (s.up hb).size h))))<|oc (zAK (A:=wE W 32 3 (qns (csR (grE N js fs) N x))) (B:=wE W 3 1 (ins (ssR (grE N js fs) N x))) iiz)<|oc (zAJ (A:=wE W 32 3 (qns (csR (grE N js fs) N x))) (B:=wE W 3 1 (ins (ssR (grE N js fs) N x))) iiz)<|oc zG<|oc zG<|zE) fun a w2 s hr=> ?_
 refine zB rfl ?_
 refine zUh ?_
 exact vL s rfl ⟨_,_,rfl,(hr (_,_) mz8),(hr (_,_) mz9)⟩
end Go.Proofs.Wd

namespace Go.Proofs.Wd
open Tryz
set_option maxRecDepth 100000
set_option maxHeartbeats 1000000
open Go.RowKit Lb
structure RvI (l c:List Int) (i:Nat):Prop where
 ln:c.length=l.length
 at_: ∀k,k<l.length->c.getD k 0=if k<i∨l.length<=k+i then l.getD (l.length - 1 - k) 0 else l.getD k 0
theorem RvI.begin (l:List Int):RvI l l 0:=⟨rfl,fun k hk=>by rw [if_neg oP]⟩
theorem zG9 (l:List Int) (i k:Nat) (h:i<l.length) (z:Int):(l.set i z).getD k 0=if k=i then z else l.getD k 0:=by
 by_cases e:k=i
 ·subst e;simp [h]
 ·rw [if_neg e];simp [List.getElem?_set_ne (Ne.symm e)]
theorem RvI.step {l c:List Int} {i j:Nat} (h:RvI l c i) (hj:j+i+1=l.length) (hij:i<j):RvI l ((c.set i (c.getD j 0)).set j (c.getD i 0)) (i+1):=by
 have h1:=h.ln
 have ei:=h.at_ i oP
 have ej:=h.at_ j oP
 rw [if_neg oP] at ei ej
 refine ⟨by simp [h1],fun k hk=> ?_⟩
 rw [zG9 _ _ _ (by simp;omega),zG9 _ _ _ oP,ei,ej]
 by_cases e1:k=j
 ·rw [if_pos e1,if_pos (.inr oP)]
  congr 1;omega
 ·rw [if_neg e1]
  by_cases e2:k=i
  ·rw [if_pos e2,if_pos (.inl oP)]
   congr 1;omega
  ·rw [if_neg e2,h.at_ k hk]
   by_cases e3:k<i∨l.length<=k+i
   ·rw [if_pos e3,if_pos oP]
   ·rw [if_neg e3,if_neg oP]
theorem RvI.done {l c:List Int} {i:Nat} (h:RvI l c i) (hi:l.length<=2*i+1):c=l.reverse:=by
 refine zUN (by rw [h.ln,List.length_reverse]) fun k h1 h2=> ?_
 have hk:k<l.length:=by rw [<-h.ln];exact h1
 have e:=h.at_ k hk
 have e1:c.getD k 0=c[k]:=by simp [h1]
 have e2:l.getD (l.length - 1 - k) 0=l.reverse[k]:=by rw [List.getElem_reverse];simp [show l.length - 1 - k<l.length by omega]
 rw [<-e1, <-e2,e]
 by_cases e3:k<i∨l.length<=k+i
 ·rw [if_pos e3]
 ·rw [if_neg e3]
  congr 1;omega
theorem zQJ {W:Wm} {g cap:Nat} {l:List Int} (hR:jG W g 3 1 cap (ins l)) (hl0:l.length<=1000000):Calls prog 35 #[.slice (some ⟨g,0,none⟩) l.length cap] W (zMh (fun q=>q=g) W UF.any fun W'=>jG W' g 3 1 cap (ins l.reverse)):=by
 have hF:BlS (fun q=>q=g) W W:=BlS.refl _ _
 refine zBQ [UF.eq (.slice (some ⟨g,0,none⟩) l.length cap)] func35 rfl kI ⟨rfl,trivial⟩ fun a s=> ?_
 replace s:St W [(0, .u (UF.eq (.slice (some ⟨g,0,none⟩) l.length cap)))] [] f35.ntmps [] a W:=s
 refine zUb ?_
 refine zC 5 ((4, .Z (UF.eq (.slice (some ⟨g,0,none⟩) l.length cap)))::(5, .Z (uI (l.length:Int)))::(6, .Z (uI ((l.length:Int) - 1 - ((0:Nat):Int))))::(2, .u (uI 0))::(3, .u (uI ((l.length:Int) - 1 - ((0:Nat):Int)))):: []) hmix s kI
  (oc zA<|oc (jV kI (fun v W h=>⟨_,_,_,h,rfl⟩))<|oc (zA9 .i64 (l.length:Int) 1 ((l.length:Int) - 1 - ((0:Nat):Int)) iiz iiz ((zAE _ oP oP).trans oP))<|oc zG<|oc zG<|zE) fun a w1 s=> ?_
 refine zB rfl ?_
 have hb:=s.below
 replace hR:=hR.below hb
 replace hF:=hF.trans hb
 replace s:=s.anewB rfl rfl
 refine zUd ?_
 refine yM (fun (x:Nat×List Int) a w=>RvI l x.2 x.1/\x.1<=l.length/\jG w g 3 1 cap (ins x.2)/\BlS (fun q=>q=g) W w/\St w [(0, .u (UF.eq (.slice (some ⟨g,0,none⟩) l.length cap))),(2, .u (uI (x.1:Int))),(3, .u (uI ((l.length:Int) - 1 - (x.1:Int))))] [] f35.ntmps [] a w) (fun x=>l.length - 2*x.1) (0,l) ⟨RvI.begin l,zUl _,hR,hF,s.keepK _ (fmz ⟨mz2,fmz ⟨.head _,fmz ⟨mz1,fnz⟩⟩⟩)⟩ fun x a w hx=> ?_
 clear hR hF
 obtain ⟨hI,hx,hR,hF,s⟩:=hx
 refine zUb ?_
 refine zUb ?_
 refine zC 3 ((7, .Z (uI (x.1:Int)))::(8, .Z (uI ((l.length:Int) - 1 - (x.1:Int))))::(9, .u (uB (decide ((x.1:Int)<(l.length:Int) - 1 - (x.1:Int))))):: []) hmix s kI
  (oc zA<|oc zA<|oc (zP .i64 (x.1:Int) ((l.length:Int) - 1 - (x.1:Int)) (decide ((x.1:Int)<(l.length:Int) - 1 - (x.1:Int))) iiz iiz rfl rfl)<|zE) fun a w2 s=> ?_
 refine zB rfl ?_
 have hb:=s.below
 replace hR:=hR.below hb
 replace hF:=hF.trans hb
 replace s:=s.anewB rfl rfl
 refine StS.cond s (decide ((x.1:Int)<(l.length:Int) - 1 - (x.1:Int))) iiz (fun e=> ?_) (fun e=> ?_)
 ·have hlt:x.1+x.1+1<l.length:=by have:=zUj e;omega
  obtain ⟨j,hjz⟩: ∃j:Nat,(l.length:Int) - 1 - (x.1:Int)=(j:Int):=⟨l.length - 1 - x.1,by omega⟩
  have hi:x.1<x.2.length:=by rw [hI.ln];omega
  have hj:j<x.2.length:=by rw [hI.ln];omega
  have hl:=hR.row (n:=l.length) (by simp [hI.ln])
  rw [hjz] at s
  skip
  refine zUg ?_
  refine zUb ?_
  refine zUd ?_
  refine zAb [0,1,2,3,4,5,8,9] 12 ((14, .u (UF.eq (.slice (some ⟨g,0,none⟩) l.length cap)))::(15, .u (uI (x.1:Int)))::(16, .u (UF.eq (.slice (some ⟨g,0,none⟩) l.length cap)))::(17, .u (uI (j:Int)))::(18, .Z (UF.eq (.slice (some ⟨g,0,none⟩) l.length cap)))::(19, .Z (uI (j:Int)))::(20, .s (wC (wB [.int .i64 (x.2.getD j 0)]).cf))::(21, .u (uI (x.2.getD j 0)))::(22, .Z (UF.eq (.slice (some ⟨g,0,none⟩) l.length cap)))::(23, .Z (uI (x.1:Int)))::(24, .s (wC (wB [.int .i64 (x.2.getD x.1 0)]).cf))::(25, .u (uI (x.2.getD x.1 0))):: []) hmix s kI
   (oc zA<|oc zA<|oc zA<|oc zA<|oc zA<|oc zA<|oc (zT (z:=1) (Cs:=ins x.2) (i:=j) (C:=wB [.int .i64 (x.2.getD j 0)]) kI (zAY hj) (fun v W hb h=>(by rw [show v=(Value.slice (some ⟨g,0,none⟩) l.length cap) from h];exact (SF.row 1 (ins x.2)).st _ _ _ hl (s.up hb))) iiz)<|oc (yR (C:=(wB [.int .i64 (x.2.getD j 0)]).cf) kI iiz jF)<|oc zA<|oc zA<|oc (zT (z:=1) (Cs:=ins x.2) (i:=x.1) (C:=wB [.int .i64 (x.2.getD x.1 0)]) kI (zAY hi) (fun v W hb h=>(by rw [show v=(Value.slice (some ⟨g,0,none⟩) l.length cap) from h];exact (SF.row 1 (ins x.2)).st _ _ _ hl (s.up hb))) iiz)<|oc (yR (C:=(wB [.int .i64 (x.2.getD x.1 0)]).cf) kI iiz jF)<|zE) fun Q' hQ a w3 s=> ?_
  refine zCr (UF.eq (.pointer (some ⟨g,x.1*1,none⟩))) rfl s kI (zAm (z:=1) (g:=g) (nn:=l.length) (cap:=cap) (i:=x.1) kI oP iiz iiz) kI fun a w s=> ?_
  have hb:=s.below
  replace hR:=hR.below hb
  replace hF:=hF.trans hb
  refine zCC (g:=g) (i:=x.1) (cap:=cap) (z:=1) (e:=3) (wB [.int .i64 (x.2.getD j 0)]) rfl s rfl rfl hR (by simpa using hi) kI (s.fct (.tmp 26)) (zAX (s.fct (.tmp 21)) rfl rfl rfl) (fun q hq=>by cases hq) fun w hF1 hk1 hR s=> ?_
  rw [zDx] at hR
  replace hF:=hF.comp hF1
  refine zCr (UF.eq (.pointer (some ⟨g,j*1,none⟩))) rfl s kI (zAm (z:=1) (g:=g) (nn:=l.length) (cap:=cap) (i:=j) kI oP iiz iiz) kI fun a w s=> ?_
  have hb:=s.below
  replace hR:=hR.below hb
  replace hF:=hF.trans hb
  refine zCC (g:=g) (i:=j) (cap:=cap) (z:=1) (e:=3) (wB [.int .i64 (x.2.getD x.1 0)]) rfl s rfl rfl hR (by simpa using hj) kI (s.fct (.tmp 27)) (zAX (s.fct (.tmp 25)) rfl rfl rfl) (fun q hq=>by cases hq) fun w hF1 hk1 hR s=> ?_
  rw [zDx] at hR
  replace hF:=hF.comp hF1
  refine zB rfl (hQ _ _ ?_)
  have hb:=s.below
  replace hR:=hR.below hb
  replace hF:=hF.trans hb
  replace s:=s.anewB rfl rfl
  refine yI 4 ((10, .Z (uI (x.1:Int)))::(11, .u (uI ((x.1+1:Nat):Int)))::(12, .Z (uI (j:Int)))::(13, .u (uI ((l.length:Int) - 1 - ((x.1+1:Nat):Int)))):: []) s kI
   (oc zA<|oc (qX .i64 (x.1:Int) 1 ((x.1+1:Nat):Int) iiz iiz (wrap64 _ _ oP oP))<|oc zA<|oc (zA9 .i64 (j:Int) 1 ((l.length:Int) - 1 - ((x.1+1:Nat):Int)) iiz iiz ((zAE _ oP oP).trans oP))<|zE) fun a w4 s=> ?_
  replace s:=s.drop [2]
  refine qN (uI ((x.1+1:Nat):Int)) rfl s kI iiz fun a w s=> ?_
  replace s:=s.drop [3]
  refine qN (uI ((l.length:Int) - 1 - ((x.1+1:Nat):Int))) rfl s kI iiz fun a w s=> ?_
  refine zB rfl ?_
  have hb:=s.below
  replace hR:=hR.below hb
  replace hF:=hF.trans hb
  replace s:=s.anewB rfl rfl
  exact ⟨(x.1+1,(x.2.set x.1 (x.2.getD j 0)).set j (x.2.getD x.1 0)),(by show l.length - 2*(x.1+1)<l.length - 2*x.1;omega),hI.step oP oP,(by show x.1+1<=_;omega),hR,hF,s.keepK _ (fmz ⟨zK4,fmz ⟨mz1,fmz ⟨.head _,fnz⟩⟩⟩)⟩
 ·have hge:l.length<=2*x.1+1:=by have:=zUi e;omega
  refine zUm ?_
  exact s.retN0 rfl ⟨_,rfl,trivial,by rw [<-hI.done hge];exact hR,hF⟩
def jI (E:Adj) (N:Nat) (x z:Int):List Int×Rat×Bool:=
 if (!(yS N x)|| !(yS N z)||decide ((ssR E N x).getD z.toNat 0<0))=true then ([],0,false)
 else (jO ((z.toNat::zHp (nxF E N (csR E N x) (ssR E N x)) x.toNat ((ssR E N x).getD z.toNat 0).toNat z.toNat).reverse),(csR E N x).getD z.toNat 0,true)
theorem zES {E:Adj} {N:Nat} {x:Int} (hG:Gok E N) (h:yS N x=true):CS E N x.toNat (csR E N x) (ssR E N x):=by
 unfold csR ssR
 rw [if_pos h,if_pos h]
 exact zRK hG (jX h).1
theorem zLV (E:Adj) (N:Nat) (x:Int):(csR E N x).length=N/\(ssR E N x).length=N:=by
 unfold csR ssR
 split
 ·exact ⟨by simp [zEW,zBh],by simp [zEn,zBh]⟩
 ·simp
theorem zQf {N:Nat} {x z:Int} (e:(!(yS N x)|| !(yS N z))=false):yS N x=true/\yS N z=true:=by
 simpa using e
theorem zLA {α β:Type} (f:β->α->β) (l:List α) (d:α) (b:β) {k:Nat} (hk:k<l.length):(l.take (k+1)).foldl f b=f ((l.take k).foldl f b) (l.getD k d):=by
 have e:l.getD k d=l[k]:=by simp [hk]
 rw [zUS hk,List.foldl_append,e]
 rfl
theorem zRN {w:Wm} {b z:Nat} {e:Wp} {cs:List Wn} {C:CU} (h:w.heap[b]?=some (.cells cs.toArray e (0,0))) (hl:cs.length=z) (hn:cs.all yA=true) (hC:C.p cs w):jG w b e z 1 [C]:=by
 refine ⟨cs.toArray,h,zUs _,by decide,by simp [hl],by simpa using hn,fun i D hi=> ?_⟩
 cases i with
 |zero=>
  obtain rfl:C=D:=by simpa using hi
  show C.p ((cs.toArray.toList.drop (0*z)).take z) w
  rw [Nat.zero_mul,zUY]
  show C.p (cs.take z) w
  rw [zUL oP]
  exact hC
 |succ i=>simp at hi
theorem zON {w:Wm} {b z:Nat} {e:Wp} {C:CU} (h:jG w b e z 1 [C]): ∃cs:List Wn,w.heap[b]?=some (.cells cs.toArray e (0,0))/\cs.length=z/\C.p cs w:=by
 obtain ⟨cur,h1,_,_,h4,_,h6⟩:=h
 have h7:C.p ((cur.toList.drop (0*z)).take z) w:=h6 0 C rfl
 have hl:cur.toList.length=z:=by simpa using h4
 refine ⟨cur.toList,by rw [zUV];exact h1,hl, ?_⟩
 rw [Nat.zero_mul,zUY,zUL oP] at h7
 exact h7
theorem zMM {w:Wm} {g cap i:Nat} {e:Wp} {Cs:List CU} {q:Rat} (h:jG w g e 3 cap Cs) (hi:Cs[i]?=some (CU.agg (fQN q))): ∃cs:List Wn,w.heap[g]?=some (.cells cs.toArray e (0,0))/\i*3+3<=cs.length/\QNp q (.agg ((cs.drop (i*3)).take 3).toArray) w:=by
 obtain ⟨cur,h1,_,_,_,_,h6⟩:=h
 have h7:(CU.agg (fQN q)).p ((cur.toList.drop (i*3)).take 3) w:=h6 i _ hi
 refine ⟨cur.toList,by rw [zUV];exact h1, ?_,h7⟩
 have:=jH q _ w h7
 rw [List.length_take,List.length_drop] at this
 omega
theorem zQX {P:Ws} {a:Act} {d:Wq Tmp} {ty:Wp} {pos:String} {aft:Array Edge} {gd:Wq (Nat×Bool)} {x:Wr} {v:Wn} {U:Wm} (h:a.eval x=v):(execOp a.eval ⟨d, .assign x,ty,pos,aft,gd⟩).run P U= .ok (.value v) U:=by
 simp [execOp,h]
theorem vG {w0:Wm} {K:List (Nat×KF)} {n:Nat} {a:Act} {w:Wm} {P:Ws} (h:St w0 K [] n [] a w) {fn:Func} {f:SF} {t c r b:Nat} {e te:Wp} {cs:List Wn} (hr:fn.results=#[.tmp t, .cell c e, .tmp r]) (hz:zAx P e=some 3) (hc:a.tmps.getD c undef= pO b 0) (hb:w.heap[b]?=some (.cells cs.toArray te (0,0))) (hl:cs.length=3)
  (hv:f.p (.tuple #[a.tmps.getD t undef, .agg cs.toArray,a.tmps.getD r undef]) w):bodyPost P fn (Ret w0 f) .ret a w:=by
 rw [zUH] at hc
 refine ⟨h.nd,_, ?_,⟨_,rfl,hv,h.gr.below⟩⟩
 have h1:=zFD hz hl hb
 simp [results,hr,asAddr,hc,h1]
end Go.Proofs.Wd

namespace Go.Proofs.Wd
open Tryz
theorem zDy {N k:Nat} (h:k<N):yS N (k:Int)=true:=by rw [zGa];exact decide_eq_true h
theorem zJE {E:Adj} {N a b:Nat} (hG:Gok E N) (ha:a<N) (hb:b<N):
  (∃s:Nat,(jI E N a b).2.2=true/\Opt E a b (jI E N a b).2.1 s/\(csR E N a).getD b 0=(jI E N a b).2.1/\(ssR E N a).getD b 0=(s:Int))∨
  ((jI E N a b).2.2=false/\(jI E N a b).2.1=0/\ ¬Con E a b/\(csR E N a).getD b 0=0/\(ssR E N a).getD b 0= -1):=by
 have hCS:=zES hG (zDy ha)
 rw [zUO] at hCS
 rcases hCS.at_ b hb with ⟨s,h1,h2,h3⟩|⟨h1,h2,h3⟩
 ·left
  have hc:(!(yS N (a:Int))|| !(yS N (b:Int))||decide ((ssR E N a).getD (b:Int).toNat 0<0))=false:=by
   rw [zDy ha,zDy hb,zUO,h2,decide_eq_false oP]
   rfl
  have e:(jI E N a b).2=((csR E N a).getD b 0,true):=by
   unfold jI
   rw [if_neg (by rw [hc];decide)]
   show ((csR E N a).getD (b:Int).toNat 0,true)=_
   rw [zUO]
  exact ⟨s,by rw [e],by rw [e];exact h1,by rw [e],h2⟩
 ·right
  have hc:(!(yS N (a:Int))|| !(yS N (b:Int))||decide ((ssR E N a).getD (b:Int).toNat 0<0))=true:=by
   rw [zDy ha,zDy hb,zUO,h3]
   rfl
  have e:jI E N a b=([],0,false):=by unfold jI;rw [if_pos hc]
  refine ⟨by rw [e],by rw [e],fun ⟨c,s,k⟩=>h1 c s k,h2,h3⟩
theorem zLj {E:Adj} {N a b:Nat} (hG:Gok E N) (ha:a<N) (hb:b<N):(jI E N a b).2.2=true↔Con E a b:=by
 rcases zJE hG ha hb with ⟨s,h1,h2,_⟩|⟨h1,_,h2,_⟩
 ·exact ⟨fun _=>⟨_,_,h2.1⟩,fun _=>h1⟩
 ·exact ⟨fun h=>(by rw [h1] at h;cases h),fun h=>absurd h h2⟩
end Go.Proofs.Wd

namespace Go.Proofs.Wd
open Tryz
theorem Rch.mono {E E':Adj} (h: ∀a b f,(b,f)∈E a->(b,f)∈E' a) {a n:Nat} {c:Rat} {s:Nat} (k:Rch E a n c s):Rch E' a n c s:=by
 induction k with
 |nil=>exact .nil
 |cons _ hm ih=>exact .cons ih (h _ _ _ hm)
theorem CS.more {E E':Adj} {N a:Nat} {cs cs':List Rat} {ss ss':List Int} (h:CS E N a cs ss) (h':CS E' N a cs' ss') (hm: ∀a b f,(b,f)∈E a->(b,f)∈E' a) {n:Nat} (hn:n<N) (hs:0<=ss.getD n 0):0<=ss'.getD n 0/\cs'.getD n 0<=cs.getD n 0:=by
 obtain ⟨s,h1,_,_⟩:=h.of hn hs
 have hr:=h1.1.mono hm
 rcases h'.at_ n hn with ⟨t,k1,k2,_⟩|⟨k1,_⟩
 ·refine ⟨by omega, ?_⟩
  rcases k1.2 _ _ hr with e|⟨e,_⟩
  ·exact Rat.le_of_lt e
  ·rw [e];exact Rat.le_refl
 ·exact absurd hr (k1 _ _)
theorem CS.uniq {E E':Adj} {N a:Nat} {cs cs':List Rat} {ss ss':List Int} (h:CS E N a cs ss) (h':CS E' N a cs' ss') (hm: ∀a b f,(b,f)∈E a↔(b,f)∈E' a):cs=cs'/\ss=ss':=by
 have hr: ∀{n c s},Rch E a n c s↔Rch E' a n c s:=⟨fun k=>k.mono fun a b f e=>(hm a b f).1 e,fun k=>k.mono fun a b f e=>(hm a b f).2 e⟩
 have hat: ∀n,n<N->cs.getD n 0=cs'.getD n 0/\ss.getD n 0=ss'.getD n 0:=fun n hn=>by
  rcases h.at_ n hn with ⟨s,h1,h2,_⟩|⟨h1,h2,h3⟩<;>rcases h'.at_ n hn with ⟨t,k1,k2,_⟩|⟨k1,k2,k3⟩
  ·have k1':Opt E a n (cs'.getD n 0) t:=⟨hr.2 k1.1,fun c s k=>k1.2 c s (hr.1 k)⟩
   obtain ⟨e1,e2⟩:=h1.one k1'
   exact ⟨e1,by rw [h2,k2,e2]⟩
  ·exact absurd (hr.1 h1.1) (k1 _ _)
  ·exact absurd (hr.2 k1.1) (h1 _ _)
  ·exact ⟨by rw [h2,k2],by rw [h3,k3]⟩
 refine ⟨zUN (h.cl.trans h'.cl.symm) fun n h1 h2=> ?_,zUN (h.sl.trans h'.sl.symm) fun n h1 h2=> ?_⟩
 ·have:=(hat n (by rw [<-h.cl];exact h1)).1
  simpa [h1,h2] using this
 ·have:=(hat n (by rw [<-h.sl];exact h1)).2
  simpa [h1,h2] using this
theorem CS.twice {E E':Adj} {N a:Nat} {cs cs':List Rat} {ss ss':List Int} (h:CS E N a cs ss) (h':CS E' N a cs' ss') (hm: ∀a b f,(b,f)∈E a->(b,f+f)∈E' a) (hm': ∀a b f,(b,f)∈E' a-> ∃g,f=g+g/\(b,g)∈E a) {n:Nat} (hn:n<N):cs'.getD n 0=cs.getD n 0+cs.getD n 0/\ss'.getD n 0=ss.getD n 0:=by
 have h2: ∀{n c s},Rch E a n c s->Rch E' a n (c+c) s:=fun k=>by
  induction k with
  |nil=>rw [zUE];exact .nil
  |@cons n b c f s _ he ih=>
   have e:c+f+(c+f)=c+c+(f+f):=by grind
   rw [e]
   exact .cons ih (hm _ _ _ he)
 have h3: ∀{n c s},Rch E' a n c s-> ∃g,c=g+g/\Rch E a n g s:=fun k=>by
  induction k with
  |nil=>exact ⟨0,by rw [zUE], .nil⟩
  |@cons n b c f s _ he ih=>
   obtain ⟨g,e,hg⟩:=ih
   obtain ⟨g',e',hg'⟩:=hm' _ _ _ he
   exact ⟨g+g',by rw [e,e'];grind, .cons hg hg'⟩
 rcases h.at_ n hn with ⟨s,g1,g2,_⟩|⟨g1,g2,g3⟩<;>rcases h'.at_ n hn with ⟨t,k1,k2,_⟩|⟨k1,k2,k3⟩
 ·have ho:Opt E' a n (cs.getD n 0+cs.getD n 0) s:=⟨h2 g1.1,fun c s' k=>by
   obtain ⟨g,e,hg⟩:=h3 k
   subst e
   rcases g1.2 _ _ hg with e|⟨e,e'⟩
   ·exact .inl (by grind)
   ·exact .inr ⟨by rw [e],e'⟩⟩
  obtain ⟨e1,e2⟩:=k1.one ho
  exact ⟨e1,by rw [g2,k2,e2]⟩
 ·exact absurd (h2 g1.1) (k1 _ _)
 ·obtain ⟨g,_,hg⟩:=h3 k1.1
  exact absurd hg (g1 _ _)
 ·rw [g2,g3,k2,k3]
  exact ⟨by rw [zUE],rfl⟩
theorem zBH {N:Nat} {js:List (Int×Int)} {fs:List Rat} {a b:Nat} {f:Rat}:(b,f)∈grE N js fs a↔ ∃i,i<js.length/\zB0 N (js.getD i (0,0))=true/\f=zDj fs i/\((a=(js.getD i (0,0)).1.toNat/\b=(js.getD i (0,0)).2.toNat)∨(a=(js.getD i (0,0)).2.toNat/\b=(js.getD i (0,0)).1.toNat)):=by
 constructor
 ·intro h
  obtain ⟨i,hi,hj,h⟩:=zHP (zCN.1 h)
  refine ⟨i,hi,hj, ?_⟩
  rcases h with h|h<;>simp only [Prod.mk.injEq] at h<;>obtain ⟨rfl,rfl,rfl⟩:=h
  ·exact ⟨rfl, .inl ⟨rfl,rfl⟩⟩
  ·exact ⟨rfl, .inr ⟨rfl,rfl⟩⟩
 ·rintro ⟨i,hi,hj,rfl,h⟩
  refine zCN.2 ?_
  unfold rds zAC
  rw [List.mem_flatMap]
  refine ⟨i,List.mem_range.2 hi, ?_⟩
  unfold zFG
  rw [if_pos hj]
  rcases h with ⟨rfl,rfl⟩|⟨rfl,rfl⟩<;>simp
theorem zQh {N:Nat} {js:List (Int×Int)} {fs:List Rat} {x:Int×Int} {far:Rat} (hl:fs.length=js.length) {a b:Nat} {f:Rat} (h:(b,f)∈grE N js fs a):(b,f)∈grE N (js++ [x]) (fs++ [far]) a:=by
 obtain ⟨i,hi,hj,e,h⟩:=zBH.1 h
 have e1:(js++ [x]).getD i (0,0)=js.getD i (0,0):=by simp [zVb hi]
 have e2:zDj (fs++ [far]) i=zDj fs i:=by unfold zDj;simp [zVb (show i<fs.length by omega)]
 exact zBH.2 ⟨i,by simp;omega,by rw [e1];exact hj,by rw [e2];exact e,by rw [e1];exact h⟩
theorem zEL (N:Nat) (j:Int×Int):zB0 N (j.2,j.1)=zB0 N j:=by
 unfold zB0
 rw [zUP]
 simp only [Bool.not_eq_true',zUp,zUw,zUW]
 constructor<;>(rintro ⟨⟨h1,h2⟩,h3⟩;exact ⟨⟨fun h=>h1 h.symm,h3⟩,h2⟩)
theorem zQg {N:Nat} {js:List (Int×Int)} {fs:List Rat} (hl:fs.length=js.length) {a b:Nat} {f:Rat}:(b,f)∈grE N (js.map fun j=>(j.2,j.1)).reverse fs.reverse a↔(b,f)∈grE N js fs a:=by
 have key: ∀i,i<js.length->((js.map fun j=>(j.2,j.1)).reverse).getD i (0,0)=((js.getD (js.length - 1 - i) (0,0)).2,(js.getD (js.length - 1 - i) (0,0)).1)/\zDj fs.reverse i=zDj fs (js.length - 1 - i):=fun i hi=>by
  have h1:js.length - 1 - i<js.length:=by omega
  refine ⟨?_, ?_⟩
  ·simp [hi,h1]
  ·unfold zDj
   have e:fs.reverse.getD i 0=fs.getD (js.length - 1 - i) 0:=by
    have h2:i<fs.length:=by omega
    have h3:fs.length - 1 - i<fs.length:=by omega
    rw [<-hl]
    simp [h2,h3]
   rw [e]
 constructor
 ·intro h
  obtain ⟨i,hi,hj,e,h⟩:=zBH.1 h
  have hi':i<js.length:=by simpa using hi
  obtain ⟨k1,k2⟩:=key i hi'
  rw [k1] at hj h
  rw [zEL] at hj
  exact zBH.2 ⟨js.length - 1 - i,by omega,hj,by rw [<-k2];exact e,h.symm⟩
 ·intro h
  obtain ⟨i,hi,hj,e,h⟩:=zBH.1 h
  obtain ⟨k1,k2⟩:=key (js.length - 1 - i) oP
  rw [show js.length - 1 - (js.length - 1 - i)=i by omega] at k1 k2
  exact zBH.2 ⟨js.length - 1 - i,by simp;omega,by rw [k1,zEL];exact hj,by rw [k2];exact e,by rw [k1];exact h.symm⟩
theorem zHd (fs:List Rat) (i:Nat):zDj (fs.map fun q=>q+q) i=zDj fs i+zDj fs i:=by
 have e:(fs.map fun q=>q+q).getD i 0=fs.getD i 0+fs.getD i 0:=by
  rcases zUx i fs.length with h|h
  ·simp [h]
  ·simp [h,zUE]
 unfold zDj
 rw [e]
 by_cases h:0<fs.getD i 0
 ·rw [if_pos h,if_pos (by grind)]
 ·rw [if_neg h,if_neg (by grind),zUE]
theorem zIZ {N:Nat} {js:List (Int×Int)} {fs:List Rat} {a b:Nat} {f:Rat}:((b,f)∈grE N js fs a->(b,f+f)∈grE N js (fs.map fun q=>q+q) a)/\((b,f)∈grE N js (fs.map fun q=>q+q) a-> ∃g,f=g+g/\(b,g)∈grE N js fs a):=by
 refine ⟨fun h=> ?_,fun h=> ?_⟩
 ·obtain ⟨i,hi,hj,e,h⟩:=zBH.1 h
  exact zBH.2 ⟨i,hi,hj,by rw [zHd,e],h⟩
 ·obtain ⟨i,hi,hj,e,h⟩:=zBH.1 h
  exact ⟨zDj fs i,by rw [e,zHd],zBH.2 ⟨i,hi,hj,rfl,h⟩⟩
end Go.Proofs.Wd

namespace Go.Proofs.Wd
open Tryz
abbrev wkJ:List (Int×Int):= [(0,1),(1,2),(0,2)]
theorem zOW:jI (grE 4 wkJ [1,1,2]) 4 0 2=([0,2],2,true):=by decide+kernel
theorem zOV:(jI (grE 4 wkJ [1,1,2]) 4 0 3).2.2=false:=by decide+kernel
theorem zOU {lab:List Int} (h:Labd (grE 4 wkJ []) 4 lab):lab= [0,0,0,3]:=by
 have hc: ∀a b,a<4->b<4->(Con (grE 4 wkJ []) a b↔(jI (grE 4 wkJ []) 4 (a:Int) (b:Int)).2.2=true):=fun a b ha hb=>(zLj (zGb _ _ _) ha hb).symm
 refine h.one ⟨rfl,fun n hn=> ?_⟩
 have hn':n=0∨n=1∨n=2∨n=3:=by omega
 rcases hn' with rfl|rfl|rfl|rfl
 ·exact ⟨0,rfl,zUs _,Con.refl _ _,fun m hm=>absurd hm (zUy _)⟩
 ·exact ⟨0,rfl,by omega,(hc 0 1 dB dB).2 (by decide+kernel),fun m hm=>absurd hm (zUy _)⟩
 ·exact ⟨0,rfl,by omega,(hc 0 2 dB dB).2 (by decide+kernel),fun m hm=>absurd hm (zUy _)⟩
 ·refine ⟨3,rfl,zUs _,Con.refl _ _,fun m hm hcon=> ?_⟩
  have h1:=(hc m 3 oP dB).1 hcon
  have hm':m=0∨m=1∨m=2:=by omega
  rcases hm' with rfl|rfl|rfl<;>exact absurd h1 (by decide+kernel)
theorem zJU (fs:List Rat) (h: ∀q,q∈fs->q=1∨q=2):GrB 4 wkJ fs:=by
 refine ⟨by decide,by decide,fun i=> ?_⟩
 have hz:TnR 0:=⟨0,by simp,by omega⟩
 unfold zDj
 split
 ·rcases zUx i fs.length with hi|hi
  ·have hm:fs.getD i 0∈fs:=by rw [zUu,zUo hi];exact zUJ hi
   rcases h _ hm with e|e
   ·rw [e];exact ⟨27720,by decide+kernel,by omega⟩
   ·rw [e];exact ⟨55440,by decide+kernel,by omega⟩
  ·rw [zUu,zUX hi];exact hz
 ·exact hz
/-! ### A road of the answer by definition: five cells -/
end Go.Proofs.Wd

namespace Go.Proofs.Wd
open Tryz
set_option maxRecDepth 100000
set_option maxHeartbeats 1000000
open Go.RowKit Lb
theorem zC0 {W:Wm} {la lb:List Int} {u v:Wn} (hu:(SF.row 1 (ins la)).p u W) (hv:(SF.row 1 (ins lb)).p v W) (hl:la.length<=1000000):Calls prog 19 #[u,v] W (Ret W (fB (la==lb)).tS):=by
 refine qH [SF.row 1 (ins la),SF.row 1 (ins lb)] func19 rfl kI ⟨hu,hv,trivial⟩ fun a s=> ?_
 refine zUb ?_
 refine zC 1 ((4, .u (uB false)):: []) hmix s kI
  (oc zG<|zE) fun a w1 s=> ?_
 refine zB rfl ?_
 refine zUb ?_
 refine zUb ?_
 refine zC 5 ((6, .s (SF.row 1 (ins la)))::(7, .Z (uI ((ins la).length:Int)))::(8, .s (SF.row 1 (ins lb)))::(9, .Z (uI ((ins lb).length:Int)))::(10, .u (uB (((ins la).length:Int) !=((ins lb).length:Int)))):: []) hmix s kI
  (oc zA<|oc (zCa (z:=1) (Cs:=ins la) kI iiz (fun _=>rfl))<|oc zA<|oc (zCa (z:=1) (Cs:=ins lb) kI iiz (fun _=>rfl))<|oc (zP .i64 ((ins la).length:Int) ((ins lb).length:Int) (((ins la).length:Int) !=((ins lb).length:Int)) iiz iiz rfl rfl)<|zE) fun a w2 s=> ?_
 refine zB rfl ?_
 refine StS.cond s (((ins la).length:Int) !=((ins lb).length:Int)) iiz (fun e=> ?_) (fun e=> ?_)
 ·have hne:(la==lb)=false:=by rw [zUw];intro h;rw [h] at e;simp at e
  refine zUb ?_
  replace s:=s.drop [4]
  refine zC 1 ((4, .u (uB false)):: []) hmix s kI
   (oc zG<|zE) fun a w3 s=> ?_
  refine zB rfl ?_
  refine zUh ?_
  exact wF s (t:=4) rfl (fun v W h=>by rw [hne];exact h)
 ·have hlen:la.length=lb.length:=by simp only [zUe,bne_eq_false_iff_eq] at e;omega
  refine zUg ?_
  refine zUb ?_
  refine zUb ?_
  refine zC 1 ((5, .u (uI 0)):: []) hmix s kI
   (oc zG<|zE) fun a w4 s=> ?_
  refine zB rfl ?_
  refine zUd ?_
  refine yM (fun (y:Nat) a w=>y<=la.length/\(∀k,k<y->la.getD k 0=lb.getD k 0)/\St W [(0, .o (SF.row 1 (ins la))),(1, .o (SF.row 1 (ins lb))),(5, .u (uI ((y:Nat):Int)))] [] f19.ntmps [] a w) (fun y=>la.length - y) 0 ⟨zUl _,fun k hk=>absurd hk (zUy _),s.keepK _ (fmz ⟨mz3,fmz ⟨mz4,fmz ⟨.head _,fnz⟩⟩⟩)⟩ fun y a w hx=> ?_
  obtain ⟨hk,hal,s⟩:=hx
  refine zUb ?_
  refine zUb ?_
  refine zC 4 ((11, .Z (uI (y:Int)))::(12, .s (SF.row 1 (ins la)))::(13, .Z (uI ((ins la).length:Int)))::(14, .u (uB (decide ((y:Int)<((ins la).length:Int))))):: []) hmix s kI
   (oc zA<|oc zA<|oc (zCa (z:=1) (Cs:=ins la) kI iiz (fun _=>rfl))<|oc (zP .i64 (y:Int) ((ins la).length:Int) (decide ((y:Int)<((ins la).length:Int))) iiz iiz rfl rfl)<|zE) fun a w5 s=> ?_
  refine zB rfl ?_
  refine StS.cond s (decide ((y:Int)<((ins la).length:Int))) iiz (fun e=> ?_) (fun e=> ?_)
  ·have hya:y<la.length:=by have h7:=zUj e;simp only [zUe] at h7;omega
   have hyb:y<lb.length:=by omega
   refine zUg ?_
   refine zUb ?_
   refine zUd ?_
   refine zUb ?_
   refine zC 9 ((17, .s (SF.row 1 (ins la)))::(18, .Z (uI (y:Int)))::(19, .s (wC (wB [.int .i64 (la.getD y 0)]).cf))::(20, .Z (uI (la.getD y 0)))::(21, .s (SF.row 1 (ins lb)))::(22, .Z (uI (y:Int)))::(23, .s (wC (wB [.int .i64 (lb.getD y 0)]).cf))::(24, .Z (uI (lb.getD y 0)))::(25, .u (uB ((la.getD y 0) !=(lb.getD y 0)))):: []) hmix s kI
    (oc zA<|oc zA<|oc (zCt (z:=1) (Cs:=ins la) (i:=y) (C:=wB [.int .i64 (la.getD y 0)]) kI (zAY hya) iiz iiz)<|oc (yR (C:=(wB [.int .i64 (la.getD y 0)]).cf) kI iiz jF)<|oc zA<|oc zA<|oc (zCt (z:=1) (Cs:=ins lb) (i:=y) (C:=wB [.int .i64 (lb.getD y 0)]) kI (zAY hyb) iiz iiz)<|oc (yR (C:=(wB [.int .i64 (lb.getD y 0)]).cf) kI iiz jF)<|oc (zP .i64 (la.getD y 0) (lb.getD y 0) ((la.getD y 0) !=(lb.getD y 0)) iiz iiz rfl rfl)<|zE) fun a w6 s=> ?_
   refine zB rfl ?_
   refine StS.cond s ((la.getD y 0) !=(lb.getD y 0)) iiz (fun e=> ?_) (fun e=> ?_)
   ·have hne:(la==lb)=false:=by rw [zUw];intro h;rw [h] at e;simp at e
    refine zUb ?_
    refine zC 1 ((4, .u (uB false)):: []) hmix s kI
     (oc zG<|zE) fun a w7 s=> ?_
    refine zB rfl ?_
    refine zUh ?_
    exact wF s (t:=4) rfl (fun v W h=>by rw [hne];exact h)
   ·have hxy:la.getD y 0=lb.getD y 0:=by simpa using e
    refine zUg ?_
    refine yI 2 ((15, .Z (uI (y:Int)))::(16, .u (uI ((y+1:Nat):Int))):: []) s kI
     (oc zA<|oc (qX .i64 (y:Int) 1 ((y+1:Nat):Int) iiz iiz (wrap64 _ _ oP oP))<|zE) fun a w8 s=> ?_
    replace s:=s.drop [5]
    refine qN (uI ((y+1:Nat):Int)) rfl s kI iiz fun a w s=> ?_
    refine zB rfl ?_
    exact ⟨y+1,(by show la.length - (y+1)<la.length - y;omega),hya,(fun k hk'=>by
     rcases zUx k y with h|h
     ·exact hal k h
     ·have:k=y:=by omega
      rw [this];exact hxy),s.keepK _ (fmz ⟨mz4,fmz ⟨mz5,fmz ⟨.head _,fnz⟩⟩⟩)⟩
  ·have hye:y=la.length:=by have h7:=zUi e;simp only [zUe] at h7;omega
   have heq:(la==lb)=true:=by rw [zUB];exact zUN hlen fun k h1 h2=>by have:=hal k oP;simpa [h1,h2] using this
   refine zUm ?_
   refine zUb ?_
   refine zC 1 ((4, .u (uB true)):: []) hmix s kI
    (oc zG<|zE) fun a w9 s=> ?_
   refine zB rfl ?_
   refine zUh ?_
   exact wF s (t:=4) rfl (fun v W h=>by rw [heq];exact h)
end Go.Proofs.Wd

namespace Go.Proofs.Wd
open Tryz
set_option maxRecDepth 100000
set_option maxHeartbeats 1000000
open Go.RowKit Lb
abbrev qzs (l:List Int):List Rat:=l.map fun z:Int=>(z:Rat)
theorem zM4 (l:List Int) {k:Nat} (hk:k<l.length):qns ((qzs l).take k)++ [CU.agg (fQN ((l.getD k 0:Int):Rat))]=qns ((qzs l).take (k+1)):=by
 have hk':k<(qzs l).length:=by simpa using hk
 rw [zUS hk']
 unfold qns
 rw [zUK]
 congr 1
 simp [hk]
theorem zLl {W:Wm} {l:List Int} {lv:Wn} (hl:(SF.row 1 (ins l)).p lv W) (hll:l.length<=1000) (hlz: ∀k,k<l.length->-9223372036854775808<=l.getD k 0/\l.getD k 0<=9223372036854775807):Calls prog 25 #[lv] W (Ret W (wE W 32 3 (qns (qzs l)))):=by
 have hFr:Below W.heap.size W W:=zUn _ _
 have hlw:=hl
 refine qH [(UF.eq lv).tS] func25 rfl kI ⟨rfl,trivial⟩ fun a s=> ?_
 replace s:=s.renew [(0, .u (UF.eq lv))] (fmz ⟨.inr ⟨_,rfl, .head _⟩,fnz⟩)
 refine zUb ?_
 refine zC 1 ((2, .u (UF.eq (.slice none 0 0))):: []) hmix s kI
  (oc zG<|zE) fun a w1 s=> ?_
 refine zB rfl ?_
 have hb:=s.below
 replace hFr:=hFr.trans (hb.mono hFr.size)
 replace hlw:=(SF.row 1 (ins l)).st _ _ _ hlw hb
 replace s:=s.anewB rfl rfl
 refine zUb ?_
 refine zC 1 ((3, .u (UF.eq (.slice none 0 0))):: []) hmix s kI
  (oc zG<|zE) fun a w2 s=> ?_
 refine zB rfl ?_
 have hb:=s.below
 replace hFr:=hFr.trans (hb.mono hFr.size)
 replace hlw:=(SF.row 1 (ins l)).st _ _ _ hlw hb
 replace s:=s.anewB rfl rfl
 refine zUb ?_
 refine zUb ?_
 refine zC 1 ((4, .u (uI 0)):: []) hmix s kI
  (oc zG<|zE) fun a w3 s=> ?_
 refine zB rfl ?_
 have hb:=s.below
 replace hFr:=hFr.trans (hb.mono hFr.size)
 replace hlw:=(SF.row 1 (ins l)).st _ _ _ hlw hb
 replace s:=s.anewB rfl rfl
 refine zUd ?_
 have hR:y9 w3 W.heap.size 32 3 (.slice none 0 0) (qns ((qzs l).take 0)):=y9.nil _ _ _ _
 refine yM (fun (y:Nat×Wn) a w=>y.1<=l.length/\Below W.heap.size W w/\(SF.row 1 (ins l)).p lv w/\y9 w W.heap.size 32 3 y.2 (qns ((qzs l).take y.1))/\St w [(0, .u (UF.eq lv)),(3, .u (UF.eq (y.2))),(4, .u (uI (y.1:Int)))] [] f25.ntmps [] a w) (fun y=>l.length - y.1) (0, .slice none 0 0) ⟨zUl _,hFr,hlw,hR,s.keepK _ (fmz ⟨mz3,fmz ⟨mz1,fmz ⟨.head _,fnz⟩⟩⟩)⟩ fun y a w hx=> ?_
 clear hFr hlw hR
 obtain ⟨hk,hFr,hlw,hR,s⟩:=hx
 refine zUb ?_
 refine zUb ?_
 refine zC 4 ((5, .Z (uI (y.1:Int)))::(6, .Z (UF.eq lv))::(7, .Z (uI ((ins l).length:Int)))::(8, .u (uB (decide ((y.1:Int)<((ins l).length:Int))))):: []) hmix s kI
  (oc zA<|oc zA<|oc (qK (z:=1) (Cs:=ins l) kI (fun v W hb h=>(yT hlw h (s.up hb))) (fun _=>rfl))<|oc (zP .i64 (y.1:Int) ((ins l).length:Int) (decide ((y.1:Int)<((ins l).length:Int))) iiz iiz rfl rfl)<|zE) fun a w4 s=> ?_
 refine zB rfl ?_
 have hb:=s.below
 replace hFr:=hFr.trans (hb.mono hFr.size)
 replace hlw:=(SF.row 1 (ins l)).st _ _ _ hlw hb
 replace hR:=hR.below hb
 replace s:=s.anewB rfl rfl
 refine StS.cond s (decide ((y.1:Int)<((ins l).length:Int))) iiz (fun e=> ?_) (fun e=> ?_)
 ·have hyl:y.1<l.length:=by have h7:=zUj e;simp only [zUe] at h7;omega
  refine zUg ?_
  refine zUb ?_
  refine zUd ?_
  refine zBn 7 ((11, .u (UF.eq (y.2)))::(12, .Z (UF.eq lv))::(13, .Z (uI (y.1:Int)))::(14, .s (wC (wB [.int .i64 (l.getD y.1 0)]).cf))::(15, .Z (uI (l.getD y.1 0)))::(16, .Z (fQN ((l.getD y.1 0:Int):Rat)))::(17, .s (wE w4 32 3 [CU.agg (fQN ((l.getD y.1 0:Int):Rat))])):: []) s kI
   (oc zA<|oc zA<|oc zA<|oc (zT (z:=1) (Cs:=ins l) (i:=y.1) (C:=wB [.int .i64 (l.getD y.1 0)]) kI (zAY hyl) (fun v W hb h=>(yT hlw h (s.up hb))) iiz)<|oc (yR (C:=(wB [.int .i64 (l.getD y.1 0)]).cf) kI iiz jF)<|oc (zM zF zNI (fun u0 W hb (h0:u0= .int .i64 (l.getD y.1 0))=>zIz _ h0 (hlz _ hyl)))<|oc (jU (fun u W hb (hu:QNp ((l.getD y.1 0:Int):Rat) u W)=>by obtain ⟨cs,g1,g2⟩:=zQP hu;exact ⟨_,cs,g1,g2.toN hb.size rfl⟩))<|zE) fun a w5 s hr=> ?_
  have hb:=s.below
  replace hFr:=hFr.trans (hb.mono hFr.size)
  replace hlw:=(SF.row 1 (ins l)).st _ _ _ hlw hb
  replace hR:=hR.below hb
  have hrow:=(hr (_,_) mz6)
  refine zEi (base:=W.heap.size) (z:=3) (e:=32) (v:=y.2) (Cs:=qns ((qzs l).take y.1)) [CU.agg (fQN ((l.getD y.1 0:Int):Rat))] s hR hFr.size rfl kI kI rfl rfl (s.fct (.tmp 11)) (y9.row hrow) (fun C hC=>by obtain rfl:=zUq.1 hC;exact zQ8 _) (by simp only [zUe,List.length_take,zUr];omega) (fun q hq=>by cases hq) fun v' a w hR1 hF1 hk1 hor s=> ?_
  replace hlw:=(SF.row 1 (ins l)).st _ _ _ hl (yN hFr hF1 (fun q hq=>(hR.lt q hq).1))
  replace hFr:=yN hFr hF1 (fun q hq=>(hR.lt q hq).1)
  replace hR:=hR1
  rw [zM4 l hyl] at hR
  replace s:=s.drop [3]
  refine qN (UF.eq v') rfl s kI iiz fun a w s=> ?_
  refine zB rfl ?_
  have hb:=s.below
  replace hFr:=hFr.trans (hb.mono hFr.size)
  replace hlw:=(SF.row 1 (ins l)).st _ _ _ hlw hb
  replace hR:=hR.below hb
  replace s:=s.anewB rfl rfl
  refine yI 2 ((9, .Z (uI (y.1:Int)))::(10, .u (uI ((y.1+1:Nat):Int))):: []) s kI
   (oc zA<|oc (qX .i64 (y.1:Int) 1 ((y.1+1:Nat):Int) iiz iiz (wrap64 _ _ oP oP))<|zE) fun a w6 s=> ?_
  replace s:=s.drop [4]
  refine qN (uI ((y.1+1:Nat):Int)) rfl s kI iiz fun a w s=> ?_
  refine zB rfl ?_
  have hb:=s.below
  replace hFr:=hFr.trans (hb.mono hFr.size)
  replace hlw:=(SF.row 1 (ins l)).st _ _ _ hlw hb
  replace hR:=hR.below hb
  replace s:=s.anewB rfl rfl
  exact ⟨(y.1+1,v'),(by show l.length - (y.1+1)<l.length - y.1;omega),hyl,hFr,hlw,hR,s.keepK _ (fmz ⟨mz6,fmz ⟨mz2,fmz ⟨.head _,fnz⟩⟩⟩)⟩
 ·have hye:y.1=l.length:=by have h7:=zUi e;simp only [zUe] at h7;omega
  refine zUm ?_
  refine zUb ?_
  refine zC 2 ((19, .Z (UF.eq (y.2)))::(2, .u (UF.eq (y.2))):: []) hmix s kI
   (oc zA<|oc zG<|zE) fun a w7 s=> ?_
  refine zB rfl ?_
  have hb:=s.below
  replace hFr:=hFr.trans (hb.mono hFr.size)
  replace hlw:=(SF.row 1 (ins l)).st _ _ _ hlw hb
  replace hR:=hR.below hb
  replace s:=s.anewB rfl rfl
  refine zUh ?_
  rw [hye,zUL (by simp)] at hR
  exact StS.resN s hFr rfl (by rw [show a.tmps.getD _ undef=_ from s.fct (.tmp 2)];exact hR.below s.below)
theorem zTJ (a b:Int):zS prog 24 2 [(0, .int .i64 a),(1, .int .i64 b)]=some (3,#[.int .i64 a, .int .i64 b]):=by kernel_rfl
theorem zTI (a b c:Int):zS prog 24 3 [(0, .int .i64 a),(1, .int .i64 b),(2, .int .i64 c)]=some (3,#[.int .i64 a, .int .i64 b, .int .i64 c]):=by kernel_rfl
theorem zTH (a b c d:Int):zS prog 24 4 [(0, .int .i64 a),(1, .int .i64 b),(2, .int .i64 c),(3, .int .i64 d)]=some (3,#[.int .i64 a, .int .i64 b, .int .i64 c, .int .i64 d]):=by kernel_rfl
theorem zEt (l:List Int) (W:Wm) (hl:l.length<=1000):jG (W.alloc (.cells (l.map (fun z=>Value.int .i64 z)).toArray 3)) W.heap.size 3 1 l.length (ins l):=by
 refine ⟨_,zUz W _,by simp,zUG hl dB,by simp,by simp [yA],fun i C hi=> ?_⟩
 rw [Nat.mul_one]
 have hlt:i<l.length:=by
  rcases zUx i l.length with h|h
  ·exact h
  ·rw [zUX (by simpa using h)] at hi;cases hi
 have e:wB [.int .i64 (l.getD i 0)]=C:=by rw [zAY hlt] at hi;exact zUk hi
 rw [<-e]
 show ((l.map (fun z=>Value.int .i64 z)).toArray.toList.drop i).take 1= [Value.int .i64 (l.getD i 0)]
 show ((l.map (fun z=>Value.int .i64 z)).drop i).take 1=_
 rw [List.take_one,List.head?_drop]
 simp [hlt]
theorem zR4 (a b:Int):prog.built 47 [(0, .int .i64 a),(1, .int .i64 b)]=some #[.int .i64 a, .int .i64 b]:=by kernel_rfl
theorem zSj (a b c d e f:Int):zS prog 22 3 [(0, .agg #[.int .i64 a, .int .i64 b]),(1, .agg #[.int .i64 c, .int .i64 d]),(2, .agg #[.int .i64 e, .int .i64 f])]=some (47,#[.int .i64 a, .int .i64 b, .int .i64 c, .int .i64 d, .int .i64 e, .int .i64 f]):=by kernel_rfl
theorem zMN (a b c d e f:Int) (W:Wm):jG (W.alloc (.cells #[.int .i64 a, .int .i64 b, .int .i64 c, .int .i64 d, .int .i64 e, .int .i64 f] 47)) W.heap.size 47 2 3 (jns [(a,b),(c,d),(e,f)]):=by
 refine ⟨_,zUz W _,zUs _,by decide,rfl,rfl,fun i C hi=> ?_⟩
 match i,hi with
 |0,hi=>obtain rfl:=zUk hi;rfl
 |1,hi=>obtain rfl:=zUk hi;rfl
 |2,hi=>obtain rfl:=zUk hi;rfl
 |i+3,hi=>simp at hi
end Go.Proofs.Wd

namespace Go.Proofs.Wd
open Tryz
set_option maxRecDepth 100000
set_option maxHeartbeats 1000000
open Go.RowKit Lb
def tnB (x:QX):Bool:=decide (x.n<=1)&&decide (x.n'<=1)&&(decide (x.n=0)||decide (x.k.natAbs<=999))&&(decide (x.n'=0)||decide (x.d<=12))
def zCT (n x:Nat):UF:= .mk' (LVx n x) fun _ _ _ ⟨A,c,l,e,h1,h2,h3⟩ u=>⟨A,c,l,e,h1.keepU u,h2,h3⟩
theorem zEg {n n':Nat} {k:Int} {d:Nat} (cs:List Wn) (W:Wm) (h:(CU.agg (fQX n n' k d)).p cs W): ∃u,cs[1]?=some u/\LVx n k.natAbs u W:=by
 obtain ⟨b,s,t,e,⟨sg,A,c,l,e1,h1,h2,h3⟩,_⟩:=h
 rw [zAq e]
 have:=zUf Array.toList (zAk e1)
 simp at this
 exact ⟨s,rfl,A,c,l,this.2,h1,h2,by rw [<-h3,zG7]⟩
theorem zGu {n n':Nat} {k:Int} {d:Nat} (cs:List Wn) (W:Wm) (h:(CU.agg (fQX n n' k d)).p cs W): ∃u,cs[2]?=some u/\LVx n' d u W:=by
 obtain ⟨b,s,t,e,_,h1⟩:=h
 rw [zAq e]
 exact ⟨t,rfl,h1⟩
theorem zLc {n x:Nat} {v:Wn} {W:Wm} (hn:n=1) (h:LVx n x v W):(SF.row 1 [wB [.int .u32 (x:Int)]]).p v W:=by
 subst hn
 obtain ⟨A,c,l,rfl,h1,h2,h3⟩:=h
 refine ⟨A,c,rfl,h1.le,h1.cap,h1.nil,fun i C hi=> ?_⟩
 have hl:=h1.len
 match l,hl with
 | [z],_=>
  obtain ⟨b,o,e,hc⟩:=h1.cells 0 oP
  have h4:x=z:=by rw [<-h3];simp [val,sm,lm]
  cases i with
  | zero=>
   obtain rfl:wB [.int .u32 (x:Int)]=C:=by simpa using hi
   refine ⟨b,o,_,e,fun j u hj=> ?_,rfl⟩
   cases j with
   |zero=>
    obtain rfl:Value.int .u32 (x:Int)=u:=by simpa using hj
    rw [h4]
    simpa [lm] using hc
   |succ j=>simp at hj
  |succ i=>simp at hi
theorem zRk {n x:Nat} {v:Wn} {W:Wm} (hn:n=0) (h:LVx n x v W):x=0:=by
 subst hn
 obtain ⟨A,c,l,rfl,h1,h2,h3⟩:=h
 rw [<-h3,zU2 h1.len]
 rfl
theorem zDU {x:QX} {v:Wn} {W:Wm} (hx:QXp x.n x.n' x.k x.d v W) (h:tnB x=true):x.n<=1/\x.n'<=1/\x.k.natAbs<=999/\x.d<=12:=by
 unfold tnB at h
 simp only [zUt,zUQ,zUD] at h
 obtain ⟨⟨⟨h1,h2⟩,h3⟩,h4⟩:=h
 obtain ⟨b,s,t,e,⟨sg,A,c,l,e1,g1,g2,g3⟩,h5⟩:=hx
 refine ⟨h1,h2, ?_, ?_⟩
 ·rcases h3 with h3|h3
  ·have:l= []:=zU2 (by rw [g1.len];exact h3)
   subst this
   rw [<-g3,zG7]
   exact zUl _
  ·exact h3
 ·rcases h4 with h4|h4
  ·rw [zRk h4 h5];exact zUl _
  ·exact h4
theorem zLS {d:Nat} (h0:d≠0) (h:d<=12): ∃e:Nat,27720=d*e/\e<=27720:=by
 have h':d=1∨d=2∨d=3∨d=4∨d=5∨d=6∨d=7∨d=8∨d=9∨d=10∨d=11∨d=12:=by omega
 refine ⟨27720 / d, ?_,Nat.div_le_self _ _⟩
 rcases h' with rfl|rfl|rfl|rfl|rfl|rfl|rfl|rfl|rfl|rfl|rfl|rfl<;>decide
theorem zTw {k:Int} {d:Nat} (hk:k.natAbs<=999) (hd:d<=12) (hq:0<=mkRat k d): ∃j:Nat,mkRat k d*27720=(j:Rat)/\j<=27692280:=by
 by_cases h0:d=0
 ·subst h0
  exact ⟨0,by simp,by omega⟩
 ·obtain ⟨e,he,hle⟩:=zLS h0 hd
  have hdr:(d:Rat)≠0:=fun h=>h0 (by exact_mod_cast h)
  have e1:mkRat k d*27720=((k*(e:Int):Int):Rat):=by
   have e2:(27720:Rat)=(d:Rat)*(e:Rat):=by
    have h4:((27720:Nat):Rat)=((d*e:Nat):Rat):=zUf _ he
    rwa [Rat.natCast_mul] at h4
   rw [Rat.mkRat_eq_div,e2,zUZ,zUM]
   grind
  have hp:0<=k*(e:Int):=by
   have h5:(0:Rat)<=((k*(e:Int):Int):Rat):=by
    rw [<-e1]
    exact Rat.mul_nonneg hq (by decide+kernel)
   exact_mod_cast h5
  refine ⟨(k*(e:Int)).toNat, ?_, ?_⟩
  ·rw [e1, <-zUM,Int.toNat_of_nonneg hp]
  ·have h6:(k*(e:Int)).natAbs=k.natAbs*e:=by rw [zU0,zU1]
   have h7:k.natAbs*e<=999*27720:=Nat.mul_le_mul hk hle
   omega
abbrev qxs (L:List QX):List CU:=L.map wD
def g28 (n:Int) (js:List (Int×Int)) (L:List QX):Bool:=((decide (n>20)||decide (((jns js).length:Int)>60))||decide (((qxs L).length:Int)>60))|| !(L.all tnB)
theorem zSG {n:Int} {js:List (Int×Int)} {L:List QX} (h:g28 n js L=false):n<=20/\js.length<=60/\L.length<=60/\ ∀x,x∈L->tnB x=true:=by
 unfold g28 at h
 rw [zUp,zUp,zUp,zUW] at h
 obtain ⟨⟨⟨h1,h2⟩,h3⟩,h4⟩:=h
 have h1:=zUi h1
 have h2:=zUi h2
 have h3:=zUi h3
 rw [zUe] at h2 h3
 exact ⟨by omega,by omega,by omega,fun x hx=>zUA.1 h4 x hx⟩
abbrev qvs (L:List QX):List Rat:=L.map fun x=>mkRat x.k x.d
theorem zSl {n n' m:Nat} {k:Int} {d:Nat} {v:Wn} {W:Wm} (h:QXp n n' k d v W) (h1:n<=m) (h2:n'<=m):RVp m (mkRat k d) v W:=⟨k,d,zSr h h1 h2,rfl⟩
theorem zOr {n n':Nat} {k:Int} {d:Nat} {v:Wn} {W:Wm} (h:(fQX n n' k d).p v W):(CU.agg (fQX n n' k d)).p v.cells.toList W/\v.cells.toList.all yA=true:=by
 have h0:=h
 obtain ⟨b,s,t,rfl,⟨sg,A,c,l,e1,_⟩,A',c',l',rfl,_⟩:=h
 have:=zUf Array.toList (zAk e1)
 simp at this
 rw [this.1,this.2] at h0 ⊢
 exact ⟨h0,rfl⟩
theorem zIr {z:Nat} {Cs Ds:List CU} (hl:Cs.length=Ds.length) (h: ∀(i:Nat) (C D:CU),Cs[i]?=some C->Ds[i]?=some D-> ∀cs W,C.p cs W->D.p cs W) (v:Wn) (W:Wm) (hv:(SF.row z Cs).p v W):(SF.row z Ds).p v W:=by
 obtain ⟨A,c,e,h2,h3,h4,h5⟩:=hv
 rw [hl] at e h2
 refine ⟨A,c,e,h2,h3,h4,fun i D hD=> ?_⟩
 have hi:i<Cs.length:=by rw [hl];exact (zU3.1 hD).1
 obtain ⟨b,o,cs,g1,g2,g3⟩:=h5 i _ (zUo hi)
 exact ⟨b,o,cs,g1,g2,h i _ _ (zUo hi) hD cs W g3⟩
theorem zD6 {F:Fence} {m:Nat} {P:Ws} {w0:Wm} {ops:Array Oper} {G:Nat->SF} {d:Tmp} {ty:Wp} {pos:String} {aft:Array Edge} {f:FuncId} {x y z q:Wr} {ats:Array Wp} (hF:zHl F m P) (he:Enters P f) (h: ∀u v r s W,Below w0.heap.size w0 W->(fct G x).p u W->(fct G y).p v W->(fct G z).p r W->(fct G q).p s W->Calls P f #[u,v,r,s] W (Ret W (G d))):qB F m P w0 ops G ⟨some d, .call ⟨.value (.func f),#[x,y,z,q],ats⟩,ty,pos,aft,none⟩:=
 zCu hF he fun b W hb hh=>by simpa using h _ _ _ _ W hb (hh x (by simp)) (hh y (by simp)) (hh z (by simp)) (hh q (by simp))
theorem zIM {F:Fence} {m:Nat} {P:Ws} {w0:Wm} {ops:Array Oper} {G:Nat->SF} {d:Tmp} {ty:Wp} {pos:String} {aft:Array Edge} {f:FuncId} {x y z q p:Wr} {ats:Array Wp} (hF:zHl F m P) (he:Enters P f) (h: ∀u v r s t W,Below w0.heap.size w0 W->(fct G x).p u W->(fct G y).p v W->(fct G z).p r W->(fct G q).p s W->(fct G p).p t W->Calls P f #[u,v,r,s,t] W (Ret W (G d))):qB F m P w0 ops G ⟨some d, .call ⟨.value (.func f),#[x,y,z,q,p],ats⟩,ty,pos,aft,none⟩:=
 zCu hF he fun b W hb hh=>by simpa using h _ _ _ _ _ W hb (hh x (by simp)) (hh y (by simp)) (hh z (by simp)) (hh q (by simp)) (hh p (by simp))
theorem zOk {z:Nat} {L:List QX} {v:Wn} {W:Wm} (h:(SF.row z (qxs L)).p v W) {x:QX} (hx:x∈L): ∃u,QXp x.n x.n' x.k x.d u W:=by
 obtain ⟨A,c,_,_,_,_,h5⟩:=h
 obtain ⟨i,hi⟩:=List.getElem?_of_mem hx
 obtain ⟨b,o,cs,_,_,g3⟩:=h5 i (wD x) (by rw [zUF,hi];rfl)
 exact ⟨_,g3⟩
theorem zOa {L:List QX} (h: ∀x,x∈L->tnB x=true) {v:Wn} {W:Wm} (hv:(SF.row 3 (qxs L)).p v W):(SF.row 3 (rvs 1 (qvs L))).p v W/\ ∀q,q∈qvs L->0<=q-> ∃j:Nat,q*27720=(j:Rat)/\j<=27692280:=by
 refine ⟨zIr (by simp) (fun i C D hC hD cs W' hh=> ?_) v W hv,fun q hq h0=> ?_⟩
 ·have hi:i<L.length:=by have:=(zU3.1 hC).1;simpa using this
  rw [zUF,zUo hi] at hC
  rw [zUF,zUF,zUo hi] at hD
  cases hC;cases hD
  obtain ⟨h1,h2,_⟩:=zDU (x:=L[i]) hh (h _ (zUJ hi))
  exact zSl hh h1 h2
 ·obtain ⟨x,hx,rfl⟩:=List.mem_map.1 hq
  obtain ⟨u,hu⟩:=zOk hv hx
  obtain ⟨_,_,h3,h4⟩:=zDU hu (h x hx)
  exact zTw h3 h4 h0
theorem zKJ {x:QX} {W:Wm} {u:Wn} (hx:QXp x.n x.n' x.k x.d u W):Calls prog 43 #[u] W (Ret W (fB (tnB x)).tS):=by
 refine qH [(fQX x.n x.n' x.k x.d).tS] func43 rfl kI ⟨hx,trivial⟩ fun a s=> ?_
 refine zUb ?_
 refine zC 0 [] hmix s kI
  zE fun a w1 s=> ?_
 refine zA8 (wD x) rfl s kI (fun v W h=>zOr h) fun b1 a w s=> ?_
 refine qN (uB false) rfl s kI iiz fun a w s=> ?_
 refine zB rfl ?_
 refine zUb ?_
 rcases (show (decide ((x.n:Int)<=1)&&decide ((x.n':Int)<=1))=false∨(decide ((x.n:Int)<=1)&&decide ((x.n':Int)<=1))=true/\(((x.n:Int)==0)||decide ((x.k.natAbs:Int)<=999))=false∨(decide ((x.n:Int)<=1)&&decide ((x.n':Int)<=1))=true/\(((x.n:Int)==0)||decide ((x.k.natAbs:Int)<=999))=true by cases (decide ((x.n:Int)<=1)&&decide ((x.n':Int)<=1))<;>cases (((x.n:Int)==0)||decide ((x.k.natAbs:Int)<=999))<;>simp) with h1|⟨h1,h2⟩|⟨h1,h2⟩
 ·replace s:=s.drop [2]
  refine zC 40 ((3, .s (wC ((wD x).cf.at 0)))::(4, .s (wC ((wD x).cf.at 1)))::(5, .Z (zCT x.n x.k.natAbs))::(6, .Z (uI (x.n:Int)))::(7, .Z (uB (decide ((x.n:Int)<=1))))::(8, .Z (uB (decide ((x.n:Int)<=1))))::(9, .s (SF.imp ((decide ((x.n:Int)<=1))=true) (wC ((wD x).cf.at 2))))::(10, .s (SF.imp ((decide ((x.n:Int)<=1))=true) ((zCT x.n' x.d).tS)))::(11, .s (SF.imp ((decide ((x.n:Int)<=1))=true) ((uI (x.n':Int)).tS)))::(12, .s (SF.imp ((decide ((x.n:Int)<=1))=true) ((uB (decide ((x.n':Int)<=1))).tS)))::(13, .Z (uB false))::(14, .Z (uB false))::(20, .Z (UF.eq undef))::(28, .Z (uB false))::(29, .Z (uB false))::(34, .Z (UF.eq undef))::(41, .Z (uB false))::(2, .u (uB false)):: []) hmix s kI
   (oc (zW (C:=(wD x).cf) 0 kI)<|oc (qR (C:=(wD x).cf) 0 1 kI)<|oc (yW (C:=(wD x).cf) (k:=1) kI (h:=zEg))<|oc (jV kI (fun v W ⟨A,c,l,e,_⟩=>⟨A,x.n,c,e,rfl⟩))<|oc (zP .i64 (x.n:Int) 1 (decide ((x.n:Int)<=1)) iiz iiz rfl rfl)<|oc zA<|oc (zD 8 (decide ((x.n:Int)<=1)) kI iiz (fun e=>zL [] (wC ((wD x).cf.at 2)) fnz (fun _ _ h _=>h) kI (zW (C:=(wD x).cf) 2 kI)) (fun e W h=>absurd h e))<|oc (zD 8 (decide ((x.n:Int)<=1)) kI iiz (fun e=>zL [(9,wC ((wD x).cf.at 2))] ((zCT x.n' x.d).tS) (fmz ⟨fun v W h=>zI (c:=(decide ((x.n:Int)<=1))=true) (f:=wC ((wD x).cf.at 2)) e h,fnz⟩) (fun _ _ h _=>h) kI (yW (C:=(wD x).cf) (k:=2) kI (h:=zGu))) (fun e W h=>absurd h e))<|oc (zD 8 (decide ((x.n:Int)<=1)) kI iiz (fun e=>zL [(10,(zCT x.n' x.d).tS)] ((uI (x.n':Int)).tS) (fmz ⟨fun v W h=>zI (c:=(decide ((x.n:Int)<=1))=true) (f:=(zCT x.n' x.d).tS) e h,fnz⟩) (fun _ _ h _=>h) kI (jV kI (fun v W ⟨A,c,l,e,_⟩=>⟨A,x.n',c,e,rfl⟩))) (fun e W h=>absurd h e))<|oc (zD 8 (decide ((x.n:Int)<=1)) kI iiz (fun e=>zL [(11,(uI (x.n':Int)).tS)] ((uB (decide ((x.n':Int)<=1))).tS) (fmz ⟨fun v W h=>zI (c:=(decide ((x.n:Int)<=1))=true) (f:=(uI (x.n':Int)).tS) e h,fnz⟩) (fun _ _ h _=>h) kI (zP .i64 (x.n':Int) 1 (decide ((x.n':Int)<=1)) iiz iiz rfl rfl)) (fun e W h=>absurd h e))<|oc (yE (decide ((x.n:Int)<=1)) iiz (fun e v W h=>(zI e h).trans (zUf Value.bool (by first|rfl|(have h7:=h1;rw [e,zU4] at h7;exact h7)))) (fun e v W h=>h.trans (zUf Value.bool (by first|rfl|(have h7:=h1;rw [e,zU5] at h7;exact h7)))))<|oc zA<|oc (zD 14 false kI iiz (fun e=>by cases e) (fun _ _=>trivial))<|oc (zD 14 false kI iiz (fun e=>by cases e) (fun _ _=>trivial))<|oc (zD 14 false kI iiz (fun e=>by cases e) (fun _ _=>trivial))<|oc (zD 14 false kI iiz (fun e=>by cases e) (fun _ _=>trivial))<|oc (zD 14 false kI iiz (fun e=>by cases e) (fun _ _=>trivial))<|oc (zD 14 false kI iiz (fun e=>by cases e) (fun _ _=>rfl))<|oc (qM 20 undef kI iiz (fun e=>by cases e) (fun _=>trivial))<|oc (qM 20 undef kI iiz (fun e=>by cases e) (fun _=>trivial))<|oc (qM 20 undef kI iiz (fun e=>by cases e) (fun _=>trivial))<|oc (qM 20 undef kI iiz (fun e=>by cases e) (fun _=>trivial))<|oc (qM 20 undef kI iiz (fun e=>by cases e) (fun _=>trivial))<|oc (qM 20 undef kI iiz (fun e=>by cases e) (fun _=>trivial))<|oc (zD 14 false kI iiz (fun e=>by cases e) (fun _ _=>trivial))<|oc (yE false iiz (fun e=>by cases e) (fun _ _ _ h=>h))<|oc zA<|oc (zD 29 false kI iiz (fun e=>by cases e) (fun _ _=>trivial))<|oc (zD 29 false kI iiz (fun e=>by cases e) (fun _ _=>trivial))<|oc (zD 29 false kI iiz (fun e=>by cases e) (fun _ _=>trivial))<|oc (zD 29 false kI iiz (fun e=>by cases e) (fun _ _=>trivial))<|oc (zD 29 false kI iiz (fun e=>by cases e) (fun _ _=>rfl))<|oc (qM 34 undef kI iiz (fun e=>by cases e) (fun _=>trivial))<|oc (qM 34 undef kI iiz (fun e=>by cases e) (fun _=>trivial))<|oc (qM 34 undef kI iiz (fun e=>by cases e) (fun _=>trivial))<|oc (qM 34 undef kI iiz (fun e=>by cases e) (fun _=>trivial))<|oc (qM 34 undef kI iiz (fun e=>by cases e) (fun _=>trivial))<|oc (zD 29 false kI iiz (fun e=>by cases e) (fun _ _=>trivial))<|oc (yE false iiz (fun e=>by cases e) (fun _ _ _ h=>h))<|oc zG<|zE) fun a w2 s=> ?_
  refine zB rfl ?_
  refine zUh ?_
  have hres:tnB x=false:=by unfold tnB;rw [zUP];simp only [zUt,zUQ,zU6,zUp,zUD,zU7,zUB,zUw,zU8,iff_false] at h1 ⊢;omega
  exact wF s (t:=2) rfl (fun _ _ h=>by rw [hres];exact h)
 ·replace s:=s.drop [2]
  refine zC 40 ((3, .s (wC ((wD x).cf.at 0)))::(4, .s (wC ((wD x).cf.at 1)))::(5, .Z (zCT x.n x.k.natAbs))::(6, .Z (uI (x.n:Int)))::(7, .Z (uB (decide ((x.n:Int)<=1))))::(8, .Z (uB (decide ((x.n:Int)<=1))))::(9, .s (SF.imp ((decide ((x.n:Int)<=1))=true) (wC ((wD x).cf.at 2))))::(10, .s (SF.imp ((decide ((x.n:Int)<=1))=true) ((zCT x.n' x.d).tS)))::(11, .s (SF.imp ((decide ((x.n:Int)<=1))=true) ((uI (x.n':Int)).tS)))::(12, .s (SF.imp ((decide ((x.n:Int)<=1))=true) ((uB (decide ((x.n':Int)<=1))).tS)))::(13, .Z (uB true))::(14, .Z (uB true))::(15, .s (wC ((wD x).cf.at 0)))::(16, .s (wC ((wD x).cf.at 1)))::(17, .Z (zCT x.n x.k.natAbs))::(18, .Z (uI (x.n:Int)))::(19, .Z (uB ((x.n:Int)==0)))::(20, .Z (uB ((x.n:Int)==0)))::(21, .s (SF.imp (((x.n:Int)==0)=false) (wC ((wD x).cf.at 0))))::(22, .s (SF.imp (((x.n:Int)==0)=false) (wC ((wD x).cf.at 1))))::(23, .s (SF.imp (((x.n:Int)==0)=false) ((zCT x.n x.k.natAbs).tS)))::(24, .s (SF.imp (((x.n:Int)==0)=false) (wC (wB [.int .u32 (x.k.natAbs:Int)]).cf)))::(25, .s (SF.imp (((x.n:Int)==0)=false) ((UF.eq (.int .u32 (x.k.natAbs:Int))).tS)))::(26, .s (SF.imp (((x.n:Int)==0)=false) ((uB (decide ((x.k.natAbs:Int)<=999))).tS)))::(27, .Z (uB (((x.n:Int)==0)||(decide ((x.k.natAbs:Int)<=999)))))::(28, .Z (uB false))::(29, .Z (uB false))::(34, .Z (UF.eq undef))::(41, .Z (uB false))::(2, .u (uB false)):: []) hmix s kI
   (oc (zW (C:=(wD x).cf) 0 kI)<|oc (qR (C:=(wD x).cf) 0 1 kI)<|oc (yW (C:=(wD x).cf) (k:=1) kI (h:=zEg))<|oc (jV kI (fun v W ⟨A,c,l,e,_⟩=>⟨A,x.n,c,e,rfl⟩))<|oc (zP .i64 (x.n:Int) 1 (decide ((x.n:Int)<=1)) iiz iiz rfl rfl)<|oc zA<|oc (zD 8 (decide ((x.n:Int)<=1)) kI iiz (fun e=>zL [] (wC ((wD x).cf.at 2)) fnz (fun _ _ h _=>h) kI (zW (C:=(wD x).cf) 2 kI)) (fun e W h=>absurd h e))<|oc (zD 8 (decide ((x.n:Int)<=1)) kI iiz (fun e=>zL [(9,wC ((wD x).cf.at 2))] ((zCT x.n' x.d).tS) (fmz ⟨fun v W h=>zI (c:=(decide ((x.n:Int)<=1))=true) (f:=wC ((wD x).cf.at 2)) e h,fnz⟩) (fun _ _ h _=>h) kI (yW (C:=(wD x).cf) (k:=2) kI (h:=zGu))) (fun e W h=>absurd h e))<|oc (zD 8 (decide ((x.n:Int)<=1)) kI iiz (fun e=>zL [(10,(zCT x.n' x.d).tS)] ((uI (x.n':Int)).tS) (fmz ⟨fun v W h=>zI (c:=(decide ((x.n:Int)<=1))=true) (f:=(zCT x.n' x.d).tS) e h,fnz⟩) (fun _ _ h _=>h) kI (jV kI (fun v W ⟨A,c,l,e,_⟩=>⟨A,x.n',c,e,rfl⟩))) (fun e W h=>absurd h e))<|oc (zD 8 (decide ((x.n:Int)<=1)) kI iiz (fun e=>zL [(11,(uI (x.n':Int)).tS)] ((uB (decide ((x.n':Int)<=1))).tS) (fmz ⟨fun v W h=>zI (c:=(decide ((x.n:Int)<=1))=true) (f:=(uI (x.n':Int)).tS) e h,fnz⟩) (fun _ _ h _=>h) kI (zP .i64 (x.n':Int) 1 (decide ((x.n':Int)<=1)) iiz iiz rfl rfl)) (fun e W h=>absurd h e))<|oc (yE (decide ((x.n:Int)<=1)) iiz (fun e v W h=>(zI e h).trans (zUf Value.bool (by first|rfl|(have h7:=h1;rw [e,zU4] at h7;exact h7)))) (fun e v W h=>h.trans (zUf Value.bool (by first|rfl|(have h7:=h1;rw [e,zU5] at h7;exact h7)))))<|oc zA<|oc (zD 14 true kI iiz (fun _=>zW (C:=(wD x).cf) 0 kI) arf)<|oc (zD 14 true kI iiz (fun _=>qR (C:=(wD x).cf) 0 1 kI) arf)<|oc (zD 14 true kI iiz (fun _=>yW (C:=(wD x).cf) (k:=1) kI (h:=zEg)) arf)<|oc (zD 14 true kI iiz (fun _=>jV kI (fun v W ⟨A,c,l,e,_⟩=>⟨A,x.n,c,e,rfl⟩)) arf)<|oc (zD 14 true kI iiz (fun _=>zP .i64 (x.n:Int) 0 ((x.n:Int)==0) iiz iiz rfl rfl) arf)<|oc (zD 14 true kI iiz (fun _=>zA) arf)<|oc (zD 20 ((x.n:Int)==0) kI iiz (fun e=>zL [] (wC ((wD x).cf.at 0)) fnz (fun _ _ h _=>h) kI (zW (C:=(wD x).cf) 0 kI)) (fun e W h=>absurd h e))<|oc (zD 20 ((x.n:Int)==0) kI iiz (fun e=>zL [(21,wC ((wD x).cf.at 0))] (wC ((wD x).cf.at 1)) (fmz ⟨fun v W h=>zI (c:=((x.n:Int)==0)=false) (f:=wC ((wD x).cf.at 0)) e h,fnz⟩) (fun _ _ h _=>h) kI (qR (C:=(wD x).cf) 0 1 kI)) (fun e W h=>absurd h e))<|oc (zD 20 ((x.n:Int)==0) kI iiz (fun e=>zL [(22,wC ((wD x).cf.at 1))] ((zCT x.n x.k.natAbs).tS) (fmz ⟨fun v W h=>zI (c:=((x.n:Int)==0)=false) (f:=wC ((wD x).cf.at 1)) e h,fnz⟩) (fun _ _ h _=>h) kI (yW (C:=(wD x).cf) (k:=1) kI (h:=zEg))) (fun e W h=>absurd h e))<|oc (zD 20 ((x.n:Int)==0) kI iiz (fun e=>zL [(23,(zCT x.n x.k.natAbs).tS)] (wC (wB [.int .u32 (x.k.natAbs:Int)]).cf) (fmz ⟨fun v W h=>zI (c:=((x.n:Int)==0)=false) (f:=(zCT x.n x.k.natAbs).tS) e h,fnz⟩) (fun _ _ h _=>h) kI (zCt (z:=1) (Cs:= [wB [.int .u32 (x.k.natAbs:Int)]]) (i:=0) (C:=wB [.int .u32 (x.k.natAbs:Int)]) kI rfl (fun v W h=>zLc (by have h7:=h1;simp at e h7;omega) h) iiz)) (fun e W h=>absurd h e))<|oc (zD 20 ((x.n:Int)==0) kI iiz (fun e=>zL [(24,wC (wB [.int .u32 (x.k.natAbs:Int)]).cf)] ((UF.eq (.int .u32 (x.k.natAbs:Int))).tS) (fmz ⟨fun v W h=>zI (c:=((x.n:Int)==0)=false) (f:=wC (wB [.int .u32 (x.k.natAbs:Int)]).cf) e h,fnz⟩) (fun _ _ h _=>h) kI (yR (C:=(wB [.int .u32 (x.k.natAbs:Int)]).cf) kI iiz jF)) (fun e W h=>absurd h e))<|oc (zD 20 ((x.n:Int)==0) kI iiz (fun e=>zL [(25,(UF.eq (.int .u32 (x.k.natAbs:Int))).tS)] ((uB (decide ((x.k.natAbs:Int)<=999))).tS) (fmz ⟨fun v W h=>zI (c:=((x.n:Int)==0)=false) (f:=(UF.eq (.int .u32 (x.k.natAbs:Int))).tS) e h,fnz⟩) (fun _ _ h _=>h) kI (zP .u32 (x.k.natAbs:Int) 999 (decide ((x.k.natAbs:Int)<=999)) iiz iiz rfl rfl)) (fun e W h=>absurd h e))<|oc (zD 14 true kI iiz (fun _=>yE ((x.n:Int)==0) iiz (fun e v W h=>zAV h e) (fun e v W h=>zAe (zI e h) e)) arf)<|oc (yE true iiz (fun _ v W h=>h.trans (zUf Value.bool h2)) (fun e=>by cases e))<|oc zA<|oc (zD 29 false kI iiz (fun e=>by cases e) (fun _ _=>trivial))<|oc (zD 29 false kI iiz (fun e=>by cases e) (fun _ _=>trivial))<|oc (zD 29 false kI iiz (fun e=>by cases e) (fun _ _=>trivial))<|oc (zD 29 false kI iiz (fun e=>by cases e) (fun _ _=>trivial))<|oc (zD 29 false kI iiz (fun e=>by cases e) (fun _ _=>rfl))<|oc (qM 34 undef kI iiz (fun e=>by cases e) (fun _=>trivial))<|oc (qM 34 undef kI iiz (fun e=>by cases e) (fun _=>trivial))<|oc (qM 34 undef kI iiz (fun e=>by cases e) (fun _=>trivial))<|oc (qM 34 undef kI iiz (fun e=>by cases e) (fun _=>trivial))<|oc (qM 34 undef kI iiz (fun e=>by cases e) (fun _=>trivial))<|oc (zD 29 false kI iiz (fun e=>by cases e) (fun _ _=>trivial))<|oc (yE false iiz (fun e=>by cases e) (fun _ _ _ h=>h))<|oc zG<|zE) fun a w3 s=> ?_
  refine zB rfl ?_
  refine zUh ?_
  have hres:tnB x=false:=by unfold tnB;rw [zUP];simp only [zUt,zUQ,zU6,zUp,zUD,zU7,zUB,zUw,zU8,iff_false] at h1 h2 ⊢;omega
  exact wF s (t:=2) rfl (fun _ _ h=>by rw [hres];exact h)
 ·replace s:=s.drop [2]
  refine zC 40 ((3, .s (wC ((wD x).cf.at 0)))::(4, .s (wC ((wD x).cf.at 1)))::(5, .Z (zCT x.n x.k.natAbs))::(6, .Z (uI (x.n:Int)))::(7, .Z (uB (decide ((x.n:Int)<=1))))::(8, .Z (uB (decide ((x.n:Int)<=1))))::(9, .s (SF.imp ((decide ((x.n:Int)<=1))=true) (wC ((wD x).cf.at 2))))::(10, .s (SF.imp ((decide ((x.n:Int)<=1))=true) ((zCT x.n' x.d).tS)))::(11, .s (SF.imp ((decide ((x.n:Int)<=1))=true) ((uI (x.n':Int)).tS)))::(12, .s (SF.imp ((decide ((x.n:Int)<=1))=true) ((uB (decide ((x.n':Int)<=1))).tS)))::(13, .Z (uB true))::(14, .Z (uB true))::(15, .s (wC ((wD x).cf.at 0)))::(16, .s (wC ((wD x).cf.at 1)))::(17, .Z (zCT x.n x.k.natAbs))::(18, .Z (uI (x.n:Int)))::(19, .Z (uB ((x.n:Int)==0)))::(20, .Z (uB ((x.n:Int)==0)))::(21, .s (SF.imp (((x.n:Int)==0)=false) (wC ((wD x).cf.at 0))))::(22, .s (SF.imp (((x.n:Int)==0)=false) (wC ((wD x).cf.at 1))))::(23, .s (SF.imp (((x.n:Int)==0)=false) ((zCT x.n x.k.natAbs).tS)))::(24, .s (SF.imp (((x.n:Int)==0)=false) (wC (wB [.int .u32 (x.k.natAbs:Int)]).cf)))::(25, .s (SF.imp (((x.n:Int)==0)=false) ((UF.eq (.int .u32 (x.k.natAbs:Int))).tS)))::(26, .s (SF.imp (((x.n:Int)==0)=false) ((uB (decide ((x.k.natAbs:Int)<=999))).tS)))::(27, .Z (uB (((x.n:Int)==0)||(decide ((x.k.natAbs:Int)<=999)))))::(28, .Z (uB true))::(29, .Z (uB true))::(30, .s (wC ((wD x).cf.at 2)))::(31, .Z (zCT x.n' x.d))::(32, .Z (uI (x.n':Int)))::(33, .Z (uB ((x.n':Int)==0)))::(34, .Z (uB ((x.n':Int)==0)))::(35, .s (SF.imp (((x.n':Int)==0)=false) (wC ((wD x).cf.at 2))))::(36, .s (SF.imp (((x.n':Int)==0)=false) ((zCT x.n' x.d).tS)))::(37, .s (SF.imp (((x.n':Int)==0)=false) (wC (wB [.int .u32 (x.d:Int)]).cf)))::(38, .s (SF.imp (((x.n':Int)==0)=false) ((UF.eq (.int .u32 (x.d:Int))).tS)))::(39, .s (SF.imp (((x.n':Int)==0)=false) ((uB (decide ((x.d:Int)<=12))).tS)))::(40, .Z (uB (((x.n':Int)==0)||(decide ((x.d:Int)<=12)))))::(41, .Z (uB (((x.n':Int)==0)||(decide ((x.d:Int)<=12)))))::(2, .u (uB (((x.n':Int)==0)||(decide ((x.d:Int)<=12))))):: []) hmix s kI
   (oc (zW (C:=(wD x).cf) 0 kI)<|oc (qR (C:=(wD x).cf) 0 1 kI)<|oc (yW (C:=(wD x).cf) (k:=1) kI (h:=zEg))<|oc (jV kI (fun v W ⟨A,c,l,e,_⟩=>⟨A,x.n,c,e,rfl⟩))<|oc (zP .i64 (x.n:Int) 1 (decide ((x.n:Int)<=1)) iiz iiz rfl rfl)<|oc zA<|oc (zD 8 (decide ((x.n:Int)<=1)) kI iiz (fun e=>zL [] (wC ((wD x).cf.at 2)) fnz (fun _ _ h _=>h) kI (zW (C:=(wD x).cf) 2 kI)) (fun e W h=>absurd h e))<|oc (zD 8 (decide ((x.n:Int)<=1)) kI iiz (fun e=>zL [(9,wC ((wD x).cf.at 2))] ((zCT x.n' x.d).tS) (fmz ⟨fun v W h=>zI (c:=(decide ((x.n:Int)<=1))=true) (f:=wC ((wD x).cf.at 2)) e h,fnz⟩) (fun _ _ h _=>h) kI (yW (C:=(wD x).cf) (k:=2) kI (h:=zGu))) (fun e W h=>absurd h e))<|oc (zD 8 (decide ((x.n:Int)<=1)) kI iiz (fun e=>zL [(10,(zCT x.n' x.d).tS)] ((uI (x.n':Int)).tS) (fmz ⟨fun v W h=>zI (c:=(decide ((x.n:Int)<=1))=true) (f:=(zCT x.n' x.d).tS) e h,fnz⟩) (fun _ _ h _=>h) kI (jV kI (fun v W ⟨A,c,l,e,_⟩=>⟨A,x.n',c,e,rfl⟩))) (fun e W h=>absurd h e))<|oc (zD 8 (decide ((x.n:Int)<=1)) kI iiz (fun e=>zL [(11,(uI (x.n':Int)).tS)] ((uB (decide ((x.n':Int)<=1))).tS) (fmz ⟨fun v W h=>zI (c:=(decide ((x.n:Int)<=1))=true) (f:=(uI (x.n':Int)).tS) e h,fnz⟩) (fun _ _ h _=>h) kI (zP .i64 (x.n':Int) 1 (decide ((x.n':Int)<=1)) iiz iiz rfl rfl)) (fun e W h=>absurd h e))<|oc (yE (decide ((x.n:Int)<=1)) iiz (fun e v W h=>(zI e h).trans (zUf Value.bool (by first|rfl|(have h7:=h1;rw [e,zU4] at h7;exact h7)))) (fun e v W h=>h.trans (zUf Value.bool (by first|rfl|(have h7:=h1;rw [e,zU5] at h7;exact h7)))))<|oc zA<|oc (zD 14 true kI iiz (fun _=>zW (C:=(wD x).cf) 0 kI) arf)<|oc (zD 14 true kI iiz (fun _=>qR (C:=(wD x).cf) 0 1 kI) arf)<|oc (zD 14 true kI iiz (fun _=>yW (C:=(wD x).cf) (k:=1) kI (h:=zEg)) arf)<|oc (zD 14 true kI iiz (fun _=>jV kI (fun v W ⟨A,c,l,e,_⟩=>⟨A,x.n,c,e,rfl⟩)) arf)<|oc (zD 14 true kI iiz (fun _=>zP .i64 (x.n:Int) 0 ((x.n:Int)==0) iiz iiz rfl rfl) arf)<|oc (zD 14 true kI iiz (fun _=>zA) arf)<|oc (zD 20 ((x.n:Int)==0) kI iiz (fun e=>zL [] (wC ((wD x).cf.at 0)) fnz (fun _ _ h _=>h) kI (zW (C:=(wD x).cf) 0 kI)) (fun e W h=>absurd h e))<|oc (zD 20 ((x.n:Int)==0) kI iiz (fun e=>zL [(21,wC ((wD x).cf.at 0))] (wC ((wD x).cf.at 1)) (fmz ⟨fun v W h=>zI (c:=((x.n:Int)==0)=false) (f:=wC ((wD x).cf.at 0)) e h,fnz⟩) (fun _ _ h _=>h) kI (qR (C:=(wD x).cf) 0 1 kI)) (fun e W h=>absurd h e))<|oc (zD 20 ((x.n:Int)==0) kI iiz (fun e=>zL [(22,wC ((wD x).cf.at 1))] ((zCT x.n x.k.natAbs).tS) (fmz ⟨fun v W h=>zI (c:=((x.n:Int)==0)=false) (f:=wC ((wD x).cf.at 1)) e h,fnz⟩) (fun _ _ h _=>h) kI (yW (C:=(wD x).cf) (k:=1) kI (h:=zEg))) (fun e W h=>absurd h e))<|oc (zD 20 ((x.n:Int)==0) kI iiz (fun e=>zL [(23,(zCT x.n x.k.natAbs).tS)] (wC (wB [.int .u32 (x.k.natAbs:Int)]).cf) (fmz ⟨fun v W h=>zI (c:=((x.n:Int)==0)=false) (f:=(zCT x.n x.k.natAbs).tS) e h,fnz⟩) (fun _ _ h _=>h) kI (zCt (z:=1) (Cs:= [wB [.int .u32 (x.k.natAbs:Int)]]) (i:=0) (C:=wB [.int .u32 (x.k.natAbs:Int)]) kI rfl (fun v W h=>zLc (by have h7:=h1;simp at e h7;omega) h) iiz)) (fun e W h=>absurd h e))<|oc (zD 20 ((x.n:Int)==0) kI iiz (fun e=>zL [(24,wC (wB [.int .u32 (x.k.natAbs:Int)]).cf)] ((UF.eq (.int .u32 (x.k.natAbs:Int))).tS) (fmz ⟨fun v W h=>zI (c:=((x.n:Int)==0)=false) (f:=wC (wB [.int .u32 (x.k.natAbs:Int)]).cf) e h,fnz⟩) (fun _ _ h _=>h) kI (yR (C:=(wB [.int .u32 (x.k.natAbs:Int)]).cf) kI iiz jF)) (fun e W h=>absurd h e))<|oc (zD 20 ((x.n:Int)==0) kI iiz (fun e=>zL [(25,(UF.eq (.int .u32 (x.k.natAbs:Int))).tS)] ((uB (decide ((x.k.natAbs:Int)<=999))).tS) (fmz ⟨fun v W h=>zI (c:=((x.n:Int)==0)=false) (f:=(UF.eq (.int .u32 (x.k.natAbs:Int))).tS) e h,fnz⟩) (fun _ _ h _=>h) kI (zP .u32 (x.k.natAbs:Int) 999 (decide ((x.k.natAbs:Int)<=999)) iiz iiz rfl rfl)) (fun e W h=>absurd h e))<|oc (zD 14 true kI iiz (fun _=>yE ((x.n:Int)==0) iiz (fun e v W h=>zAV h e) (fun e v W h=>zAe (zI e h) e)) arf)<|oc (yE true iiz (fun _ v W h=>h.trans (zUf Value.bool h2)) (fun e=>by cases e))<|oc zA<|oc (zD 29 true kI iiz (fun _=>zW (C:=(wD x).cf) 2 kI) arf)<|oc (zD 29 true kI iiz (fun _=>yW (C:=(wD x).cf) (k:=2) kI (h:=zGu)) arf)<|oc (zD 29 true kI iiz (fun _=>jV kI (fun v W ⟨A,c,l,e,_⟩=>⟨A,x.n',c,e,rfl⟩)) arf)<|oc (zD 29 true kI iiz (fun _=>zP .i64 (x.n':Int) 0 ((x.n':Int)==0) iiz iiz rfl rfl) arf)<|oc (zD 29 true kI iiz (fun _=>zA) arf)<|oc (zD 34 ((x.n':Int)==0) kI iiz (fun e=>zL [] (wC ((wD x).cf.at 2)) fnz (fun _ _ h _=>h) kI (zW (C:=(wD x).cf) 2 kI)) (fun e W h=>absurd h e))<|oc (zD 34 ((x.n':Int)==0) kI iiz (fun e=>zL [(35,wC ((wD x).cf.at 2))] ((zCT x.n' x.d).tS) (fmz ⟨fun v W h=>zI (c:=((x.n':Int)==0)=false) (f:=wC ((wD x).cf.at 2)) e h,fnz⟩) (fun _ _ h _=>h) kI (yW (C:=(wD x).cf) (k:=2) kI (h:=zGu))) (fun e W h=>absurd h e))<|oc (zD 34 ((x.n':Int)==0) kI iiz (fun e=>zL [(36,(zCT x.n' x.d).tS)] (wC (wB [.int .u32 (x.d:Int)]).cf) (fmz ⟨fun v W h=>zI (c:=((x.n':Int)==0)=false) (f:=(zCT x.n' x.d).tS) e h,fnz⟩) (fun _ _ h _=>h) kI (zCt (z:=1) (Cs:= [wB [.int .u32 (x.d:Int)]]) (i:=0) (C:=wB [.int .u32 (x.d:Int)]) kI rfl (fun v W h=>zLc (by have h7:=h1;simp at e h7;omega) h) iiz)) (fun e W h=>absurd h e))<|oc (zD 34 ((x.n':Int)==0) kI iiz (fun e=>zL [(37,wC (wB [.int .u32 (x.d:Int)]).cf)] ((UF.eq (.int .u32 (x.d:Int))).tS) (fmz ⟨fun v W h=>zI (c:=((x.n':Int)==0)=false) (f:=wC (wB [.int .u32 (x.d:Int)]).cf) e h,fnz⟩) (fun _ _ h _=>h) kI (yR (C:=(wB [.int .u32 (x.d:Int)]).cf) kI iiz jF)) (fun e W h=>absurd h e))<|oc (zD 34 ((x.n':Int)==0) kI iiz (fun e=>zL [(38,(UF.eq (.int .u32 (x.d:Int))).tS)] ((uB (decide ((x.d:Int)<=12))).tS) (fmz ⟨fun v W h=>zI (c:=((x.n':Int)==0)=false) (f:=(UF.eq (.int .u32 (x.d:Int))).tS) e h,fnz⟩) (fun _ _ h _=>h) kI (zP .u32 (x.d:Int) 12 (decide ((x.d:Int)<=12)) iiz iiz rfl rfl)) (fun e W h=>absurd h e))<|oc (zD 29 true kI iiz (fun _=>yE ((x.n':Int)==0) iiz (fun e v W h=>zAV h e) (fun e v W h=>zAe (zI e h) e)) arf)<|oc (yE true iiz (fun _ _ _ h=>h) (fun e=>by cases e))<|oc zG<|zE) fun a w4 s=> ?_
  refine zB rfl ?_
  refine zUh ?_
  have hres:tnB x=(((x.n':Int)==0)||decide ((x.d:Int)<=12)):=by unfold tnB;rw [zUP];simp only [zUt,zUQ,zU6,zUp,zUD,zU7,zUB,zUw,zU8,iff_false] at h1 h2 ⊢;omega
  exact wF s (t:=2) rfl (fun _ _ h=>by rw [hres];exact h)
theorem zGN {L:List QX} {W:Wm} {l:Wn} (hl0:(SF.row 3 (qxs L)).p l W) (hL:L.length<=1000):Calls prog 17 #[l] W (Ret W (fB (L.all tnB)).tS):=by
 refine qH [(UF.eq l).tS] func17 rfl kI ⟨rfl,trivial⟩ fun a s=> ?_
 refine zUb ?_
 refine zC 1 ((2, .u (uB false)):: []) hmix s kI
  (oc zG<|zE) fun a w1 s=> ?_
 refine zB rfl ?_
 refine zUb ?_
 refine zUb ?_
 refine zC 1 ((3, .u (uI 0)):: []) hmix s kI
  (oc zG<|zE) fun a w2 s=> ?_
 refine zB rfl ?_
 refine zUd ?_
 refine zJ4 (fun i=>i<=L.length/\ ∀(j:Nat) (y:QX),j<i->L[j]?=some y->tnB y=true) (fun i=> [(0, .o ((UF.eq l).tS)),(3, .u (uI ((i:Nat):Int)))]) (fun i=>L.length - i) (0:Nat) (⟨zUl _,fun j y hj=>absurd hj (zUy _)⟩) (s.keepK _ (fmz ⟨mz2,fmz ⟨.head _,fnz⟩⟩)) fun i a w hx s=> ?_
 have hx9:=hx
 refine zUb ?_
 refine zUb ?_
 refine zC 4 ((4, .Z (uI (i:Int)))::(5, .Z (UF.eq l))::(6, .Z (uI ((qxs L).length:Int)))::(7, .u (uB (decide ((i:Int)<((qxs L).length:Int))))):: []) hmix s kI
  (oc zA<|oc zA<|oc (qK (z:=3) (Cs:=qxs L) kI (fun v W hb h=>(yT hl0 h (s.up hb))) (fun _=>rfl))<|oc (zP .i64 (i:Int) ((qxs L).length:Int) (decide ((i:Int)<((qxs L).length:Int))) iiz iiz rfl rfl)<|zE) fun a w3 s=> ?_
 refine zB rfl ?_
 refine StS.cond s (decide ((i:Int)<((qxs L).length:Int))) iiz (fun e=> ?_) (fun e=> ?_)
 ·have hi:i<L.length:=by have:=zUj e;simp at this;omega
  obtain ⟨y,hyl⟩: ∃y,L[i]?=some y:=⟨_,zUo hi⟩
  have hy_:(qxs L)[i]?=some (wD y):=by rw [zUF,hyl];rfl
  have hl20:=hL
  refine zUg ?_
  refine zUb ?_
  refine zUd ?_
  refine zUb ?_
  refine zC 6 ((10, .Z (UF.eq l))::(11, .Z (uI (i:Int)))::(12, .s (wC (wD y).cf))::(13, .Z (fQX y.n y.n' y.k y.d))::(14, .Z (uB (tnB y)))::(15, .u (uB (!(tnB y)))):: []) hmix s kI
   (oc zA<|oc zA<|oc (zT (z:=3) (Cs:=qxs L) (i:=i) (C:=wD y) kI hy_ (fun v W hb h=>(yT hl0 h (s.up hb))) iiz)<|oc (yP (f:=fQX y.n y.n' y.k y.d) 3 kI (hz:=zKK _ _ _ _))<|oc (zM zF zS7 (fun u0 W hb (h0:QXp y.n y.n' y.k y.d u0 W)=>zKJ (x:=y) h0))<|oc (zAT (tnB y) iiz (fun _=>rfl))<|zE) fun a w4 s=> ?_
  refine zB rfl ?_
  refine StS.cond s (!(tnB y)) iiz (fun e=> ?_) (fun e=> ?_)
  ·have hall:L.all tnB=false:=by
    rw [Bool.eq_false_iff]
    intro h
    have h8:=zUA.1 h y (List.mem_of_getElem? hyl)
    rw [h8] at e
    cases e
   refine zUb ?_
   refine zC 1 ((2, .u (uB false)):: []) hmix s kI
    (oc zG<|zE) fun a w5 s=> ?_
   refine zB rfl ?_
   refine zUh ?_
   exact wF s (t:=2) rfl (fun _ _ h=>by rw [hall];exact h)
  ·refine zUg ?_
   refine yI 2 ((8, .Z (uI (i:Int)))::(9, .u (uI ((i+1:Nat):Int))):: []) s kI
    (oc zA<|oc (qX .i64 (i:Int) 1 ((i+1:Nat):Int) iiz iiz (wrap64 _ _ oP oP))<|zE) fun a w6 s=> ?_
   replace s:=s.drop [3]
   refine qN (uI ((i+1:Nat):Int)) rfl s kI iiz fun a w s=> ?_
   refine zB rfl ?_
   exact ⟨i+1,⟨hi,fun j y' hj hy=>by rcases Nat.lt_or_eq_of_le (Nat.le_of_lt_succ hj) with h|h;exact hx9.2 j y' h hy;rw [h,hyl] at hy;cases hy;exact by simpa using e⟩,(by show L.length - (i+1)<L.length - i;omega),s.keepK _ (fmz ⟨mz4,fmz ⟨.head _,fnz⟩⟩)⟩
 ·have hi:i=L.length:=by have h7:=zUi e;have h8:=hx9.1;simp at h7;omega
  have hall:L.all tnB=true:=zUA.2 fun y hy=>by
   obtain ⟨j,hj⟩:=List.getElem?_of_mem hy
   exact hx9.2 j y (by rw [hi];exact (zU3.1 hj).1) hj
  refine zUm ?_
  refine zUb ?_
  refine zC 1 ((2, .u (uB true)):: []) hmix s kI
   (oc zG<|zE) fun a w7 s=> ?_
  refine zB rfl ?_
  refine zUh ?_
  exact wF s (t:=2) rfl (fun _ _ h=>by rw [hall];exact h)
theorem zJr {n:Int} {js:List (Int×Int)} {L:List QX} {W:Wm} {u lj l:Wn} (hu:u= .int .i64 n) (hj:(SF.row 2 (jns js)).p lj W) (hl:(SF.row 3 (qxs L)).p l W):Calls prog 7 #[u,lj,l] W (Ret W (fB (g28 n js L)).tS):=by
 refine qH [(uI n).tS,SF.row 2 (jns js),SF.row 3 (qxs L)] func7 rfl kI ⟨hu,hj,hl,trivial⟩ fun a s=> ?_
 refine zUb ?_
 refine zC 1 ((6, .u (uB false)):: []) hmix s kI
  (oc zG<|zE) fun a w1 s=> ?_
 refine zB rfl ?_
 refine zUb ?_
 rcases Bool.eq_false_or_eq_true ((decide (n>20)||decide (((jns js).length:Int)>60))||decide (((qxs L).length:Int)>60)) with eN|eN
 ·replace s:=s.drop [6]
  refine zC 18 ((7, .Z (uI n))::(8, .Z (uB (decide (n>20))))::(9, .Z (uB (decide (n>20))))::(10, .s (SF.imp ((decide (n>20))=false) (SF.row 2 (jns js))))::(11, .s (SF.imp ((decide (n>20))=false) ((uI ((jns js).length:Int)).tS)))::(12, .s (SF.imp ((decide (n>20))=false) ((uB (decide (((jns js).length:Int)>60))).tS)))::(13, .Z (uB ((decide (n>20))||(decide (((jns js).length:Int)>60)))))::(14, .Z (uB ((decide (n>20))||(decide (((jns js).length:Int)>60)))))::(15, .s (SF.imp (((decide (n>20))||(decide (((jns js).length:Int)>60)))=false) (SF.row 3 (qxs L))))::(16, .s (SF.imp (((decide (n>20))||(decide (((jns js).length:Int)>60)))=false) ((uI ((qxs L).length:Int)).tS)))::(17, .s (SF.imp (((decide (n>20))||(decide (((jns js).length:Int)>60)))=false) ((uB (decide (((qxs L).length:Int)>60))).tS)))::(18, .Z (uB true))::(19, .Z (uB true))::(23, .Z (uB true))::(6, .u (uB true)):: []) hmix s kI
   (oc zA<|oc (zP .i64 n 20 (decide (n>20)) iiz iiz rfl rfl)<|oc zA<|oc (zD 9 (decide (n>20)) kI iiz (fun e=>zL [] (SF.row 2 (jns js)) fnz (fun _ _ h _=>h) kI zA) (fun e W h=>absurd h e))<|oc (zD 9 (decide (n>20)) kI iiz (fun e=>zL [(10,SF.row 2 (jns js))] ((uI ((jns js).length:Int)).tS) (fmz ⟨fun v W h=>zI (c:=(decide (n>20))=false) (f:=SF.row 2 (jns js)) e h,fnz⟩) (fun _ _ h _=>h) kI (zCa (z:=2) (Cs:=jns js) kI iiz (fun _=>rfl))) (fun e W h=>absurd h e))<|oc (zD 9 (decide (n>20)) kI iiz (fun e=>zL [(11,(uI ((jns js).length:Int)).tS)] ((uB (decide (((jns js).length:Int)>60))).tS) (fmz ⟨fun v W h=>zI (c:=(decide (n>20))=false) (f:=(uI ((jns js).length:Int)).tS) e h,fnz⟩) (fun _ _ h _=>h) kI (zP .i64 ((jns js).length:Int) 60 (decide (((jns js).length:Int)>60)) iiz iiz rfl rfl)) (fun e W h=>absurd h e))<|oc (yE (decide (n>20)) iiz (fun e v W h=>zAV h e) (fun e v W h=>zAe (zI e h) e))<|oc zA<|oc (zD 14 ((decide (n>20))||(decide (((jns js).length:Int)>60))) kI iiz (fun e=>zL [] (SF.row 3 (qxs L)) fnz (fun _ _ h _=>h) kI zA) (fun e W h=>absurd h e))<|oc (zD 14 ((decide (n>20))||(decide (((jns js).length:Int)>60))) kI iiz (fun e=>zL [(15,SF.row 3 (qxs L))] ((uI ((qxs L).length:Int)).tS) (fmz ⟨fun v W h=>zI (c:=((decide (n>20))||(decide (((jns js).length:Int)>60)))=false) (f:=SF.row 3 (qxs L)) e h,fnz⟩) (fun _ _ h _=>h) kI (zCa (z:=3) (Cs:=qxs L) kI iiz (fun _=>rfl))) (fun e W h=>absurd h e))<|oc (zD 14 ((decide (n>20))||(decide (((jns js).length:Int)>60))) kI iiz (fun e=>zL [(16,(uI ((qxs L).length:Int)).tS)] ((uB (decide (((qxs L).length:Int)>60))).tS) (fmz ⟨fun v W h=>zI (c:=((decide (n>20))||(decide (((jns js).length:Int)>60)))=false) (f:=(uI ((qxs L).length:Int)).tS) e h,fnz⟩) (fun _ _ h _=>h) kI (zP .i64 ((qxs L).length:Int) 60 (decide (((qxs L).length:Int)>60)) iiz iiz rfl rfl)) (fun e W h=>absurd h e))<|oc (yE ((decide (n>20))||(decide (((jns js).length:Int)>60))) iiz (fun e v W h=>h.trans (zUf Value.bool (by first|rfl|(have h7:=eN;rw [e,Bool.true_or] at h7;exact h7)))) (fun e v W h=>(zI e h).trans (zUf Value.bool (by first|rfl|(have h7:=eN;rw [e,zU9] at h7;exact h7)))))<|oc zA<|oc (zD 19 true kI iiz (fun e=>by cases e) (fun _ _=>trivial))<|oc (zD 19 true kI iiz (fun e=>by cases e) (fun _ _=>trivial))<|oc (zD 19 true kI iiz (fun e=>by cases e) (fun _ _=>trivial))<|oc (yE true iiz (fun _ _ _ h=>h) (fun e=>by cases e))<|oc zG<|zE) fun a w2 s=> ?_
  refine zB rfl ?_
  refine zUh ?_
  have hres:g28 n js L=true:=by unfold g28;rw [eN,Bool.true_or]
  exact wF s (t:=6) rfl (fun _ _ h=>by rw [hres];exact h)
 ·have hLl:L.length<=1000:=by have h7:=eN;rw [zUp] at h7;have h8:=zUi h7.2;rw [zUe] at h8;omega
  replace s:=s.drop [6]
  refine zC 18 ((7, .Z (uI n))::(8, .Z (uB (decide (n>20))))::(9, .Z (uB (decide (n>20))))::(10, .s (SF.imp ((decide (n>20))=false) (SF.row 2 (jns js))))::(11, .s (SF.imp ((decide (n>20))=false) ((uI ((jns js).length:Int)).tS)))::(12, .s (SF.imp ((decide (n>20))=false) ((uB (decide (((jns js).length:Int)>60))).tS)))::(13, .Z (uB ((decide (n>20))||(decide (((jns js).length:Int)>60)))))::(14, .Z (uB ((decide (n>20))||(decide (((jns js).length:Int)>60)))))::(15, .s (SF.imp (((decide (n>20))||(decide (((jns js).length:Int)>60)))=false) (SF.row 3 (qxs L))))::(16, .s (SF.imp (((decide (n>20))||(decide (((jns js).length:Int)>60)))=false) ((uI ((qxs L).length:Int)).tS)))::(17, .s (SF.imp (((decide (n>20))||(decide (((jns js).length:Int)>60)))=false) ((uB (decide (((qxs L).length:Int)>60))).tS)))::(18, .Z (uB false))::(19, .Z (uB false))::(20, .s (SF.row 3 (qxs L)))::(21, .Z (uB (L.all tnB)))::(22, .Z (uB (!(L.all tnB))))::(23, .Z (uB (!(L.all tnB))))::(6, .u (uB (!(L.all tnB)))):: []) hmix s kI
   (oc zA<|oc (zP .i64 n 20 (decide (n>20)) iiz iiz rfl rfl)<|oc zA<|oc (zD 9 (decide (n>20)) kI iiz (fun e=>zL [] (SF.row 2 (jns js)) fnz (fun _ _ h _=>h) kI zA) (fun e W h=>absurd h e))<|oc (zD 9 (decide (n>20)) kI iiz (fun e=>zL [(10,SF.row 2 (jns js))] ((uI ((jns js).length:Int)).tS) (fmz ⟨fun v W h=>zI (c:=(decide (n>20))=false) (f:=SF.row 2 (jns js)) e h,fnz⟩) (fun _ _ h _=>h) kI (zCa (z:=2) (Cs:=jns js) kI iiz (fun _=>rfl))) (fun e W h=>absurd h e))<|oc (zD 9 (decide (n>20)) kI iiz (fun e=>zL [(11,(uI ((jns js).length:Int)).tS)] ((uB (decide (((jns js).length:Int)>60))).tS) (fmz ⟨fun v W h=>zI (c:=(decide (n>20))=false) (f:=(uI ((jns js).length:Int)).tS) e h,fnz⟩) (fun _ _ h _=>h) kI (zP .i64 ((jns js).length:Int) 60 (decide (((jns js).length:Int)>60)) iiz iiz rfl rfl)) (fun e W h=>absurd h e))<|oc (yE (decide (n>20)) iiz (fun e v W h=>zAV h e) (fun e v W h=>zAe (zI e h) e))<|oc zA<|oc (zD 14 ((decide (n>20))||(decide (((jns js).length:Int)>60))) kI iiz (fun e=>zL [] (SF.row 3 (qxs L)) fnz (fun _ _ h _=>h) kI zA) (fun e W h=>absurd h e))<|oc (zD 14 ((decide (n>20))||(decide (((jns js).length:Int)>60))) kI iiz (fun e=>zL [(15,SF.row 3 (qxs L))] ((uI ((qxs L).length:Int)).tS) (fmz ⟨fun v W h=>zI (c:=((decide (n>20))||(decide (((jns js).length:Int)>60)))=false) (f:=SF.row 3 (qxs L)) e h,fnz⟩) (fun _ _ h _=>h) kI (zCa (z:=3) (Cs:=qxs L) kI iiz (fun _=>rfl))) (fun e W h=>absurd h e))<|oc (zD 14 ((decide (n>20))||(decide (((jns js).length:Int)>60))) kI iiz (fun e=>zL [(16,(uI ((qxs L).length:Int)).tS)] ((uB (decide (((qxs L).length:Int)>60))).tS) (fmz ⟨fun v W h=>zI (c:=((decide (n>20))||(decide (((jns js).length:Int)>60)))=false) (f:=(uI ((qxs L).length:Int)).tS) e h,fnz⟩) (fun _ _ h _=>h) kI (zP .i64 ((qxs L).length:Int) 60 (decide (((qxs L).length:Int)>60)) iiz iiz rfl rfl)) (fun e W h=>absurd h e))<|oc (yE ((decide (n>20))||(decide (((jns js).length:Int)>60))) iiz (fun e v W h=>h.trans (zUf Value.bool (by first|rfl|(have h7:=eN;rw [e,Bool.true_or] at h7;exact h7)))) (fun e v W h=>(zI e h).trans (zUf Value.bool (by first|rfl|(have h7:=eN;rw [e,zU9] at h7;exact h7)))))<|oc zA<|oc (zD 19 false kI iiz (fun _=>zA) arf)<|oc (zD 19 false kI iiz (fun _=>zM zF zRD (fun u0 W hb (h0:(SF.row 3 (qxs L)).p u0 W)=>zGN h0 hLl)) arf)<|oc (zD 19 false kI iiz (fun _=>zAT (L.all tnB) iiz (fun _=>rfl)) arf)<|oc (yE false iiz (fun e=>by cases e) (fun _ _ _ h=>h))<|oc zG<|zE) fun a w3 s=> ?_
  refine zB rfl ?_
  refine zUh ?_
  have hres:g28 n js L= !(L.all tnB):=by unfold g28;rw [eN,zU9]
  exact wF s (t:=6) rfl (fun _ _ h=>by rw [hres];exact h)
end Go.Proofs.Wd

namespace Go.Proofs.Wd
open Tryz
set_option maxRecDepth 100000
set_option maxHeartbeats 1000000
open Go.RowKit Lb
def zER (N k:Nat):List Int:=List.replicate k (-1)++List.replicate (N - k) 0
theorem zLE {N k:Nat} (h:k<=N):(zER N k).length=N:=by simp [zER];omega
theorem zLD {N k:Nat} (h:k<N):(zER N k).set k (-1)=zER N (k+1):=by
 unfold zER
 have e:N - k=(N - (k+1))+1:=by omega
 rw [e,List.replicate_succ,List.set_append_right _ _ (by simp)]
 simp [zUT]
theorem zLF (N:Nat):zER N N=List.replicate N (-1):=by simp [zER]
theorem zQH (td:List Nat) (a:Nat):(ins (jO (td++ [a])))[td.length]?=some (wB [.int .i64 (a:Int)]):=by simp [jO]
theorem zO7 (td:List Nat) (a:Nat):(ins (jO (td++ [a]))).take td.length=ins (jO td):=by simp [jO]
theorem zRp (td:List Nat) (a:Nat):ins (jO td)++ [wB [.int .i64 (a:Int)]]=ins (jO (td++ [a])):=by simp [jO]
def fLb (W:Wm) (E:Adj) (N:Nat):SF:=⟨fun v w=> ∃lab,Labd E N lab/\y9 w W.heap.size 3 1 v (ins lab),fun _ _ _ ⟨lab,h,hr⟩ hb=>⟨lab,h,hr.below hb⟩⟩
theorem zKC {W:Wm} {n:Int} {N:Nat} {js:List (Int×Int)} {u lj:Wn} (hu:u= .int .i64 n) (hj:(SF.row 2 (jns js)).p lj W) (hNz:min (max n 0) 131072=(N:Int)) (hNs:N<=20) (hjl:js.length<=61) (hT:Tab W):Calls prog 14 #[u,lj] W (Ret W (fLb W (grE N js []) N)):=by
  have hFr:Below W.heap.size W W:=zUn _ _
  have hGk:Gok (grE N js []) N:=zGb _ _ _
  have hS: ∀a b f,(b,f)∈(grE N js []) a->(a,f)∈(grE N js []) b:=fun a b f h=>zOI h
  refine qH [(uI n).tS,SF.row 2 (jns js)] func14 rfl kI ⟨hu,hj,trivial⟩ fun a s=> ?_
  refine zUb ?_
  refine zC 1 ((4, .u (UF.eq (.slice none 0 0))):: []) hmix s kI
    (oc zG<|zE) fun a w1 s=> ?_
  refine zB rfl ?_
  refine zUb ?_
  refine qU 4 ((13, .Z (uI n))::(14, .s (SF.row 2 (jns js)))::(15, .s (fG (glN N (rds N js []))))::(5, .s (fG (glN N (rds N js [])))):: []) hmix s kI
    (oc zA<|oc zA<|oc (zD7 zF zQn (fun u0 u1 u2 W hb (h0:u0= .int .i64 n) (h1:(SF.row 2 (jns js)).p u1 W) (h2:u2= .slice none 0 0)=>zH1 (fs:= []) h0 h1 (by rw [h2];exact y9.row (y9.nil _ W.heap.size 32 3)) hNz hNs hjl (hT.below (s.up hb))))<|oc zG<|zE) fun a w2 s hr=> ?_
  refine zB rfl ?_
  obtain ⟨gg,cap,vs,e5,hG⟩:=(hr (_,_) mz3)
  rw [zAi] at e5
  replace s:=s.learn 5 _ e5
  have hb:=s.below
  replace hFr:=hFr.trans (hb.mono hFr.size)
  replace hG:=hG.below (zUn _ _)
  replace s:=s.keepK [(5, .u (UF.eq (.slice (some ⟨gg,0,none⟩) N cap)))] (fmz ⟨.head _,fnz⟩)
  replace s:=s.anewB rfl rfl
  refine zUb ?_
  refine zC 2 ((16, .Z (UF.eq (.slice (some ⟨gg,0,none⟩) N cap)))::(17, .u (uI (N:Int))):: []) hmix s kI
    (oc zA<|oc (jV kI (fun v W h=>⟨_,_,_,h,rfl⟩))<|zE) fun a w3 s=> ?_
  have hb:=s.below
  replace hFr:=hFr.trans (hb.mono hFr.size)
  replace hG:=hG.below hb
  refine zO9 (nn:=N) (z:=1) (e:=3) (zs:= [.int .i64 0]) (wB [.int .i64 0]) s rfl kI kI kI rfl rfl oP (fun W=>rfl) (s.fct (.tmp 17)) (s.fct (.tmp 17)) fun gl a w egl hb hD s=> ?_
  have hgl:W.heap.size<=gl:=by rw [egl];exact hFr.size
  replace hFr:=hFr.trans (hb.mono hFr.size)
  replace hG:=hG.below hb
  replace hD:jG w gl 3 1 N (ins (zER N 0)):=by unfold ins zER;simpa using hD
  refine qN (UF.eq (.slice (some ⟨gl,0,none⟩) N N)) rfl s kI iiz fun a w s=> ?_
  refine zB rfl ?_
  have hb:=s.below
  replace hFr:=hFr.trans (hb.mono hFr.size)
  replace hG:=hG.below hb
  replace hD:=hD.below hb
  replace s:=s.anewB rfl rfl
  refine zUb ?_
  refine zUb ?_
  refine zC 3 ((19, .Z (UF.eq (.slice (some ⟨gl,0,none⟩) N N)))::(20, .u (uI (N:Int)))::(21, .u (uI 0)):: []) hmix s kI
    (oc zA<|oc (jV kI (fun v W h=>⟨_,_,_,h,rfl⟩))<|oc zA<|zE) fun a w4 s=> ?_
  refine zB rfl ?_
  have hb:=s.below
  replace hFr:=hFr.trans (hb.mono hFr.size)
  replace hG:=hG.below hb
  replace hD:=hD.below hb
  replace s:=s.anewB rfl rfl
  refine zUd ?_
  refine yM (fun (y:Nat) a w=>y<=N/\Below W.heap.size W w/\GM w gg cap vs (glN N (rds N js []))/\jG w gl 3 1 N (ins (zER N y))/\St w [(5, .u (UF.eq (.slice (some ⟨gg,0,none⟩) N cap))),(6, .u (UF.eq (.slice (some ⟨gl,0,none⟩) N N))),(20, .u (uI (N:Int))),(21, .u (uI ((y:Nat):Int)))] [] f14.ntmps [] a w) (fun y=>N - y) 0 ⟨zUl _,hFr,hG,hD,s.keepK _ (fmz ⟨mz5,fmz ⟨mz2,fmz ⟨.head _,fmz ⟨mz1,fnz⟩⟩⟩⟩)⟩ fun y a w hx=> ?_
  clear hFr hG hD
  obtain ⟨hk,hFr,hG,hD,s⟩:=hx
  refine zUb ?_
  refine zC 1 ((22, .u (uB (decide ((y:Int)<(N:Int))))):: []) hmix s kI
    (oc (zP .i64 (y:Int) (N:Int) (decide ((y:Int)<(N:Int))) iiz iiz rfl rfl)<|zE) fun a w5 s=> ?_
  refine zB rfl ?_
  have hb:=s.below
  replace hFr:=hFr.trans (hb.mono hFr.size)
  replace hG:=hG.below hb
  replace hD:=hD.below hb
  replace s:=s.anewB rfl rfl
  refine zUb ?_
  refine StS.cond s (decide ((y:Int)<(N:Int))) iiz (fun e=> ?_) (fun e=> ?_)
  . have hkl:y<N:=by have:=zUj e;omega
    have hyl:y<(zER N y).length:=by rw [zLE hk];exact hkl
    refine zUg ?_
    refine zUb ?_
    refine zUd ?_
    refine zUb ?_
    refine zC 2 ((23, .Z (uI (y:Int)))::(7, .u (uI (y:Int))):: []) hmix s kI
      (oc zA<|oc zG<|zE) fun a w6 s=> ?_
    refine zB rfl ?_
    have hb:=s.below
    replace hFr:=hFr.trans (hb.mono hFr.size)
    replace hG:=hG.below hb
    replace hD:=hD.below hb
    replace s:=s.anewB rfl rfl
    refine zC 2 ((24, .u (UF.eq (.slice (some ⟨gl,0,none⟩) N N)))::(25, .u (uI (y:Int))):: []) hmix s kI
      (oc zA<|oc zA<|zE) fun a w7 s=> ?_
    refine zCr (UF.eq (.pointer (some ⟨gl,y*1,none⟩))) rfl s kI (zAm (z:=1) (g:=gl) (nn:=N) (cap:=N) (i:=y) kI hkl iiz iiz) kI fun a w s=> ?_
    have hb:=s.below
    replace hFr:=hFr.trans (hb.mono hFr.size)
    replace hG:=hG.below hb
    replace hD:=hD.below hb
    refine zCC (g:=gl) (i:=y) (cap:=N) (z:=1) (e:=3) (wB [.int .i64 (-1)]) rfl s rfl rfl hD (by simpa using hyl) kI (s.fct (.tmp 26)) (zAX rfl rfl rfl rfl) (fun q hq=>by cases hq) fun w hF1 hk1 hD1 s=> ?_
    replace hFr:=yN hFr hF1 (fun q hq=>by rw [hq];exact hgl)
    replace hG:=hG.keep (fun q hq=>hF1.block q (hG.lt hq) (hG.no hq hD.at.choose_spec dB dB)) hk1
    replace hD:=hD1
    rw [zDx] at hD
    refine zB rfl ?_
    have hb:=s.below
    replace hFr:=hFr.trans (hb.mono hFr.size)
    replace hG:=hG.below hb
    replace hD:=hD.below hb
    replace s:=s.anewB rfl rfl
    refine yI 1 ((27, .u (uI ((y+1:Nat):Int))):: []) s kI
      (oc (qX .i64 (y:Int) 1 ((y+1:Nat):Int) iiz iiz (wrap64 _ _ oP oP))<|zE) fun a w8 s=> ?_
    replace s:=s.drop [21]
    refine zCr (uI ((y+1:Nat):Int)) rfl s kI zA kI fun a w s=> ?_
    refine zB rfl ?_
    have hb:=s.below
    replace hFr:=hFr.trans (hb.mono hFr.size)
    replace hG:=hG.below hb
    replace hD:=hD.below hb
    replace s:=s.anewB rfl rfl
    exact ⟨y+1,(by show N - (y+1)<N - y;omega),hkl,hFr,hG,(by rw [<-zLD hkl];exact hD),s.keepK _ (fmz ⟨mz7,fmz ⟨mz8,fmz ⟨mz9,fmz ⟨.head _,fnz⟩⟩⟩⟩)⟩
  . have hkl:y=N:=by have:=zUi e;omega
    refine zUm ?_
    refine zUb ?_
    refine zUb ?_
    refine zC 3 ((28, .Z (UF.eq (.slice (some ⟨gg,0,none⟩) N cap)))::(29, .u (uI (N:Int)))::(30, .u (uI 0)):: []) hmix s kI
      (oc zA<|oc (jV kI (fun v W h=>⟨_,_,_,h,rfl⟩))<|oc zA<|zE) fun a w9 s=> ?_
    refine zB rfl ?_
    have hb:=s.below
    replace hFr:=hFr.trans (hb.mono hFr.size)
    replace hG:=hG.below hb
    replace hD:=hD.below hb
    replace s:=s.anewB rfl rfl
    refine zUd ?_
    rw [hkl,zLF] at hD
    refine yM (fun (y:Nat×List Int) a w=>y.1<=N/\OI (grE N js []) N y.1 y.2/\Below W.heap.size W w/\GM w gg cap vs (glN N (rds N js []))/\jG w gl 3 1 N (ins y.2)/\St w [(5, .u (UF.eq (.slice (some ⟨gg,0,none⟩) N cap))),(6, .u (UF.eq (.slice (some ⟨gl,0,none⟩) N N))),(29, .u (uI (N:Int))),(30, .u (uI (y.1:Int)))] [] f14.ntmps [] a w) (fun y=>N - y.1) (0,List.replicate N (-1)) ⟨zUl _,OI.begin _ _,hFr,hG,hD,s.keepK _ (fmz ⟨mz3,fmz ⟨mz4,fmz ⟨.head _,fmz ⟨mz1,fnz⟩⟩⟩⟩)⟩ fun y a w hx=> ?_
    clear hFr hG hD
    obtain ⟨hk,hO,hFr,hG,hD,s⟩:=hx
    refine zUb ?_
    refine zC 1 ((31, .u (uB (decide ((y.1:Int)<(N:Int))))):: []) hmix s kI
      (oc (zP .i64 (y.1:Int) (N:Int) (decide ((y.1:Int)<(N:Int))) iiz iiz rfl rfl)<|zE) fun a w10 s=> ?_
    refine zB rfl ?_
    have hb:=s.below
    replace hFr:=hFr.trans (hb.mono hFr.size)
    replace hG:=hG.below hb
    replace hD:=hD.below hb
    replace s:=s.anewB rfl rfl
    refine zUb ?_
    refine StS.cond s (decide ((y.1:Int)<(N:Int))) iiz (fun e=> ?_) (fun e=> ?_)
    . have hkl:y.1<N:=by have:=zUj e;omega
      have hil:y.1<y.2.length:=by rw [hO.ln];exact hkl
      have hdl:=hD.row (n:=N) (by simp [hO.ln])
      refine zUg ?_
      refine zUb ?_
      refine zUd ?_
      refine zUb ?_
      refine zC 2 ((32, .Z (uI (y.1:Int)))::(8, .u (uI (y.1:Int))):: []) hmix s kI
        (oc zA<|oc zG<|zE) fun a w11 s=> ?_
      refine zB rfl ?_
      have hb:=s.below
      replace hFr:=hFr.trans (hb.mono hFr.size)
      replace hG:=hG.below hb
      replace hD:=hD.below hb
      replace s:=s.anewB rfl rfl
      refine zUb ?_
      refine zUb ?_
      have hdl:=hD.row (n:=N) (by simp [hO.ln])
      refine zC 5 ((33, .Z (UF.eq (.slice (some ⟨gl,0,none⟩) N N)))::(34, .Z (uI (y.1:Int)))::(35, .s (wC (wB [.int .i64 (y.2.getD y.1 0)]).cf))::(36, .Z (uI (y.2.getD y.1 0)))::(37, .u (uB (decide ((y.2.getD y.1 0)≥0)))):: []) hmix s kI
        (oc zA<|oc zA<|oc (zT (z:=1) (Cs:=ins y.2) (i:=y.1) (C:=wB [.int .i64 (y.2.getD y.1 0)]) kI (zAY hil) (fun v W hb h=>(by rw [show v=(Value.slice (some ⟨gl,0,none⟩) N N) from h];exact (SF.row 1 (ins y.2)).st _ _ _ hdl (s.up hb))) iiz)<|oc (yR (C:=(wB [.int .i64 (y.2.getD y.1 0)]).cf) kI iiz jF)<|oc (zP .i64 (y.2.getD y.1 0) 0 (decide ((y.2.getD y.1 0)≥0)) iiz iiz rfl rfl)<|zE) fun a w12 s=> ?_
      refine zB rfl ?_
      have hb:=s.below
      replace hFr:=hFr.trans (hb.mono hFr.size)
      replace hG:=hG.below hb
      replace hD:=hD.below hb
      replace s:=s.anewB rfl rfl
      refine StS.cond s (decide ((y.2.getD y.1 0)≥0)) iiz (fun e=> ?_) (fun e=> ?_)
      . have e37:=zUj e
        refine zUm ?_
        refine yI 1 ((84, .u (uI ((y.1+1:Nat):Int))):: []) s kI
          (oc (qX .i64 (y.1:Int) 1 ((y.1+1:Nat):Int) iiz iiz (wrap64 _ _ oP oP))<|zE) fun a w13 s=> ?_
        replace s:=s.drop [30]
        refine zCr (uI ((y.1+1:Nat):Int)) rfl s kI zA kI fun a w s=> ?_
        refine zB rfl ?_
        have hb:=s.below
        replace hFr:=hFr.trans (hb.mono hFr.size)
        replace hG:=hG.below hb
        replace hD:=hD.below hb
        replace s:=s.anewB rfl rfl
        exact ⟨(y.1+1,y.2),(by show N - (y.1+1)<N - y.1;omega),hkl,hO.skip hkl oP hS,hFr,hG,hD,s.keepK _ (fmz ⟨mz5,fmz ⟨mz6,fmz ⟨mz7,fmz ⟨.head _,fnz⟩⟩⟩⟩)⟩
      . have e37:=zUi e
        refine zUg ?_
        refine zUb ?_
        refine zC 3 ((38, .u (UF.eq (.slice (some ⟨gl,0,none⟩) N N)))::(39, .u (uI (y.1:Int)))::(40, .u (uI (y.1:Int))):: []) hmix s kI
          (oc zA<|oc zA<|oc zA<|zE) fun a w14 s=> ?_
        refine zCr (UF.eq (.pointer (some ⟨gl,y.1*1,none⟩))) rfl s kI (zAm (z:=1) (g:=gl) (nn:=N) (cap:=N) (i:=y.1) kI hkl iiz iiz) kI fun a w s=> ?_
        have hb:=s.below
        replace hFr:=hFr.trans (hb.mono hFr.size)
        replace hG:=hG.below hb
        replace hD:=hD.below hb
        refine zCC (g:=gl) (i:=y.1) (cap:=N) (z:=1) (e:=3) (wB [.int .i64 (y.1:Int)]) rfl s rfl rfl hD (by simpa using hil) kI (s.fct (.tmp 41)) (zAX (s.fct (.tmp 40)) rfl rfl rfl) (fun q hq=>by cases hq) fun w hF1 hk1 hD1 s=> ?_
        replace hFr:=yN hFr hF1 (fun q hq=>by rw [hq];exact hgl)
        replace hG:=hG.keep (fun q hq=>hF1.block q (hG.lt hq) (hG.no hq hD.at.choose_spec dB dB)) hk1
        replace hD:=hD1
        rw [zDx] at hD
        refine zB rfl ?_
        have hb:=s.below
        replace hFr:=hFr.trans (hb.mono hFr.size)
        replace hG:=hG.below hb
        replace hD:=hD.below hb
        replace s:=s.anewB rfl rfl
        refine zUb ?_
        refine qU 3 ((42, .Z (uI (y.1:Int)))::(43, .s (wE w 3 1 [wB [.int .i64 (y.1:Int)]]))::(9, .s (wE w 3 1 [wB [.int .i64 (y.1:Int)]])):: []) hmix s kI
          (oc zA<|oc (jU (fun u W hb (hu:u= .int .i64 (y.1:Int))=>by subst hu;exact ⟨_,_,zQV _,(zKc _ _).toN hb.size rfl⟩))<|oc zG<|zE) fun a w15 s hr=> ?_
        refine zB rfl ?_
        obtain ⟨tv,e9⟩: ∃v,a.tmps.getD 9 undef=v:=⟨_,rfl⟩
        have hTd:=(hr (_,_) mz2)
        rw [show a.tmps.getD _ undef=tv from e9] at hTd
        replace s:=s.learn 9 _ e9
        have hne: ∀q_,tv.ownBlock=some q_->q_≠gl:=fun q_ hq=>by have h1:=(hTd.lt q_ hq).1;have h2:=hD.lt;omega
        replace hTd:y9 _ W.heap.size 3 1 tv (ins (jO [y.1])):=hTd.mono hFr.size
        have hb:=s.below
        replace hFr:=hFr.trans (hb.mono hFr.size)
        replace hG:=hG.below hb
        replace hD:=hD.below hb
        replace s:=s.anewB rfl rfl
        refine zUd ?_
        refine yM (fun (z:List Int×Wn×List Nat) a w=>II (grE N js []) N y.1 z.1 z.2.2/\zJB z.1+z.2.2.length<=N/\Below W.heap.size W w/\GM w gg cap vs (glN N (rds N js []))/\jG w gl 3 1 N (ins z.1)/\y9 w W.heap.size 3 1 z.2.1 (ins (jO z.2.2))/\(∀q_,z.2.1.ownBlock=some q_->q_≠gl)/\St w [(5, .u (UF.eq (.slice (some ⟨gg,0,none⟩) N cap))),(6, .u (UF.eq (.slice (some ⟨gl,0,none⟩) N N))),(8, .u (uI (y.1:Int))),(9, .u (UF.eq (z.2.1))),(29, .u (uI (N:Int))),(30, .u (uI (y.1:Int)))] [] f14.ntmps [] a w) (fun z=>zJB z.1+z.2.2.length) (y.2.set y.1 (y.1:Int),tv, [y.1]) ⟨hO.enter hkl oP,(by show zJB (y.2.set y.1 (y.1:Int))+1<=N;rw [zIR hil oP oP, <-hO.ln];exact List.countP_le_length),hFr,hG,hD,hTd,hne,s.keepK _ (fmz ⟨mz8,fmz ⟨mz9,fmz ⟨mz6,fmz ⟨.head _,fmz ⟨zGo,fmz ⟨zF2,fnz⟩⟩⟩⟩⟩⟩)⟩ fun z a w hx=> ?_
        clear hFr hG hD hTd hne
        obtain ⟨hI,hcp,hFr,hG,hD,hTd,hne,s⟩:=hx
        refine zUb ?_
        refine zUb ?_
        have htl:=hTd.row
        refine zC 3 ((44, .Z (UF.eq z.2.1))::(45, .Z (uI ((ins (jO z.2.2)).length:Int)))::(46, .u (uB (decide (((ins (jO z.2.2)).length:Int)>0)))):: []) hmix s kI
          (oc zA<|oc (qK (z:=1) (Cs:=ins (jO z.2.2)) kI (fun v W hb h=>(by rw [show v=(z.2.1) from h];exact (SF.row 1 (ins (jO z.2.2))).st _ _ _ htl (s.up hb))) (fun _=>rfl))<|oc (zP .i64 ((ins (jO z.2.2)).length:Int) 0 (decide (((ins (jO z.2.2)).length:Int)>0)) iiz iiz rfl rfl)<|zE) fun a w16 s=> ?_
        refine zB rfl ?_
        have hb:=s.below
        replace hFr:=hFr.trans (hb.mono hFr.size)
        replace hG:=hG.below hb
        replace hD:=hD.below hb
        replace hTd:=hTd.below hb
        replace s:=s.anewB rfl rfl
        refine StS.cond s (decide (((ins (jO z.2.2)).length:Int)>0)) iiz (fun e=> ?_) (fun e=> ?_)
        . have hnz:z.2.2≠ []:=fun h0=>by rw [h0] at e;simp [jO] at e
          obtain ⟨td',at_,etd⟩: ∃t x,z.2.2=t++ [x]:=⟨_,_,(List.dropLast_concat_getLast hnz).symm⟩
          have hcp2:=hcp
          rw [etd,zUv,zUr] at hcp2
          rw [etd] at hTd
          obtain ⟨g,cp,ev,hgW,hRt⟩:=zDF hTd (by simp [jO])
          rw [show (ins (jO (td'++ [at_]))).length=td'.length+1 by simp [jO]] at ev
          obtain ⟨hat,haty⟩:=hI.td at_ (by rw [etd];simp)
          have hgcp:=hRt.cap
          rw [show (ins (jO (td'++ [at_]))).length=td'.length+1 by simp [jO]] at hgcp
          have hnl:=hI.ln
          have hgb:=s.val mz4
          replace s:=s.learn 9 _ (hgb.trans ev)
          replace s:=s.keepK [(9, .u (UF.eq (.slice (some ⟨g,0,none⟩) (td'.length+1) cp))),(46, .u (uB (decide (((ins (jO z.2.2)).length:Int)>0)))),(5, .u (UF.eq (.slice (some ⟨gg,0,none⟩) N cap))),(6, .u (UF.eq (.slice (some ⟨gl,0,none⟩) N N))),(8, .u (uI (y.1:Int))),(29, .u (uI (N:Int))),(30, .u (uI (y.1:Int)))] (fmz ⟨.head _,fmz ⟨mz1,fmz ⟨mz2,fmz ⟨mz3,fmz ⟨mz4,fmz ⟨mz6,fmz ⟨mz7,fnz⟩⟩⟩⟩⟩⟩⟩)
          skip
          rw [ev] at hTd hne
          refine zUg ?_
          refine zUd ?_
          refine zUb ?_
          have htl:=hTd.row
          refine zC 7 ((47, .Z (UF.eq (.slice (some ⟨g,0,none⟩) (td'.length+1) cp)))::(48, .Z (UF.eq (.slice (some ⟨g,0,none⟩) (td'.length+1) cp)))::(49, .Z (uI ((td'.length+1:Nat):Int)))::(50, .Z (uI (td'.length:Int)))::(51, .s (wC (wB [.int .i64 (at_:Int)]).cf))::(52, .Z (uI (at_:Int)))::(10, .u (uI (at_:Int))):: []) hmix s kI
            (oc zA<|oc zA<|oc (jV kI (fun v W h=>⟨_,_,_,h,rfl⟩))<|oc (zA9 .i64 ((td'.length+1:Nat):Int) 1 (td'.length:Int) iiz iiz (wrap64 _ _ oP oP))<|oc (zT (z:=1) (Cs:=ins (jO (td'++ [at_]))) (i:=td'.length) (C:=wB [.int .i64 (at_:Int)]) kI (zQH td' at_) (fun v W hb h=>(by rw [show v=(Value.slice (some ⟨g,0,none⟩) (td'.length+1) cp) from h];exact (SF.row 1 (ins (jO (td'++ [at_])))).st _ _ _ htl (s.up hb))) iiz)<|oc (yR (C:=(wB [.int .i64 (at_:Int)]).cf) kI iiz jF)<|oc zG<|zE) fun a w17 s=> ?_
          refine zB rfl ?_
          have hb:=s.below
          replace hFr:=hFr.trans (hb.mono hFr.size)
          replace hG:=hG.below hb
          replace hD:=hD.below hb
          replace hTd:=hTd.below hb
          replace hRt:=hRt.below hb
          replace s:=s.anewB rfl rfl
          refine zUb ?_
          refine yI 5 ((53, .Z (UF.eq (.slice (some ⟨g,0,none⟩) (td'.length+1) cp)))::(54, .Z (UF.eq (.slice (some ⟨g,0,none⟩) (td'.length+1) cp)))::(55, .Z (uI ((td'.length+1:Nat):Int)))::(56, .Z (uI (td'.length:Int)))::(57, .u (UF.eq (.slice (some ⟨g,0,none⟩) td'.length cp))):: []) s kI
            (oc zA<|oc zA<|oc (jV kI (fun v W h=>⟨_,_,_,h,rfl⟩))<|oc (zA9 .i64 ((td'.length+1:Nat):Int) 1 (td'.length:Int) iiz iiz (wrap64 _ _ oP oP))<|oc (zOy (g:=g) (n:=td'.length+1) (c:=cp) (k:=td'.length) (z:=1) kI oP iiz iiz)<|zE) fun a w18 s=> ?_
          replace s:=s.drop [9]
          refine qN (UF.eq (.slice (some ⟨g,0,none⟩) td'.length cp)) rfl s kI iiz fun a w s=> ?_
          refine zB rfl ?_
          have hb:=s.below
          replace hFr:=hFr.trans (hb.mono hFr.size)
          replace hG:=hG.below hb
          replace hD:=hD.below hb
          replace hTd:=hTd.below hb
          replace hRt:=hRt.below hb
          replace s:=s.anewB rfl rfl
          replace hTd:y9 w W.heap.size 3 1 (.slice (some ⟨g,0,none⟩) td'.length cp) (ins (jO td')):=by have:=hRt.take td'.length;rw [zO7] at this;exact this.toN hgW (by simp [jO])
          replace hne: ∀q_,(Value.slice (some ⟨g,0,none⟩) td'.length cp).ownBlock=some q_->q_≠gl:=fun q_ hq=>hne q_ hq
          refine zUb ?_
          have hdeg:(zH (rds N js []) at_).length<=122:=by have h1:=zEY (rds N js []) at_;have h2:=zFJ N js [] js.length;unfold rds at h1 ⊢;omega
          have hgl_:=hG.row (n:=N) (zAi _ _).symm
          have hcv:at_<vs.length:=by rw [hG.ln,zAi];exact hat
          have hrl:=hG.at (i:=at_) (by rw [zAi];exact hat)
          rw [zDz _ hat] at hrl
          refine zC 6 ((58, .Z (UF.eq (.slice (some ⟨gg,0,none⟩) N cap)))::(59, .Z (uI (at_:Int)))::(60, .s (wC (wB [(vs.getD at_ (.slice none 0 0))]).cf))::(61, .u (UF.eq (vs.getD at_ (.slice none 0 0))))::(62, .u (uI (((ros (zH (rds N js []) at_)).length:Nat):Int)))::(63, .u (uI 0)):: []) hmix s kI
            (oc zA<|oc zA<|oc (zT (z:=1) (Cs:=sls vs) (i:=at_) (C:=wB [(vs.getD at_ (.slice none 0 0))]) kI (zEm hcv) (fun v W hb h=>(by rw [show v=(Value.slice (some ⟨gg,0,none⟩) N cap) from h];exact (SF.row 1 (sls vs)).st _ _ _ hgl_ (s.up hb))) iiz)<|oc (yR (C:=(wB [(vs.getD at_ (.slice none 0 0))]).cf) kI iiz jF)<|oc (qK (z:=4) (Cs:=ros (zH (rds N js []) at_)) kI (fun v W hb h=>(by rw [show v=(vs.getD at_ (.slice none 0 0)) from h];exact (SF.row 4 (ros (zH (rds N js []) at_))).st _ _ _ hrl (s.up hb))) (fun _=>rfl))<|oc zA<|zE) fun a w19 s=> ?_
          refine zB rfl ?_
          have hb:=s.below
          replace hFr:=hFr.trans (hb.mono hFr.size)
          replace hG:=hG.below hb
          replace hD:=hD.below hb
          replace hTd:=hTd.below hb
          replace s:=s.anewB rfl rfl
          refine zUd ?_
          refine yM (fun (q:Nat×List Int×Wn×List Nat) a w=>q.1<=(zH (rds N js []) at_).length/\II (grE N js []) N y.1 q.2.1 (at_::q.2.2.2)/\(∀k,k<q.1-> ¬q.2.1.getD ((zH (rds N js []) at_).getD k (0,0)).1 0<0)/\zJB q.2.1+q.2.2.2.length=zJB z.1+td'.length/\Below W.heap.size W w/\GM w gg cap vs (glN N (rds N js []))/\jG w gl 3 1 N (ins q.2.1)/\y9 w W.heap.size 3 1 q.2.2.1 (ins (jO q.2.2.2))/\(∀q_,q.2.2.1.ownBlock=some q_->q_≠gl)/\St w [(5, .u (UF.eq (.slice (some ⟨gg,0,none⟩) N cap))),(6, .u (UF.eq (.slice (some ⟨gl,0,none⟩) N N))),(8, .u (uI (y.1:Int))),(9, .u (UF.eq (q.2.2.1))),(29, .u (uI (N:Int))),(30, .u (uI (y.1:Int))),(61, .u (UF.eq (vs.getD at_ (.slice none 0 0)))),(62, .u (uI (((ros (zH (rds N js []) at_)).length:Nat):Int))),(63, .u (uI (q.1:Int)))] [] f14.ntmps [] a w) (fun q=>(zH (rds N js []) at_).length - q.1) (0,z.1, .slice (some ⟨g,0,none⟩) td'.length cp,td') ⟨zUl _,hI.perm (fun x=>by rw [etd];simp [or_comm]),fun k hk=>absurd hk (zUy _),rfl,hFr,hG,hD,hTd,hne,s.keepK _ (fmz ⟨mz7,fmz ⟨mz8,fmz ⟨mz9,fmz ⟨mz3,fmz ⟨zGo,fmz ⟨zF2,fmz ⟨.head _,fmz ⟨mz1,fmz ⟨mz2,fnz⟩⟩⟩⟩⟩⟩⟩⟩⟩)⟩ fun q a w hx=> ?_
          clear hFr hG hD hTd hne
          obtain ⟨hk,hIq,hal,hms,hFr,hG,hD,hTd,hne,s⟩:=hx
          have hne0:=hne
          refine zUb ?_
          refine zC 1 ((64, .u (uB (decide ((q.1:Int)<(((ros (zH (rds N js []) at_)).length:Nat):Int))))):: []) hmix s kI
            (oc (zP .i64 (q.1:Int) (((ros (zH (rds N js []) at_)).length:Nat):Int) (decide ((q.1:Int)<(((ros (zH (rds N js []) at_)).length:Nat):Int))) iiz iiz rfl rfl)<|zE) fun a w20 s=> ?_
          refine zB rfl ?_
          have hb:=s.below
          replace hFr:=hFr.trans (hb.mono hFr.size)
          replace hG:=hG.below hb
          replace hD:=hD.below hb
          replace hTd:=hTd.below hb
          replace s:=s.anewB rfl rfl
          refine zUb ?_
          refine StS.cond s (decide ((q.1:Int)<(((ros (zH (rds N js []) at_)).length:Nat):Int))) iiz (fun e=> ?_) (fun e=> ?_)
          . have hkl:q.1<(zH (rds N js []) at_).length:=by have h7:=zUj e;simp only [zUe] at h7;omega
            have hrm:((zH (rds N js []) at_).getD q.1 (0,0))∈grE N js [] at_:=by show ((zH (rds N js []) at_).getD q.1 (0,0))∈(zH (rds N js []) at_);rw [zUu,zUo hkl];exact zUJ hkl
            have hrn:((zH (rds N js []) at_).getD q.1 (0,0)).1<N:=(hGk _ hat _ hrm).1
            have hrl_:((zH (rds N js []) at_).getD q.1 (0,0)).1<q.2.1.length:=by rw [hIq.ln];exact hrn
            have haty:=(hIq.td at_ (.head _)).2
            have hqb:True:=trivial
            refine zUg ?_
            refine zUb ?_
            refine zUd ?_
            refine zUb ?_
            have hrl:=hG.at (i:=at_) (by rw [zAi];exact hat)
            rw [zDz _ hat] at hrl
            refine zC 2 ((65, .Y (fRo ((zH (rds N js []) at_).getD q.1 (0,0))))::(66, .u (fRo ((zH (rds N js []) at_).getD q.1 (0,0)))):: []) hmix s kI
              (oc (zT (z:=4) (Cs:=ros (zH (rds N js []) at_)) (i:=q.1) (C:=CU.agg (fRo ((zH (rds N js []) at_).getD q.1 (0,0)))) kI (zHF hkl) (fun v W hb h=>(by rw [show v=(vs.getD at_ (.slice none 0 0)) from h];exact (SF.row 4 (ros (zH (rds N js []) at_))).st _ _ _ hrl (s.up hb))) iiz)<|oc (yP (f:=fRo ((zH (rds N js []) at_).getD q.1 (0,0))) 4 kI (hz:=zKt _))<|zE) fun a w21 s=> ?_
            refine qJ (CU.len 4) (cs:= [.int .i64 0, .bool false, .slice none 0 0, .slice none 0 0]) kI rfl s kI (fun W=>rfl) rfl fun b12 a w s=> ?_
            refine yY (CU.agg (fRo ((zH (rds N js []) at_).getD q.1 (0,0)))) ((fRo ((zH (rds N js []) at_).getD q.1 (0,0))).tS) rfl s kI rfl rfl rfl iiz iiz zFI fun a w s=> ?_
            refine zB rfl ?_
            have hn12_:=s.inB_new (q:=b12) ⟨_, .head _,rfl,rfl⟩
            have hn12:b12≠gl:=by have:=hD.lt;omega
            have hnt12: ¬q.2.2.1.ownBlock=some b12:=fun hh=>by have:=(hTd.lt _ hh).2;omega
            have hb:=s.below
            replace hFr:=hFr.trans (hb.mono hFr.size)
            replace hG:=hG.below hb
            replace hD:=hD.below hb
            replace hTd:=hTd.below hb
            replace s:StS _ _ _ [⟨12,67,CU.agg (fRo ((zH (rds N js []) at_).getD q.1 (0,0))),b12,true⟩] _ _ _ _:=s.freeze
            replace s:=s.anewB rfl rfl
            refine zUb ?_
            have hdl:=hD.row (n:=N) (by simp [hIq.ln])
            refine zC 6 ((67, .Z (UF.eq (.slice (some ⟨gl,0,none⟩) N N)))::(68, .X (fRo ((zH (rds N js []) at_).getD q.1 (0,0))) 0)::(69, .Z (uI ((((zH (rds N js []) at_).getD q.1 (0,0)).1:Nat):Int)))::(70, .s (wC (wB [.int .i64 (q.2.1.getD ((zH (rds N js []) at_).getD q.1 (0,0)).1 0)]).cf))::(71, .Z (uI (q.2.1.getD ((zH (rds N js []) at_).getD q.1 (0,0)).1 0)))::(72, .u (uB (decide ((q.2.1.getD ((zH (rds N js []) at_).getD q.1 (0,0)).1 0)<0)))):: []) hmix s kI
              (oc zA<|oc (zW (C:=cg (fRo ((zH (rds N js []) at_).getD q.1 (0,0)))) 0 kI)<|oc (yW (C:=cg (fRo ((zH (rds N js []) at_).getD q.1 (0,0)))) (k:=0) kI (h:=zFH))<|oc (zT (z:=1) (Cs:=ins q.2.1) (i:=((zH (rds N js []) at_).getD q.1 (0,0)).1) (C:=wB [.int .i64 (q.2.1.getD ((zH (rds N js []) at_).getD q.1 (0,0)).1 0)]) kI (zAY hrl_) (fun v W hb h=>(by rw [show v=(Value.slice (some ⟨gl,0,none⟩) N N) from h];exact (SF.row 1 (ins q.2.1)).st _ _ _ hdl (s.up hb))) iiz)<|oc (yR (C:=(wB [.int .i64 (q.2.1.getD ((zH (rds N js []) at_).getD q.1 (0,0)).1 0)]).cf) kI iiz jF)<|oc (zP .i64 (q.2.1.getD ((zH (rds N js []) at_).getD q.1 (0,0)).1 0) 0 (decide ((q.2.1.getD ((zH (rds N js []) at_).getD q.1 (0,0)).1 0)<0)) iiz iiz rfl rfl)<|zE) fun a w22 s=> ?_
            refine zB rfl ?_
            have hb:=s.below
            replace hFr:=hFr.trans (hb.mono hFr.size)
            replace hG:=hG.below hb
            replace hD:=hD.below hb
            replace hTd:=hTd.below hb
            replace s:=s.anewB rfl rfl
            refine StS.cond s (decide ((q.2.1.getD ((zH (rds N js []) at_).getD q.1 (0,0)).1 0)<0)) iiz (fun e=> ?_) (fun e=> ?_)
            . have e72:=zUj e
              have e72:=zUj e
              refine zUb ?_
              refine zC 4 ((73, .u (UF.eq (.slice (some ⟨gl,0,none⟩) N N)))::(74, .X (fRo ((zH (rds N js []) at_).getD q.1 (0,0))) 0)::(75, .u (uI ((((zH (rds N js []) at_).getD q.1 (0,0)).1:Nat):Int)))::(76, .u (uI (y.1:Int))):: []) hmix s kI
                (oc zA<|oc (zW (C:=cg (fRo ((zH (rds N js []) at_).getD q.1 (0,0)))) 0 kI)<|oc (yW (C:=cg (fRo ((zH (rds N js []) at_).getD q.1 (0,0)))) (k:=0) kI (h:=zFH))<|oc zA<|zE) fun a w23 s=> ?_
              refine zCr (UF.eq (.pointer (some ⟨gl,((zH (rds N js []) at_).getD q.1 (0,0)).1*1,none⟩))) rfl s kI (zAm (z:=1) (g:=gl) (nn:=N) (cap:=N) (i:=((zH (rds N js []) at_).getD q.1 (0,0)).1) kI hrn iiz iiz) kI fun a w s=> ?_
              have hb:=s.below
              replace hFr:=hFr.trans (hb.mono hFr.size)
              replace hG:=hG.below hb
              replace hD:=hD.below hb
              replace hTd:=hTd.below hb
              refine zCC (g:=gl) (i:=((zH (rds N js []) at_).getD q.1 (0,0)).1) (cap:=N) (z:=1) (e:=3) (wB [.int .i64 (y.1:Int)]) rfl s rfl rfl hD (by simpa using hrl_) kI (s.fct (.tmp 77)) (zAX (s.fct (.tmp 76)) rfl rfl rfl) (fmz ⟨hn12,fnz⟩) fun w hF1 hk1 hD1 s=> ?_
              replace hFr:=yN hFr hF1 (fun q hq=>by rw [hq];exact hgl)
              replace hG:=hG.keep (fun q hq=>hF1.block q (hG.lt hq) (hG.no hq hD.at.choose_spec dB dB)) hk1
              replace hTd:=hTd.keep (fun q hq=>hF1.block q (hTd.lt q hq).2 (hne q hq)) hk1
              replace hD:=hD1
              rw [zDx] at hD
              refine zB rfl ?_
              have hb:=s.below
              replace hFr:=hFr.trans (hb.mono hFr.size)
              replace hG:=hG.below hb
              replace hD:=hD.below hb
              replace hTd:=hTd.below hb
              replace s:=s.anewB rfl rfl
              refine zBn 4 ((78, .u (UF.eq (q.2.2.1)))::(79, .X (fRo ((zH (rds N js []) at_).getD q.1 (0,0))) 0)::(80, .Z (uI ((((zH (rds N js []) at_).getD q.1 (0,0)).1:Nat):Int)))::(81, .s (wE w 3 1 [wB [.int .i64 ((((zH (rds N js []) at_).getD q.1 (0,0)).1:Nat):Int)]])):: []) s kI
                (oc zA<|oc (zW (C:=cg (fRo ((zH (rds N js []) at_).getD q.1 (0,0)))) 0 kI)<|oc (yW (C:=cg (fRo ((zH (rds N js []) at_).getD q.1 (0,0)))) (k:=0) kI (h:=zFH))<|oc (jU (fun u W hb (hu:u= .int .i64 ((((zH (rds N js []) at_).getD q.1 (0,0)).1:Nat):Int))=>by subst hu;exact ⟨_,_,zQV _,(zKc _ _).toN hb.size rfl⟩))<|zE) fun a w24 s hr=> ?_
              have hb:=s.below
              replace hFr:=hFr.trans (hb.mono hFr.size)
              replace hG:=hG.below hb
              replace hD:=hD.below hb
              replace hTd:=hTd.below hb
              have hty: ∀q_,q.2.2.1.ownBlock=some q_-> ∀q',zE5 gg vs q'->q'≠q_:=fun q_ hh q' hq'=>hG.no hq' (qO hTd hh).2.choose_spec.1 dB dB
              refine zEi (base:=W.heap.size) (z:=1) (e:=3) (v:=q.2.2.1) (Cs:=ins (jO q.2.2.2)) [wB [.int .i64 ((((zH (rds N js []) at_).getD q.1 (0,0)).1:Nat):Int)]] s hTd hFr.size rfl kI kI rfl rfl (s.fct (.tmp 78)) (y9.row (hr (_,_) mz3)) (fun C hC=>by obtain rfl:=zUq.1 hC;exact zLu rfl rfl) (by simp only [zUe,jO,zUr];omega) (fmz ⟨fun h=>hnt12 h,fnz⟩) fun tv' a w hTd1 hF1 hk1 hor s=> ?_
              replace hFr:=yN hFr hF1 (fun q_ hq=>(hTd.lt q_ hq).1)
              replace hG:=hG.keep (fun q_ hq=>hF1.block q_ (hG.lt hq) (fun hh=>hty _ hh _ hq rfl)) hk1
              replace hne: ∀q_,tv'.ownBlock=some q_->q_≠gl:=fun q_ hq=>by
                rcases hor with e|e
                . exact hne q_ (e▸hq)
                . rw [e] at hq;cases hq;have:=hD.lt;omega
              replace hD:=hD.keep (hF1.block gl hD.lt (fun hh=>hne0 _ hh rfl)) hk1
              replace hTd:=hTd1
              rw [zRp] at hTd
              replace s:=s.drop [9]
              refine qN (UF.eq tv') rfl s kI iiz fun a w s=> ?_
              refine zB rfl ?_
              have hb:=s.below
              replace hFr:=hFr.trans (hb.mono hFr.size)
              replace hG:=hG.below hb
              replace hD:=hD.below hb
              replace hTd:=hTd.below hb
              replace s:=s.anewB rfl rfl
              refine yI 1 ((83, .u (uI ((q.1+1:Nat):Int))):: []) s kI
                (oc (qX .i64 (q.1:Int) 1 ((q.1+1:Nat):Int) iiz iiz (wrap64 _ _ oP oP))<|zE) fun a w25 s=> ?_
              replace s:=s.drop [63]
              refine zCr (uI ((q.1+1:Nat):Int)) rfl s kI zA kI fun a w s=> ?_
              refine zB rfl ?_
              have hb:=s.below
              replace hFr:=hFr.trans (hb.mono hFr.size)
              replace hG:=hG.below hb
              replace hD:=hD.below hb
              replace hTd:=hTd.below hb
              replace s:=s.anewB rfl rfl
              replace s:=s.popB
              exact ⟨(q.1 + 1, q.2.1.set ((zH (rds N js []) at_).getD q.1 (0,0)).1 (y.1:Int),tv',q.2.2.2++ [((zH (rds N js []) at_).getD q.1 (0,0)).1]),(by show (zH (rds N js []) at_).length - (q.1+1)<(zH (rds N js []) at_).length - q.1;omega),hkl,(II.more hIq hGk hat haty hrm e72).perm (fun x=>by simp [or_comm,or_left_comm]),(fun k hk'=>by
                show ¬(q.2.1.set ((zH (rds N js []) at_).getD q.1 (0,0)).1 (y.1:Int)).getD _ 0<0
                rw [zAO _ _ _ hrl_]
                split
                . omega
                . rcases zUx k q.1 with h|h
                  . exact hal k h
                  . rename_i hh; exact absurd (by have:k=q.1:=by omega
                                                  rw [this]) hh),(by
                show zJB (q.2.1.set ((zH (rds N js []) at_).getD q.1 (0,0)).1 (y.1:Int))+(q.2.2.2++ [((zH (rds N js []) at_).getD q.1 (0,0)).1]).length=_
                have h1:=zIR (z:=(y.1:Int)) hrl_ e72 oP
                rw [zUv,zUr];omega),hFr,hG,hD,hTd,hne,s.keepK _ (fmz ⟨zG1,fmz ⟨zK4,fmz ⟨zQB,fmz ⟨mz2,fmz ⟨zGn,fmz ⟨.tail _ zGn,fmz ⟨.tail _ (.tail _ zGn),fmz ⟨.tail _ (.tail _ (.tail _ zGn)),fmz ⟨.head _,fnz⟩⟩⟩⟩⟩⟩⟩⟩⟩)⟩
            . have e72:=zUi e
              refine zUg ?_
              refine yI 1 ((83, .u (uI ((q.1+1:Nat):Int))):: []) s kI
                (oc (qX .i64 (q.1:Int) 1 ((q.1+1:Nat):Int) iiz iiz (wrap64 _ _ oP oP))<|zE) fun a w26 s=> ?_
              replace s:=s.drop [63]
              refine zCr (uI ((q.1+1:Nat):Int)) rfl s kI zA kI fun a w s=> ?_
              refine zB rfl ?_
              have hb:=s.below
              replace hFr:=hFr.trans (hb.mono hFr.size)
              replace hG:=hG.below hb
              replace hD:=hD.below hb
              replace hTd:=hTd.below hb
              replace s:=s.anewB rfl rfl
              replace s:=s.popB
              exact ⟨(q.1+1,q.2.1,q.2.2.1,q.2.2.2),(by show (zH (rds N js []) at_).length - (q.1+1)<(zH (rds N js []) at_).length - q.1;omega),hkl,hIq,(fun k hk'=>by
                rcases zUx k q.1 with h|h
                . exact hal k h
                . have e9:k=q.1:=by omega
                  rw [e9];exact e72),hms,hFr,hG,hD,hTd,hne,s.keepK _ (fmz ⟨mz5,fmz ⟨mz6,fmz ⟨mz7,fmz ⟨mz8,fmz ⟨mz9,fmz ⟨zGo,fmz ⟨zF2,fmz ⟨zG1,fmz ⟨.head _,fnz⟩⟩⟩⟩⟩⟩⟩⟩⟩)⟩
          . have e64:=e
            refine zUm ?_
            have hqd:q.1=(zH (rds N js []) at_).length:=by have h7:=zUi e64;simp only [zUe] at h7;omega
            have hI':=vP hIq (fun r hr=>by
              obtain ⟨k,h1,h2⟩:=List.getElem_of_mem (show r∈(zH (rds N js []) at_) from hr)
              have h3:=hal k oP
              have h4:(zH (rds N js []) at_).getD k (0,0)=r:=by (rw [zUu,zUo h1];exact h2)
              rw [h4] at h3;exact h3)
            exact ⟨(q.2.1,q.2.2.1,q.2.2.2),(by show zJB q.2.1+q.2.2.2.length<zJB z.1+z.2.2.length;rw [hms,etd,zUv,zUr];omega),hI',(by show zJB q.2.1+q.2.2.2.length<=N;rw [etd,zUv,zUr] at hcp;omega),hFr,hG,hD,hTd,hne,s.keepK _ (fmz ⟨mz1,fmz ⟨mz2,fmz ⟨mz3,fmz ⟨mz4,fmz ⟨mz5,fmz ⟨mz6,fnz⟩⟩⟩⟩⟩⟩)⟩
        . have td0:z.2.2= []:=by have h7:=zUi e;simp only [zUe,jO] at h7;exact zU2 oP
          refine zUm ?_
          refine yI 1 ((84, .u (uI ((y.1+1:Nat):Int))):: []) s kI
            (oc (qX .i64 (y.1:Int) 1 ((y.1+1:Nat):Int) iiz iiz (wrap64 _ _ oP oP))<|zE) fun a w27 s=> ?_
          replace s:=s.drop [30]
          refine zCr (uI ((y.1+1:Nat):Int)) rfl s kI zA kI fun a w s=> ?_
          refine zB rfl ?_
          have hb:=s.below
          replace hFr:=hFr.trans (hb.mono hFr.size)
          replace hG:=hG.below hb
          replace hD:=hD.below hb
          replace hTd:=hTd.below hb
          replace s:=s.anewB rfl rfl
          exact ⟨(y.1+1,z.1),(by show N - (y.1+1)<N - y.1;omega),hkl,(II.done (td0▸hI) hGk hS hkl),hFr,hG,hD,s.keepK _ (fmz ⟨mz3,fmz ⟨mz4,fmz ⟨mz7,fmz ⟨.head _,fnz⟩⟩⟩⟩)⟩
    . have hkl:y.1=N:=by have:=zUi e;omega
      refine zUm ?_
      refine zUb ?_
      refine zC 2 ((85, .Z (UF.eq (.slice (some ⟨gl,0,none⟩) N N)))::(4, .u (UF.eq (.slice (some ⟨gl,0,none⟩) N N))):: []) hmix s kI
        (oc zA<|oc zG<|zE) fun a w28 s=> ?_
      refine zB rfl ?_
      have hb:=s.below
      replace hFr:=hFr.trans (hb.mono hFr.size)
      replace hG:=hG.below hb
      replace hD:=hD.below hb
      replace s:=s.anewB rfl rfl
      refine zUh ?_
      rw [hkl] at hO
      exact StS.resN s hFr rfl ⟨y.2,hO.labd,by rw [show a.tmps.getD _ undef=_ from s.fct (.tmp 4)];exact hD.toN hgl (by simp [hO.ln])⟩
end Go.Proofs.Wd
