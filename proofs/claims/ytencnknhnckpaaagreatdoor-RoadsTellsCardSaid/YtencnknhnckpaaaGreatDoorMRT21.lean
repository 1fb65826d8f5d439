/- Walks of package roads: has, settled; Walks of package roads: costs; W and what it needs. -/
import Derived.Test.YtencnknhnckpaaaGreatDoorMRT20
abbrev rN:=@Bool.and_eq_false_iff
abbrev rO:=@Rat.intCast_natCast
abbrev rP:=@List.replicate_succ'
abbrev rQ:=@Bool.not_eq_false'
abbrev rR:=@Bool.and_eq_true_iff
abbrev rS:=@Bool.eq_false_or_eq_true
abbrev rT:=@Rat.intCast_mul
abbrev rU:=@List.length_reverse
namespace Go.Proofs.Wd
open Tryz
variable {U V W W' w w' w0:WB}{N b base cap g gg i j k m n n' o z z':Nat}{x y:WK}{VA lf lj u v:WD}{l:Array Bool}{q s:Rat}{Kk:Act->WB->Prop}{e e' t te ty:WE}{Cs Ds:List CU}{cs vs:List WD}{P:WG}{a:Act}{d:WF Tmp}{pos:String}{aft:Array Edge}{ops:Array Oper}{gd:WF (Nat×Bool)}{f:FuncId}{F:Fence}{K:List (Nat×KF)}{G:Nat->SF}{rs:List (Nat×Nat×Rat)}{ats:Array WE}{js:List (Int×Int)}{fs:List Rat}{c way:List Int}{E E':Adj}{C:CU}{L:List QX}
set_option maxRecDepth 100000
set_option maxHeartbeats 1000000
open Go.RowKit Lb
theorem zKp{x:Int}(J:u=(.slice (some ⟨gg,0,none⟩) N cap))(I:v=.int .i64 x):Calls prog 31 #[u,v] W (Ret W (fB (yU N x)).tS):=by
 refine y2 [(UF.eq (.slice (some ⟨gg,0,none⟩) N cap)).tS,(uI x).tS] func31 rfl kA ⟨J,I,trivial⟩ fun a s=>rgQ ((4,.u (uB false))::[]) s
  (oc zE<|zC) fun a w1 s=>fK ?_
 replace s:=s.drop [4]
 exact rgE ((5,.Z (uI x))::(6,.Z (uB (decide (x≥0))))::(7,.Z (uB (decide (x≥0))))::(8,.s (SF.imp ((decide (x≥0))=true) ((uI x).tS)))::(9,.s (SF.imp ((decide (x≥0))=true) ((UF.eq (.slice (some ⟨gg,0,none⟩) N cap)).tS)))::(10,.s (SF.imp ((decide (x≥0))=true) ((uI (N:Int)).tS)))::(11,.s (SF.imp ((decide (x≥0))=true) ((uB (decide (x<(N:Int)))).tS)))::(12,.Z (uB ((decide (x≥0))&&(decide (x<(N:Int))))))::(4,.u (uB ((decide (x≥0))&&(decide (x<(N:Int))))))::[]) s
  (oc zA<|oc (zJ .i64 x 0 (decide (x≥0)) iiz iiz rfl rfl)<|oc zA<|oc (zB 7 (decide (x≥0)) kA iiz (fun e=>zI [] ((uI x).tS) fnz (fun _ _ h _=>h) kA zA) (fun e W h=>absurd h e))<|oc (zB 7 (decide (x≥0)) kA iiz (fun e=>zI [] ((UF.eq (.slice (some ⟨gg,0,none⟩) N cap)).tS) fnz (fun _ _ h _=>h) kA zA) (fun e W h=>absurd h e))<|oc (zB 7 (decide (x≥0)) kA iiz (fun e=>zI [(9,(UF.eq (.slice (some ⟨gg,0,none⟩) N cap)).tS)] ((uI (N:Int)).tS) (sH (fun v W h=>zG (c:=(decide (x≥0))=true) (f:=(UF.eq (.slice (some ⟨gg,0,none⟩) N cap)).tS) e h) fnz) (fun _ _ h _=>h) kA (zAd kA (fun v W h=>⟨_,_,_,h,rfl⟩))) (fun e W h=>absurd h e))<|oc (zB 7 (decide (x≥0)) kA iiz (fun e=>zI [(8,(uI x).tS),(10,(uI (N:Int)).tS)] ((uB (decide (x<(N:Int)))).tS) (sH (fun v W h=>zG (c:=(decide (x≥0))=true) (f:=(uI x).tS) e h)<|sH (fun v W h=>zG (c:=(decide (x≥0))=true) (f:=(uI (N:Int)).tS) e h) fnz) (fun _ _ h _=>h) kA (zJ .i64 x (N:Int) (decide (x<(N:Int))) iiz iiz rfl rfl)) (fun e W h=>absurd h e))<|oc (zT (decide (x≥0)) iiz (fun e v W h=>zBH (zG e h) e) (fun e v W h=>zBc h e))<|oc zE<|zC) fun a w2 s=>nR<|wG s (t:=4) rfl (fun v W h=>h)
def zSF(W:WB)(gv iv:WD):SF:=⟨fun v w=>∃b1 b2:Nat,v=.func (.func 65) #[] #[pO b1 0,pO b2 0]/\W.heap.size<=b1/\W.heap.size<=b2/\w.heap[b1]?=some (.cells #[gv] 61 (0,0))/\w.heap[b2]?=some (.cells #[iv] 3 (0,0)),fun _ _ _ ⟨b1,b2,h1,h2,h3,h4,h5⟩ hb=>⟨b1,b2,h1,h2,h3,(hb.block b1 (xP.1 h4).1).trans h4,(hb.block b2 (xP.1 h5).1).trans h5⟩⟩
theorem zOh{I iv:WD}(h:W.heap.size<=W'.heap.size)(v:WD)(w:WB)(O:(zSF W' I iv).p v w):(zSF W I iv).p v w:=by
 obtain⟨b1,b2,h1,J,h3,h4⟩:=O
 exact⟨b1,b2,h1,xQ h J,xQ h h3,h4⟩
theorem zK1{x:Int}(hu:u=.slice (some ⟨gg,0,none⟩) N cap)(hv:v=.int .i64 x):Calls prog 50 #[u,v] W (Ret W (zSF W (.slice (some ⟨gg,0,none⟩) N cap) (.int .i64 x))):=by
 refine y2 [(UF.eq (.slice (some ⟨gg,0,none⟩) N cap)).tS,(uI x).tS] func50 rfl kA ⟨hu,hv,trivial⟩ fun a s=>fK<|rgK 0 [] s
  zC fun a w1 s=>zAZ (wC [.slice (some ⟨gg,0,none⟩) N cap]) rfl s kA (fun v W h=>by rw[show v=_ from h];exact⟨rfl,rfl⟩) fun b1 a w s=>zAZ (wC [.int .i64 x]) rfl s kA (fun v W h=>by rw[show v=_ from h];exact⟨rfl,rfl⟩) fun b2 a w s=>yN (UF.eq (.nilFunc)) rfl s kA iiz fun a w s=>zF rfl<|fK ?_
 replace s:=s.drop [4]
 refine rgE ((5,.Z (UF.eq (.func (.func 65) #[] #[pO b1 0,pO b2 0])))::(4,.u (UF.eq (.func (.func 65) #[] #[pO b1 0,pO b2 0])))::[]) s
  (oc (zNV (fun u v W hb (h:(wJ b1 (wC [Value.slice (some ⟨gg,0,none⟩) N cap]).cf).p u W) (h':(wJ b2 (wC [Value.int .i64 x]).cf).p v W)=>by rw[h.1,h'.1];rfl))<|oc zE<|zC) fun a w2 s=>nR ?_
 obtain⟨I,O,e2,_⟩:=s.boxAt (c:=2) rfl
 obtain rfl:I=[_]:=e2
 obtain⟨J,g1,g2,_⟩:=s.boxAt (c:=3) rfl
 obtain rfl:J=[_]:=g2
 exact StS.resN s (xF _ _) rfl ⟨b1,b2,s.val (.head _),s.inB_new (q:=b1) ⟨_,mz1,rfl,rfl⟩,s.inB_new (q:=b2) ⟨_,.head _,rfl,rfl⟩,O,g1⟩
abbrev qns(l:List Rat):List CU:=l.map fun q=>CU.agg (fQN q)
theorem zBO{l:List Rat}(h:i<l.length):(qns l)[i]?=some (CU.agg (fQN (l.getD i 0))):=by simp[qns,h]
theorem zLu(l:List Rat)(i:Nat)(q:Rat):(qns l).set i (CU.agg (fQN q))=qns (l.set i q):=by unfold qns;rw[nC]
theorem zBS(h:(fQN q).p v W):v.cells.size=3/\(∀u,u∈v.cells.toList->u.oneCell'=true)/\v.cells.toList.all z9=true/\(CU.agg (fQN q)).p v.cells.toList W:=by
 obtain⟨A,n,c,A',n',c',rfl⟩:=zBw h
 exact⟨rfl,zC8,rfl,h⟩
theorem zRN(q:Rat):CU.ok 3 (CU.agg (fQN q)):=fun cs W h=>by
 obtain⟨A,n,c,A',n',c',e⟩:=zBw (q:=q) (v:=.agg cs.toArray) (W:=W) h
 rw[zAM e]
 exact⟨rfl,rfl,zC8⟩
theorem zUn(s:Bool)(A A':WF Addr)(n n' c c':Nat):zV prog 23 1 [(0,.agg #[.bool s,.slice A n c,.slice A' n' c'])]=some (32,#[.bool s,.slice A n c,.slice A' n' c']):=rZ
theorem zRr(I:QNp q u W):∃cs,zV prog 23 1 [(0,u)]=some (32,cs)/\q9 (W.alloc (.cells cs 32)) W.heap.size 32 3 1 [CU.agg (fQN q)]:=by
 obtain⟨A,n,c,A',n',c',rfl⟩:=zBw I
 refine⟨_,zUn _ _ _ _ _ _ _,_,bT W _,vR _,rY,rfl,rfl,fun i C h=>?_⟩
 cases i with
 |zero=>
  obtain rfl:CU.agg (fQN q)=C:=by simpa using h
  exact(fQN q).us _ _ _ I (zN (j5 W _))
 |succ i=>simp at h
theorem zPR(z:Int):zV prog 24 1 [(0,.int .i64 z)]=some (3,#[.int .i64 z]):=rZ
theorem zIb(z:Int)(W:WB):q9 (W.alloc (.cells #[.int .i64 z] 3)) W.heap.size 3 1 1 [wC [.int .i64 z]]:=
 zB1 (bT W _) rfl
section
variable {S:Nat->Prop}{F:Fence}{m:Nat}{P:WG}{ops:Array Oper}{Q:Exit->Act->WB->Prop}{w0:WB}{K:List (Nat×KF)}{B:List Bx}{n:Nat}{ds:List Deferred}{a:Act}{w:WB}
theorem opn{o:Oper}(J:ops[i]?=some o)(I:o.guard=none)(h:o.wpIn F m P a w Kk Q):wpOpIn F m P ops Q i Kk a w:=by
 unfold wpOpIn
 rw[J]
 show(if Region.wanted o (yielded ops a.tmps)=true then _ else _)
 rw[if_pos (zHY I)]
 exact h
theorem wV(O:a.tmps.size=n)(hd:a.defers=[])(I:∀q,q∈K->∃f,q.2=KF.u f/\f.p (a.tmps.getD q.1 undef) w):St w K [] n [] a w:=
 ⟨BlS.refl _ _,O,hd,fun q J=>by obtain⟨f,e,h⟩:=I q J;rw[e];exact h,trivial,⟨[],Marks.nil _ _⟩,.inr fun _ h=>h⟩
theorem StS.home(h:St w K B n [] a w)(hu:(K.all fun q=>zKz q.2)=true)(J:(B.all fun x=>x.r)=true)(I:Below w0.heap.size w0 w):St w0 K B n [] a w:=
 ⟨⟨I.os,I.tape,I.output,I.size,fun k hk _=>I.block k hk⟩,h.size,h.nd,fun q O=>by
  obtain⟨f,e⟩:=zBX hu q O
  have h1:=h.sl q O
  rw[e]at h1 ⊢
  exact h1,wW B (fun x hx=>by simpa using xR.1 J x hx) h.bx,⟨[],Marks.nil _ _⟩,.inr fun _ h=>h⟩
theorem yD{T:Nat->Prop}(h:Below w0.heap.size w0 w)(k:BlS T w w')(O:∀q,T q->w0.heap.size<=q):Below w0.heap.size w0 w':=⟨k.os.trans h.os,k.tape.trans h.tape,k.output.trans h.output,xQ h.size k.size,fun q I=>(k.block q (vW I h.size) fun J=>by have:=O q J;omega).trans (h.block q I)⟩
theorem yF{o:Oper}(I:∀e∈o.after,Region.binds .any e=true->l.getD e.on false=true)(h:(o.after.any fun e=>Region.binds .any e&&e.on==j)=true):l.getD j false=true:=by
 obtain⟨x,O,J⟩:=eK.1 h
 simp only[xU,bH]at J
 rw[<-J.2]
 exact I _ (cU O) J.1
theorem zK2(I:i<l.size)(h:(l.setIfInBounds i true).getD j false=false):i≠j/\l.getD j false=false:=by
 by_cases e:i=j
 .subst e
  rw[xS,cQ I]at h
  cases h
 .rw[bF false e]at h
  exact⟨e,h⟩
theorem zIW(h:i<l.size):(l.setIfInBounds i true).getD i false=true:=by
 rw[xS,cQ h]
 rfl
end
structure TwoA(w:World)(base:Nat)(vc vs:Value)(Cs Ss:List CU)(l:Array Bool)(U:World):Prop where
 fr:BlS (fun q=>vc.ownBlock=some q∨vs.ownBlock=some q) w U
 kp:y4 w U
 c3:l.getD 3 false=false->y9 U base 32 3 vc Cs
 c6:l.getD 6 false=false->y9 U base 3 1 vs Ss
def zSt(vc vs:WD)(i q:Nat):Prop:=(i=3/\vc.ownBlock=some q)∨(i=6/\vs.ownBlock=some q)
def zSG(w:WB)(base:Nat)(vc vs:WD)(Cs Ss:List CU):Nat->WD->WB->Prop
 |0,v,_=>v=vc
 |1,v,U=>QNp 0 v U
 |2,v,U=>∃g,v=.slice (some ⟨g,0,none⟩) 1 1/\w.heap.size<=g/\q9 U g 32 3 1 [CU.agg (fQN 0)]
 |3,v,U=>y9 U base 32 3 v (Cs++ [CU.agg (fQN 0)])/\(v.ownBlock=vc.ownBlock∨ ∃q,v.ownBlock=some q/\w.heap.size<=q)
 |4,v,_=>v=vs
 |5,v,U=>∃g,v=.slice (some ⟨g,0,none⟩) 1 1/\w.heap.size<=g/\q9 U g 3 1 1 [wC [.int .i64 (-1)]]
 |6,v,U=>y9 U base 3 1 v (Ss++ [wC [.int .i64 (-1)]])/\(v.ownBlock=vs.ownBlock∨ ∃q,v.ownBlock=some q/\w.heap.size<=q)
 |_,_,_=>True
theorem zJk{I:Nat}{v':WD}{h0:List CU}(h:y9 w base e z v Cs)(h':y9 w I e' z' v' h0)(O:e≠e'){q:Nat}(hq:v.ownBlock=some q)(J:v'.ownBlock=some q):False:=by
 obtain⟨_,c,h1,_⟩:=qP h hq
 obtain⟨_,c',h2,_⟩:=qP h' J
 exact zX h1 h2 O rfl
theorem zSG.keep{w:WB}{base:Nat}{vc vs:WD}{Cs Ss:List CU}(hc:y9 w base 32 3 vc Cs)(hs:y9 w base 3 1 vs Ss){i j:Nat}{v:WD}{U V:WB}(hj:j<7)(h3:i≠j)(h:zSG w base vc vs Cs Ss j v U)(hb:BlS (zSt vc vs i) U V)(hk:y4 U V):zSG w base vc vs Cs Ss j v V:=by
 have J:∀g,w.heap.size<=g-> ¬zSt vc vs i g:=fun g hg I=>by
  rcases I with⟨_,I⟩|⟨_,I⟩
  .have:=(hc.lt g I).2;omega
  .have:=(hs.lt g I).2;omega
 match j,hj,h with
 |0,_,h=>exact h
 |1,_,h=>exact(fQN 0).us _ _ _ h hk
 |2,_,⟨g,e,hg,hR⟩=>exact⟨g,e,hg,hR.keep (hb.block g hR.lt (J g hg)) hk⟩
 | 3,_,⟨hR,O⟩=>
  refine⟨hR.keep (fun q hq=>hb.block q (hR.lt q hq).2 fun I=>?_) hk,O⟩
  rcases O with O|⟨q',e',h1⟩
  .rcases I with⟨e,_⟩|⟨_,I⟩
   .exact h3 e
   .exact zJk hc hs dA (O.symm.trans hq) I
  .obtain rfl:q'=q:=by rw[e']at hq;exact mE hq
   exact J _ h1 I
 |4,_,h=>exact h
 |5,_,⟨g,e,hg,hR⟩=>exact⟨g,e,hg,hR.keep (hb.block g hR.lt (J g hg)) hk⟩
 | 6,_,⟨hR,O⟩=>
  refine⟨hR.keep (fun q hq=>hb.block q (hR.lt q hq).2 fun I=>?_) hk,O⟩
  rcases O with O|⟨q',e',h1⟩
  .rcases I with⟨_,I⟩|⟨e,_⟩
   .exact zJk hc hs dA I (O.symm.trans hq)
   .exact h3 e
  .obtain rfl:q'=q:=by rw[e']at hq;exact mE hq
   exact J _ h1 I
theorem TwoA.next{vc vs:WD}{Ss:List CU}(hc:y9 w base 32 3 vc Cs)(hs:y9 w base 3 1 vs Ss){i:Nat}{l:Array Bool}{U V:WB}(hi:i<l.size)(h:TwoA w base vc vs Cs Ss l U)(hb:BlS (zSt vc vs i) U V)(hk:y4 U V):TwoA w base vc vs Cs Ss (l.setIfInBounds i true) V:=by
 refine⟨h.fr.comp (hb.sub fun q J=>J.imp (·.2) (·.2)),h.kp.trans hk,fun e=>?_,fun e=>?_⟩
 .obtain⟨e1,e2⟩:=zK2 hi e
  have O:=h.c3 e2
  refine O.keep (fun q J=>hb.block q (O.lt q J).2 fun I=>?_) hk
  rcases I with⟨e,_⟩|⟨_,I⟩
  .exact e1 e
  .exact zJk hc hs dA J I
 .obtain⟨e1,e2⟩:=zK2 hi e
  have O:=h.c6 e2
  refine O.keep (fun q J=>hb.block q (O.lt q J).2 fun I=>?_) hk
  rcases I with⟨_,I⟩|⟨e,_⟩
  .exact zJk hc hs dA I J
  .exact e1 e
theorem zEg{d:Tmp}(happ:zID P t=some (e,z,true))(hr:y9 U base e z v Cs)(hx:a.eval x=v)(hy:(SF.row z Ds).p (a.eval y) U)(hD:∀C,C∈Ds->CU.ok z C)(hsz:Cs.length+Ds.length<=140000000000)(hbase:base<=U.heap.size){F:Fence}{m:Nat}{Kk:Act->WB->Prop}{Q:Exit->Act->WB->Prop}
  (hK:∀v' V,y9 V base e z v' (Cs++Ds)->BlS (fun q=>v.ownBlock=some q) U V->y4 U V->(v'.ownBlock=v.ownBlock∨v'.ownBlock=some U.heap.size)->Kk (a.put (some d) v') V):(⟨some d,.call ⟨.builtin .append,#[x,y],#[t,t]⟩,ty,pos,aft,none⟩:Oper).wpIn F m P a U Kk Q:=by
 obtain⟨v',w',hrun,g1,g2,g3⟩:=zK8 (P:=P) (ty:=ty) happ hr hy hD hsz hbase
 have hrun2:(execOp a.eval ⟨some d,.call ⟨.builtin .append,#[x,y],#[t,t]⟩,ty,pos,aft,none⟩).run P U=.ok (.value v') w':=by
  simp only[execOp,resolve,invoke,builtin,bW,cJ,cN,cE,cF,cO,hx,hrun]
 refine⟨fun f hf=>(by
  unfold Oper.about at hf
  simp[resolve,go_sem]at hf),?_⟩
 rw[bG _ _ _ (fun _ e=>by cases e),hrun2]
 exact hK v' w' g1 ⟨g2.os,g2.tape,g2.output,g2.size,fun q hq hn=>g2.block q hq fun e=>hn e.symm⟩ (hr.keepU g2) g3
theorem yY{t:Nat}(h:((List.range k).all fun i=> !(zY ops i==some t))=true):∀j,j<k->zY ops j≠some t:=fun j hj e=>by
 have:=xR.1 h j (xV.2 hj)
 rw[e]at this
 simp at this
theorem zI2{cs:Array WD}(h:zV P t 1 [(0,a.eval x)]=some (e,cs)):(execOp a.eval ⟨d,.buildSlice t 1 #[(0,x)],ty,pos,aft,gd⟩).run P U=.ok (.value (.slice (some ⟨U.heap.size,0,none⟩) 1 1)) (U.alloc (.cells cs e)):=by
 have I:=zDQ (parts:=#[(0,a.eval x)]) h U
 simp only[execOp,cE,cF,cO,bW,cJ]
 rw[I]
 rfl
theorem zBb(J:zB9 P t=true)(O:a.eval x= pO b o)(hb:U.heap[b]?=some (.cells cs.toArray te (0,0)))(I:cs[o]?=some v):(execOp a.eval ⟨d,.load t x,ty,pos,aft,gd⟩).run P U=.ok (.value v) U:=by
 have h:=(zAe hb).drop o
 rw[uK]at h
 simp[execOp,Instr.loadAt,O,Instr.sureAddr,jA J h (u:=v) (by rw[uW];simpa using I)]
theorem zF5(J:zAj P t=some k)(O:a.eval x= pO b o)(I:U.heap[b]?=some (.cells cs.toArray te (0,0)))(hk:o+k<=cs.length):(execOp a.eval ⟨d,.load t x,ty,pos,aft,gd⟩).run P U=.ok (.value (.agg ((cs.drop o).take k).toArray)) U:=by
 have h:=(zAe I).drop o
 rw[uK]at h
 simp only[execOp,Instr.loadAt,O,Instr.sureAddr,bW,cJ,cN,zBv J h (show k<=(cs.drop o).length by rw[uS];omega)]
theorem zBM{s:WE}{f:Nat}(k:Nat)(h:zBJ P s f=some k)(O:a.eval x= pO b o):(execOp a.eval ⟨d,.fieldAddr s x f,ty,pos,aft,gd⟩).run P U=.ok (.value (.pointer (some ⟨b,o+k,none⟩))) U:=by
 unfold zBJ at h
 split at h<;>try cases h
 rename_i fs hu
 split at h<;>try cases h
 rename_i f' hf
 split at h<;>try cases h
 rename_i i I
 split at h<;>try cases h
 rename_i J
 simp[execOp,Instr.fieldAt,bI hu,hf,O,Instr.sureAddr,fieldPlace,sizeOf,typeInfo,I,J,xH]
theorem zEK{nn:Nat}(hz:zA8 P t=some z)(hi:i<nn)(hx:a.eval x=.slice (some ⟨g,0,none⟩) nn cap)(O:a.eval y=.int .i64 (i:Int)):(execOp a.eval ⟨d,.indexAddr t x y,ty,pos,aft,gd⟩).run P U=.ok (.value (.pointer (some ⟨g,i*z,none⟩))) U:=by
 unfold zA8 at hz
 split at hz<;>try cases hz
 rename_i e' J
 cases hin:P.info? e' with
 |none=>rw[hin]at hz;cases hz
 |some ie=>
  rw[hin]at hz
  simp only[fO,fP]at hz
  have h:P.elem t=e':=by simp[Program.elem,J]
  have I:(0:Int)<=(i:Int)/\(i:Int)<(nn:Nat):=oA
  simp only[execOp,hx,O]
  rw[bW,pZ _ _ _ _ _ _ _ (by rw[h];exact J),if_pos I,h]
  simp[sizeOf,typeInfo,hin,hz,xH]
section
variable {S:Nat->Prop}{F:Fence}{m:Nat}{P:WG}{ops:Array Oper}{Q:Exit->Act->WB->Prop}{w0:WB}{K:List (Nat×KF)}{B:List Bx}{n:Nat}{ds:List Deferred}{a:Act}{w:WB}
theorem yE{d:Tmp}{op:Op}(O:ops[i]?=some ⟨some d,op,ty,pos,aft,none⟩)(hd:∀c,op≠ .defer c)(J:∀c,op≠ .call c)(h:(execOp a.eval ⟨some d,op,ty,pos,aft,none⟩).run P w=.ok (.value v) w')(I:Kk (a.put (some d) v) w'):wpOpIn F m P ops Q i Kk a w:=opn O rfl (zBI hd J h I)
theorem zGk(C:CU)(ho:ops[i]?=some ⟨none,.store t x y,ty,pos,aft,none⟩)(hr:q9 w g e z cap Cs)(hj:j<Cs.length)(J:zFS P t=some z)(hx:a.eval x=.pointer (some ⟨g,j*z,none⟩))(hy:(a.eval y).cells.size=z/\(∀u,u∈(a.eval y).cells.toList->u.oneCell'=true)/\(a.eval y).cells.toList.all z9=true/\C.p (a.eval y).cells.toList w)
  (hK:∀w',BlS (fun q=>q=g) w w'->y4 w w'->q9 w' g e z cap (Cs.set j C)->Kk (a.put none undef) w'):wpOpIn F m P ops Q i Kk a w:=by
 obtain⟨w',I,g1,O,g3⟩:=hr.put (P:=P) hj J hy
 have h:(execOp a.eval ⟨none,.store t x y,ty,pos,aft,none⟩).run P w=.ok .skip w':=by simp[execOp,Instr.storeAt,Instr.sureAddr,hx,I]
 refine opn ho rfl ⟨fun f hf=>(by cases hf),?_⟩
 rw[bG _ _ _ (fun _ e=>by cases e),h]
 exact hK w' g1 O g3
theorem StS.act{I:Act}(h:StS S w0 K [] n ds a w)(hs:I.tmps.size=n)(hd:I.defers=ds)(O:∀q,q∈K->I.tmps.getD q.1 undef=a.tmps.getD q.1 undef):StS S w0 K [] n ds I w:=
 ⟨h.gr,hs,hd,fun q J=>by rw[O q J];exact h.sl q J,trivial,h.mks,h.so⟩
end
theorem zS6{Q:Exit->Act->WB->Prop}{x:Code}{R:Act->WB->Prop}(M:Act->WB->Prop)(h1:x.wpIn F m P (Exit.then M Q) a w)(h2:∀a w,M a w->R a w):x.wpIn F m P (Exit.then R Q) a w:=
 cX (fun e a w h=>by cases e<;>first|exact h2 a w h|exact h) h1
theorem StS.resM2{ds:List Deferred}(h:St w0 K [] n ds a w){fn:Func}{f:SF}{t s b b':Nat}{e e' te O:WE}{v v':WD}(hr:fn.results=#[.cell t e,.cell s e'])(hz:zB9 P e=true)(I:zB9 P e'=true)(ht:a.tmps.getD t undef= pO b 0)(hs:a.tmps.getD s undef= pO b' 0)(hb:w.heap[b]?=some (.cells #[v] te (0,0)))(J:w.heap[b']?=some (.cells #[v'] O (0,0)))
  (hv:∀w',Oth w0.heap.size w w'->f.p (.tuple #[v,v']) w'):bodyPostM Fence.wide 0 P fn (Ret w0 f) .ret a w:=by
 rw[xS]at ht hs
 refine h.resM (v:=.tuple #[v,v']) (fun w' ho=>?_) hv
 have h1:=jA hz (zAe (cs:=[v]) (zEV ho hb)) (u:=v) rfl
 have h2:=jA I (zAe (cs:=[v']) (zEV ho J)) (u:=v') rfl
 simp[results,hr,asAddr,ht,hs,h1,h2]
theorem zI5(h:y9 w base e z v Cs)(J:Oth N w w'):y9 w' base e z v Cs:=
 h.keep (fun q O=>by obtain⟨_,c,I,_⟩:=qP h O;rw[I];exact zEV J I) (zL6 J)
theorem zPu{l:List Wt}(h:k<l.length):l.getD k wz∈l:=by
 rw[nX,mD h]
 exact uO h
theorem zHG{β:Type}(f:β->Wt->β)(h:List Wt)(r:β){k:Nat}(I:k<h.length):(h.take (k+1)).foldl f r=f ((h.take k).foldl f r) (h.getD k wz):=by
 have e:h.getD k wz=h[k]:=by simp[I]
 rw[fT I,pI,e]
 rfl
theorem zIw(h:jZ ops n=true)(hj:zY ops j=some g):g<n:=by
 obtain⟨o,I,J⟩:=qE hj
 exact qG h I J
theorem zBG(h:y9 w base e z v Cs):v.cells=#[v]/\v.oneCell'=true/\z9 v=true:=by
 rcases h with⟨rfl,_⟩|⟨g,cap,cur,rfl,_⟩
 .exact⟨rfl,rfl,rfl⟩
 .exact⟨rfl,rfl,rfl⟩
def csR(E:Adj)(N:Nat)(x:Int):List Rat:=if yU N x then zFi (stl E N x.toNat) (List.replicate N 0)else List.replicate N 0
def ssR(E:Adj)(N:Nat)(x:Int):List Int:=if yU N x then zEG (stl E N x.toNat) (List.replicate N (-1))else List.replicate N (-1)
theorem zQn(k:Nat):qns (List.replicate k 0)++ [CU.agg (fQN 0)]=qns (List.replicate (k+1) 0):=by
 unfold qns
 rw[rP,pB]
 rfl
theorem zQM(k:Nat):ins (List.replicate k (-1))++ [wC [.int .i64 (-1)]]=ins (List.replicate (k+1) (-1)):=by
 unfold ins
 rw[rP,pB]
 rfl
theorem zQ3{G:List (List (Nat×Rat))}{x:Int}(hG:GM W gg cap vs G)(hN:N=G.length)(hu:u=(.slice (some ⟨gg,0,none⟩) N cap))(hv:v=.int .i64 x)(hNs:N<=1000)(xu:Gok (qS G) N)(yo:∀n,n<N->∀r,r∈qS G n->QB r.2 1)(zc:∀a,a<N->∀n c s,Rch (qS G) a n c s->s<=N+1->QB c 1)(zk:1+zKg (qS G) (List.replicate N false) N<=80000)(hT:Tab W):Calls prog 30 #[u,v] W (Ret W (wI (wD W 32 3 (qns (csR (qS G) N x))) (wD W 3 1 (ins (ssR (qS G) N x))))):=by
 have hmix:prog.follows .mixedOrders=true:=rZ
 have qy:∀q,zFr gg vs q->q<W.heap.size:=fun q I=>hG.lt I
 have x1:=hT
 have h7:Below W.heap.size W W:=xF _ _
 refine zPT [(UF.eq (.slice (some ⟨gg,0,none⟩) N cap)).tS,(uI x).tS] func30 rfl kA ⟨hu,hv,trivial⟩ fun a s=>?_
 replace s:=s.renew [(0,.u (UF.eq (.slice (some ⟨gg,0,none⟩) N cap))),(1,.u (uI x))] (sH (.inr ⟨_,rfl,.head _⟩)<|sH (.inr ⟨_,rfl,mz1⟩) fnz)
 refine fK<|rgK 0 [] s
  zC fun a w1 s=>yP (wC [.slice none 0 0]) (cs:=[.slice none 0 0]) kA rfl s kA (fun W=>rfl) rfl fun b4 a w s=>yP (wC [.slice none 0 0]) (cs:=[.slice none 0 0]) kA rfl s kA (fun W=>rfl) rfl fun b5 a w s=>zF rfl ?_
 have x9:=s.inB_new (q:=b4) ⟨_,mz1,rfl,rfl⟩
 have x8:=s.inB_new (q:=b5) ⟨_,.head _,rfl,rfl⟩
 obtain⟨c4,h4,e4,-⟩:=s.boxAt (c:=4) rfl
 obtain rfl:c4=[.slice none 0 0]:=e4
 obtain⟨c5,h5,e5,-⟩:=s.boxAt (c:=5) rfl
 obtain rfl:c5=[.slice none 0 0]:=e5
 replace s:=(s.learn 4 _ (s.bx.mem _ mz1).choose_spec.1).learn 5 _ (s.bx.mem _ (.head _)).choose_spec.1
 replace s:=s.popB
 replace s:=s.popB
 have J:=s.below
 replace hG:=hG.below J
 replace hT:=hT.below J
 replace h7:=h7.trans (J.mono h7.size)
 replace s:=s.anewB rfl rfl
 have hc:y9 w W.heap.size 32 3 (.slice none 0 0) (qns (List.replicate 0 0)):=y9.nil _ _ _ _
 have hs:y9 w W.heap.size 3 1 (.slice none 0 0) (ins (List.replicate 0 (-1))):=y9.nil _ _ _ _
 refine fK<|rgQ ((7,.Z (UF.eq (.slice (some ⟨gg,0,none⟩) N cap)))::(8,.u (uI (N:Int)))::(9,.u (uI 0))::[]) s
  (oc zA<|oc (zAd kA (fun v W h=>⟨_,_,_,h,rfl⟩))<|oc zA<|zC) fun a w2 s=>?_
 have J:=s.below
 replace h7:=h7.trans (J.mono h7.size)
 replace hG:=hG.below J
 replace hT:=hT.below J
 replace h4:=(J.block b4 (xP.1 h4).1).trans h4
 replace h5:=(J.block b5 (xP.1 h5).1).trans h5
 replace hc:=hc.below J
 replace hs:=hs.below J
 replace s:=s.anewB rfl rfl
 refine rF<|yC (fun(y:Nat×WD×WD) a w=>y.1<=N/\Below W.heap.size W w/\GM w gg cap vs G/\Tab w/\w.heap[b4]?=some (.cells #[y.2.1] 23 (0,0))/\w.heap[b5]?=some (.cells #[y.2.2] 24 (0,0))/\y9 w W.heap.size 32 3 y.2.1 (qns (List.replicate y.1 0))/\y9 w W.heap.size 3 1 y.2.2 (ins (List.replicate y.1 (-1)))/\St w [(0,.u (UF.eq (.slice (some ⟨gg,0,none⟩) N cap))),(1,.u (uI x)),(4,.u (UF.eq (pO b4 0))),(5,.u (UF.eq (pO b5 0))),(8,.u (uI (N:Int))),(9,.u (uI (y.1:Int)))] [] f30.ntmps [] a w) (fun y=>N-y.1) (0,.slice none 0 0,.slice none 0 0) ⟨vS _,h7,hG,hT,h4,h5,hc,hs,s.keepK _ (sH mz4<|sH mz5<|sH mz3<|sH mz2<|sH (.head _)<|sH mz1 fnz)⟩ fun y a w hx=>?_
 clear h7 hG hT h4 h5 hc hs
 obtain⟨hk,h7,hG,hT,h4,h5,hc,hs,s⟩:=hx
 refine rgQ ((10,.u (uB (decide ((y.1:Int)<(N:Int)))))::[]) s
  (oc (zJ .i64 (y.1:Int) (N:Int) (decide ((y.1:Int)<(N:Int))) iiz iiz rfl rfl)<|zC) fun a w3 s=>?_
 have J:=s.below
 replace h7:=h7.trans (J.mono h7.size)
 replace hG:=hG.below J
 replace hT:=hT.below J
 replace h4:=(J.block b4 (xP.1 h4).1).trans h4
 replace h5:=(J.block b5 (xP.1 h5).1).trans h5
 replace hc:=hc.below J
 replace hs:=hs.below J
 replace s:=s.anewB rfl rfl
 refine fK<|StS.cond s (decide ((y.1:Int)<(N:Int))) iiz (fun e=>?_) (fun e=>?_)
 .have xh:y.1<N:=by have:=xW e;omega
  refine nQ<|fK<|rF ?_
  have hz:∀q,(y.2.1.ownBlock=some q∨y.2.2.ownBlock=some q)->q≠b4/\q≠b5/\W.heap.size<=q/\q<w3.heap.size/\zHV w3 q:=fun q I=>by
   rcases I with I|I
   .obtain⟨_,c,g1,g2⟩:=qP hc I
    exact⟨zX g1 h4 dA,zX g1 h5 dA,(hc.lt q I).1,(hc.lt q I).2,c,_,_,g1,g2⟩
   .obtain⟨_,c,g1,g2⟩:=qP hs I
    exact⟨zX g1 h4 dA,zX g1 h5 dA,(hs.lt q I).1,(hs.lt q I).2,c,_,_,g1,g2⟩
  have q0:=(xP.1 h4).1
  have hZ:=(xP.1 h5).1
  have hWw:=h7.size
  refine zA2 (w:=w3) (n:=f30.ntmps) (zSG w3 W.heap.size y.2.1 y.2.2 (qns (List.replicate y.1 0)) (ins (List.replicate y.1 (-1)))) (TwoA w3 W.heap.size y.2.1 y.2.2 (qns (List.replicate y.1 0)) (ins (List.replicate y.1 (-1)))) (fun i U V=>BlS (zSt y.2.1 y.2.2 i) U V/\y4 U V) 7 hmix s.size kA (fun i l U V hi hl _ hC hR=>hC.next hc hs (by rw[hl];show i<9;omega) hR.1 hR.2) (fun i j v U V _ hj ye hE hR=>hE.keep hc hs hj ye hR.1 hR.2) (fun l U _ J=>⟨zAg J,zN J,fun _=>hc.below J,fun _=>hs.below J⟩) (fun i o hi ho l a' U hf qg O Kk hK=>?_) (fun Q' hQ a' w' hC qm x0 qk hv=>?_)
  .have q2:U.heap[b4]?=_:=(hf.cls.fr.block b4 q0 (fun h=>(hz _ h).1 rfl)).trans h4
   have q1:U.heap[b5]?=_:=(hf.cls.fr.block b5 hZ (fun h=>(hz _ h).2.1 rfl)).trans h5
   have x4:=hf.cls.fr.size
   have qo:BlS (zSt y.2.1 y.2.2 i) U U/\y4 U U:=⟨BlS.refl _ _,fun _ _ h=>h⟩
   have qu:i=0∨i=1∨i=2∨i=3∨i=4∨i=5∨i=6:=oA
   rcases qu with rfl|rfl|rfl|rfl|rfl|rfl|rfl<;>obtain rfl:=mE ho
   .have e4:a'.eval (.tmp 4)= (pO b4 0):=(hf.keep 4 (fun j hj=>yY (k:=7) kA j hj)).trans (s.val mz3)
    exact yE ho (fun _ e=>by cases e) (fun _ e=>by cases e) (zBb (cs:=[y.2.1]) (o:=0) kA e4 q2 rfl) (hK _ U rfl qo)
   .exact zAc (w0:=U) (G:=upd zQz [(12,(fQN 0).tS)]) ho (zK zD (enters_of func32 kA rfl) (fun u0 X J h0=>zDS h0)) (fun j g hj=>by rw[hf.size,s.size];exact zIw kA hj) (xF _ _) (fun t ht=>by cases ht) fun v V hv J=>hK v V (hv 12 rfl) ⟨zAg J,zN J⟩
   .obtain⟨cs,g1,g2⟩:=zRr (hf.vals 1 dA (yF O kA) 12 rfl)
    exact yE ho (fun _ e=>by cases e) (fun _ e=>by cases e) (zI2 g1) (hK _ _ ⟨_,rfl,x4,g2⟩ ⟨zAg (j5 _ _),zN (j5 _ _)⟩)
   .obtain⟨g,zh,hg,xr⟩:=hf.vals 2 dA (yF O kA) 13 rfl
    have ys:a'.eval (.tmp 11)=y.2.1:=hf.vals 0 dA (yF O kA) 11 rfl
    refine opn ho rfl (zEg (z:=3) (e:=32) (base:=W.heap.size) (v:=y.2.1) (Cs:=qns (List.replicate y.1 0)) (Ds:=[CU.agg (fQN 0)]) kA (hf.cls.c3 qg) ys (by rw[show a'.eval (.tmp 13)=_ from zh];exact xr.row rfl) (fun C hC=>by obtain rfl:=nY.1 hC;exact zRN 0) sB oA fun v' V h1 h2 h3 h4=>hK v' V ⟨h1,h4.imp_right fun e=>⟨_,e,x4⟩⟩ ⟨h2.sub fun q I=>.inl ⟨rfl,I⟩,h3⟩)
   .have e5:a'.eval (.tmp 5)= (pO b5 0):=(hf.keep 5 (fun j hj=>yY (k:=7) kA j hj)).trans (s.val mz4)
    exact yE ho (fun _ e=>by cases e) (fun _ e=>by cases e) (zBb (cs:=[y.2.2]) (o:=0) kA e5 q1 rfl) (hK _ U rfl qo)
   .exact yE ho (fun _ e=>by cases e) (fun _ e=>by cases e) (zI2 (zPR (-1))) (hK _ _ ⟨_,rfl,x4,zIb _ _⟩ ⟨zAg (j5 _ _),zN (j5 _ _)⟩)
   .obtain⟨g,yx,hg,xm⟩:=hf.vals 5 dA (yF O kA) 16 rfl
    have yr:a'.eval (.tmp 15)=y.2.2:=hf.vals 4 dA (yF O kA) 15 rfl
    refine opn ho rfl (zEg (z:=1) (e:=3) (base:=W.heap.size) (v:=y.2.2) (Cs:=ins (List.replicate y.1 (-1))) (Ds:=[wC [.int .i64 (-1)]]) kA (hf.cls.c6 qg) yr (by rw[show a'.eval (.tmp 16)=_ from yx];exact xm.row rfl) (fun C hC=>by obtain rfl:=nY.1 hC;exact zJE rfl rfl) sB oA fun v' V h1 h2 h3 h4=>hK v' V ⟨h1,h4.imp_right fun e=>⟨_,e,x4⟩⟩ ⟨h2.sub fun q I=>.inr ⟨rfl,I⟩,h3⟩)
  obtain⟨hV,yw⟩:=hv 3 dA 14 rfl
  obtain⟨hW,yv⟩:=hv 6 dA 17 rfl
  obtain⟨vc,evc⟩:∃v,a'.tmps.getD 14 undef=v:=⟨_,rfl⟩
  obtain⟨vs',evs⟩:∃v,a'.tmps.getD 17 undef=v:=⟨_,rfl⟩
  rw[evc]at hV yw
  rw[evs]at hW yv
  replace h4:=(hC.fr.block b4 q0 (fun h=>(hz _ h).1 rfl)).trans h4
  replace h5:=(hC.fr.block b5 hZ (fun h=>(hz _ h).2.1 rfl)).trans h5
  have zm:∀q,zFr gg vs q-> ¬(y.2.1.ownBlock=some q∨y.2.2.ownBlock=some q):=fun q I h=>by have:=(hz q h).2.2.1;have:=qy q I;omega
  replace hG:=hG.keep (fun q I=>hC.fr.block q (hG.lt I) (zm q I)) hC.kp
  replace hT:=zBY hT hC.fr (fun h=>by have:=(hz _ h).2.2.1;have:=zFv x1;omega)
  replace h7:=yD h7 hC.fr (fun q I=>(hz q I).2.2.1)
  have qe:∀t,(∀j,j<7->zY _ j≠some t)->a'.tmps.getD t undef=a.tmps.getD t undef:=qk
  rw[zQn]at hV
  rw[zQM]at hW
  replace s:St w' [(14,.u (UF.eq vc)),(17,.u (UF.eq vs')),(10,.u (uB (decide ((y.1:Int)<(N:Int))))),(0,.u (UF.eq (.slice (some ⟨gg,0,none⟩) N cap))),(1,.u (uI x)),(4,.u (UF.eq (pO b4 0))),(5,.u (UF.eq (pO b5 0))),(8,.u (uI (N:Int))),(9,.u (uI (y.1:Int)))] [] f30.ntmps [] a' w':=wV qm (x0.trans s.nd) (sH ⟨_,rfl,evc⟩<|sH ⟨_,rfl,evs⟩<|sH ⟨_,rfl,(qe 10 (fun j hj=>yY (k:=7) kA j hj)).trans (s.val (.head _))⟩<|sH ⟨_,rfl,(qe 0 (fun j hj=>yY (k:=7) kA j hj)).trans (s.val mz1)⟩<|sH ⟨_,rfl,(qe 1 (fun j hj=>yY (k:=7) kA j hj)).trans (s.val mz2)⟩<|sH ⟨_,rfl,(qe 4 (fun j hj=>yY (k:=7) kA j hj)).trans (s.val mz3)⟩<|sH ⟨_,rfl,(qe 5 (fun j hj=>yY (k:=7) kA j hj)).trans (s.val mz4)⟩<|sH ⟨_,rfl,(qe 8 (fun j hj=>yY (k:=7) kA j hj)).trans (s.val mz5)⟩<|sH ⟨_,rfl,(qe 9 (fun j hj=>yY (k:=7) kA j hj)).trans (s.val mz6)⟩ fnz)
  have xb:=zBG hV
  have xj:=zBG hW
  have xv:=zBG hc
  have xz:=zBG hs
  refine zAF (g:=b4) (i:=0) (cap:=1) (z:=1) (e:=23) (wC [vc]) rfl s rfl rfl (zB1 h4 xv.2.2) eN kA (s.fct (.tmp 4)) (jY (s.fct (.tmp 14)) xb.1 xb.2.1 xb.2.2) (fun q I=>by cases I) fun w2 hM qd xa s=>?_
  have qi:b5≠b4:=zX h5 h4 dA
  replace h5:=(hM.block b5 (xP.1 h5).1 qi).trans h5
  replace hV:=hV.keep (fun q I=>hM.block q (hV.lt q I).2 (fun e=>zX (qP hV I).2.choose_spec.1 h4 dA e)) qd
  replace hW:=hW.keep (fun q I=>hM.block q (hW.lt q I).2 (fun e=>zX (qP hW I).2.choose_spec.1 h4 dA e)) qd
  replace hG:=hG.keep (fun q I=>hM.block q (hG.lt I) (fun e=>by have:=qy q I;omega)) qd
  replace hT:=zBY hT hM (fun e=>by have:=zFv x1;omega)
  replace h7:=yD h7 hM (fun q I=>by rw[I];exact x9)
  replace h4:=zCO xa
  refine zAF (g:=b5) (i:=0) (cap:=1) (z:=1) (e:=24) (wC [vs']) rfl s rfl rfl (zB1 h5 xz.2.2) eN kA (s.fct (.tmp 5)) (jY (s.fct (.tmp 17)) xj.1 xj.2.1 xj.2.2) (fun q I=>by cases I) fun w2 hM qd xa s=>?_
  have qi:b4≠b5:=zX h4 h5 dA
  replace h4:=(hM.block b4 (xP.1 h4).1 qi).trans h4
  replace hV:=hV.keep (fun q I=>hM.block q (hV.lt q I).2 (fun e=>zX (qP hV I).2.choose_spec.1 h5 dA e)) qd
  replace hW:=hW.keep (fun q I=>hM.block q (hW.lt q I).2 (fun e=>zX (qP hW I).2.choose_spec.1 h5 dA e)) qd
  replace hG:=hG.keep (fun q I=>hM.block q (hG.lt I) (fun e=>by have:=qy q I;omega)) qd
  replace hT:=zBY hT hM (fun e=>by have:=zFv x1;omega)
  replace h7:=yD h7 hM (fun q I=>by rw[I];exact x8)
  replace h5:=zCO xa
  replace hc:=hV
  replace hs:=hW
  refine zF rfl (hQ _ _ ?_)
  refine zP 1 ((18,.u (uI ((y.1+1:Nat):Int)))::[]) s kA
   (oc (yL .i64 (y.1:Int) 1 ((y.1+1:Nat):Int) iiz iiz (wrap64 _ _ oA oA))<|zC) fun a w4 s=>?_
  replace s:=s.drop [9]
  refine zBD (uI ((y.1+1:Nat):Int)) rfl s kA zA kA fun a w s=>zF rfl ?_
  have J:=s.below
  replace h7:=h7.trans (J.mono h7.size)
  replace hG:=hG.below J
  replace hT:=hT.below J
  replace h4:=(J.block b4 (xP.1 h4).1).trans h4
  replace h5:=(J.block b5 (xP.1 h5).1).trans h5
  replace hc:=hc.below J
  replace hs:=hs.below J
  replace s:=s.anewB rfl rfl
  exact⟨(y.1+1,vc,vs'),(by show N-(y.1+1)<N-y.1;omega),xh,h7,hG,hT,h4,h5,hc,hs,s.keepK _ (sH mz5<|sH mz6<|sH mz7<|sH mz8<|sH mz9<|sH (.head _) fnz)⟩
 .have xh:y.1=N:=by have:=mB e;omega
  rw[xh]at hc hs
  refine rG<|fK<|rgQ ((19,.Z (UF.eq (.slice (some ⟨gg,0,none⟩) N cap)))::(20,.Z (uI x))::(21,.u (uB (yU N x)))::[]) s
   (oc zA<|oc zA<|oc (zW zD zKs (fun u0 u1 W J (h0:u0=(.slice (some ⟨gg,0,none⟩) N cap)) (h1:u1=.int .i64 x)=>zKp h0 h1))<|zC) fun a w5 s=>?_
  have J:=s.below
  replace h7:=h7.trans (J.mono h7.size)
  replace hG:=hG.below J
  replace hT:=hT.below J
  replace h4:=(J.block b4 (xP.1 h4).1).trans h4
  replace h5:=(J.block b5 (xP.1 h5).1).trans h5
  replace hc:=hc.below J
  replace hs:=hs.below J
  replace s:=s.anewB rfl rfl
  refine zS6 (fun a w=>∃ds cv sv,St W [(4,.u (UF.eq (pO b4 0))),(5,.u (UF.eq (pO b5 0)))] [] f30.ntmps ds a w/\w.heap[b4]?=some (.cells #[cv] 23 (0,0))/\w.heap[b5]?=some (.cells #[sv] 24 (0,0))/\y9 w W.heap.size 32 3 cv (qns (csR (qS G) N x))/\y9 w W.heap.size 3 1 sv (ins (ssR (qS G) N x))) ?_ ?_
  .refine StS.cond s (yU N x) iiz (fun e=>?_) (fun e=>?_)
   .have ql:=e
    have yz:∀q,y.2.2.ownBlock=some q->q<_:=fun q I=>(hs.lt q I).2
    refine fK<|rgN ((22,.Z (UF.eq (.slice (some ⟨gg,0,none⟩) N cap)))::(23,.Z (uI x))::(24,.s (zSF w5 (.slice (some ⟨gg,0,none⟩) N cap) (.int .i64 x)))::[]) s
     (oc zA<|oc zA<|oc (zW zD zTz (fun u0 u1 W J (h0:u0=(.slice (some ⟨gg,0,none⟩) N cap)) (h1:u1=.int .i64 x)=>(zK1 h0 h1).mono (wF (zOh J.size))))<|zC) fun a w6 s hr=>?_
    have J:=s.below
    replace h7:=h7.trans (J.mono h7.size)
    replace hG:=hG.below J
    replace hT:=hT.below J
    replace h4:=(J.block b4 (xP.1 h4).1).trans h4
    replace h5:=(J.block b5 (xP.1 h5).1).trans h5
    replace hc:=hc.below J
    replace hs:=hs.below J
    replace s:=s.anewB rfl rfl
    refine rF ?_
    obtain⟨b1,b2,ef,-,hb2o,qp,qn⟩:=hr (24,_) mz2
    replace s:=s.learn 24 _ ef
    obtain⟨ha,yt⟩:=y5 ql
    rw[<-yt]at qn
    have lq:(qns (List.replicate N 0)).length=N:=by simp[qns]
    have li:(ins (List.replicate N (-1))).length=N:=by simp[ins]
    obtain⟨gc,hS,ec,ya,hD⟩:=zDR hc oA
    obtain⟨gs,hO,es,xx,hL⟩:=zDR hs oA
    rw[lq]at ec
    rw[li]at es
    have hgl:=yz gs (by rw[es];rfl)
    rw[ec]at h4
    rw[es]at h5
    have yg:=hD.lt
    have y1:=hL.lt
    have xy:gc≠gs:=zX hD.at.choose_spec hL.at.choose_spec dA
    replace s:=s.home rfl rfl h7
    refine zKV (gf:=65) (lb:=#[pO b1 0,pO b2 0]) (Ef:=fun k=> [fWt ((stl (qS G) N x.toNat).getD k wz)]) (N:=(stl (qS G) N x.toNat).length) (T:=fun q=>q=gc∨q=gs) (X:=fun k U=>q9 U gc 32 3 hS (qns (zFi ((stl (qS G) N x.toNat).take k) (List.replicate N 0)))/\q9 U gs 3 1 hO (ins (zEG ((stl (qS G) N x.toNat).take k) (List.replicate N (-1))))/\U.heap[b4]?=some (.cells #[.slice (some ⟨gc,0,none⟩) N hS] 23 (0,0))/\U.heap[b5]?=some (.cells #[.slice (some ⟨gs,0,none⟩) N hO] 24 (0,0))) (fun k=> [(4,.u (UF.eq (pO b4 0))),(5,.u (UF.eq (pO b5 0))),(25,.u (fWt ((stl (qS G) N x.toNat).getD k wz)))]) s rfl iiz (enters_of func65 kA rfl) (fun q I=>by rcases I with rfl|rfl<;>exact⟨sD,sD⟩) (fun x hx=>by cases hx) (zJZ qp qn hG hN ha oA xu yo (zc _ ha) zk hT (fun q I=>by rcases I with rfl|rfl<;>assumption) (fun q I h=>?_)) (fun k U V hl hx=>⟨hx.1.keep (hl.low _ yg) hl.keep,hx.2.1.keep (hl.low _ y1) hl.keep,(hl.low _ (xP.1 h4).1).trans hx.2.2.1,(hl.low _ (xP.1 h5).1).trans hx.2.2.2⟩) (fun k U hx q I=>by rcases I with rfl|rfl;exact hx.1.plain;exact hx.2.1.plain) ⟨hD,hL,h4,h5⟩ (fun _=>rfl) (fun k q I=>?_) rfl kA rfl (fun l k V a' hk hX qm s=>?_) (fun D V hX s=>?_)
    .have hqW:W.heap.size<=q:=by rcases h with rfl|rfl<;>assumption
     rcases I with rfl|rfl|I|rfl
     .rcases h with h|h
      .exact zX qp hD.at.choose_spec dA h
      .exact zX qp hL.at.choose_spec dA h
     .rcases h with h|h
      .exact zX qn hD.at.choose_spec dA h
      .omega
     .have:=qy q I;omega
     .have:=zFv x1;omega
    .rcases xX.1 I with rfl|I
     .exact .inl ⟨mz5,rfl,rfl⟩
     .rcases xX.1 I with rfl|I
      .exact .inl ⟨mz6,rfl,rfl⟩
      .obtain rfl:=nY.1 I
       exact .inr ⟨0,_,rfl,rfl,rfl⟩
    .obtain⟨t,et⟩:∃t,(stl (qS G) N x.toNat).getD k wz=t:=⟨_,rfl⟩
     rw[et]at s
     have yb:t.n<N:=by rw[<-et];exact((zOW xu ha).1 _ (zPu hk)).1
     refine rgK 0 [] s
      zC fun a w7 s=>yP (CU.len 5) (cs:=[.bool false,.slice none 0 0,.slice none 0 0,.int .i64 0,.int .i64 0]) kA rfl s kA (fun W=>rfl) rfl fun b6 a w s=>yI (fWt t) rfl s zFX fun a w s=>zF rfl<|⟨s.below,fun U hzU yn hj=>?_⟩
     replace s:StS _ _ _ [⟨6,86,CU.agg (fWt t),b6,true⟩] _ _ _ _:=s.freeze
     replace s:=hj _ _ rfl rfl s
     replace s:=s.anewB rfl rfl
     obtain⟨c6,h6,e6,-⟩:=s.boxAt (c:=6) rfl
     replace h6:U.heap[b6]?=some (.cells c6.toArray 86 (0,0)):=h6
     replace s:=(s.learn 6 _ (s.bx.mem _ (.head _)).choose_spec.1).popB
     obtain⟨hD,hL,h4,h5⟩:=yn
     refine rF ?_
     have xq:=hk
     obtain⟨cur6,xg,z1⟩:=zDv c6 U e6
     obtain⟨cur3,xt,z4⟩:=zCx c6 U e6
     obtain⟨zg,yu⟩:=zFY c6 U e6
     rw[z1]at xg
     rw[z4]at xt
     have q0:=(xP.1 h4).1
     have hZ:=(xP.1 h5).1
     have xo:=(xP.1 h6).1
     have yd:b4≠gc:=zX h4 hD.at.choose_spec dA
     have yc:b4≠gs:=zX h4 hL.at.choose_spec dA
     have xn:b5≠gc:=zX h5 hD.at.choose_spec dA
     have yf:b5≠gs:=zX h5 hL.at.choose_spec dA
     have zb:b6≠gc:=zX h6 hD.at.choose_spec dA
     have ym:b6≠gs:=zX h6 hL.at.choose_spec dA
     obtain⟨cl,ecl⟩:∃cl,zFi ((stl (qS G) N x.toNat).take k) (List.replicate N 0)=cl:=⟨_,rfl⟩
     obtain⟨sl,esl⟩:∃sl,zEG ((stl (qS G) N x.toNat).take k) (List.replicate N (-1))=sl:=⟨_,rfl⟩
     have hcl:cl.length=N:=by rw[<-ecl];simp[zFi,zBp]
     have hsl':sl.length=N:=by rw[<-esl];simp[zEG,zBp]
     rw[ecl]at hD
     rw[esl]at hL
     refine zA2 (w:=U) (n:=f30.ntmps) (fun i v V=>match i with|0=>v=.slice (some ⟨gc,0,none⟩) N hS|1=>v= (pO b6 4)|2=>v=.int .i64 (t.n:Int)|3=>v=.slice (some ⟨gs,0,none⟩) N hO|4=>v= (pO b6 4)|5=>v=.int .i64 (t.n:Int)|6=>v= (pO b6 0)|7=>QNp t.c v V|8=>v= (pO b6 3)|9=>v=.int .i64 (t.s:Int)|10=>v=.pointer (some ⟨gc,t.n*3,none⟩)|12=>v=.pointer (some ⟨gs,t.n*1,none⟩)|_=>True)
      (fun l V=>BlS (fun q=>q=gc∨q=gs) U V/\y4 U V/\q9 V gc 32 3 hS (qns (if l.getD 11 false then cl.set t.n t.c else cl))/\q9 V gs 3 1 hO (ins (if l.getD 13 false then sl.set t.n (t.s:Int)else sl)))
      (fun i V V'=>BlS (fun q=>(i=11/\q=gc)∨(i=13/\q=gs)) V V'/\y4 V V'/\(i=11->q9 V' gc 32 3 hS (qns (cl.set t.n t.c)))/\(i=13->q9 V' gs 3 1 hO (ins (sl.set t.n (t.s:Int))))) 14 hmix s.size kA
      (fun i l V V' hi hl _ hC hR=>⟨hC.1.comp (hR.1.sub fun q I=>I.imp (·.2) (·.2)),hC.2.1.trans hR.2.1,?_,?_⟩) (fun i j v V V' _ hj ye hE hR=>?_) (fun l V hl J=>⟨zAg J,zN J,?_,?_⟩) (fun i o hi ho l a' V hf qg O Kk hK=>?_) (fun Q' hQ a' w' hC qm x0 qk hv=>?_)
     .by_cases e:i=11
      .subst e
       rw[zIW (by rw[hl];decide)]
       exact hR.2.2.1 rfl
      .rw[bF false e]
       exact hC.2.2.1.keep (hR.1.block gc hC.2.2.1.lt (fun h=>h.elim (fun h=>e h.1) (fun h=>xy h.2))) hR.2.1
     .by_cases e:i=13
      .subst e
       rw[zIW (by rw[hl];decide)]
       exact hR.2.2.2 rfl
      .rw[bF false e]
       exact hC.2.2.2.keep (hR.1.block gs hC.2.2.2.lt (fun h=>h.elim (fun h=>xy h.2.symm) (fun h=>e h.1))) hR.2.1
     .have zd:j=0∨j=1∨j=2∨j=3∨j=4∨j=5∨j=6∨j=7∨j=8∨j=9∨j=10∨j=11∨j=12∨j=13:=oA
      rcases zd with rfl|rfl|rfl|rfl|rfl|rfl|rfl|rfl|rfl|rfl|rfl|rfl|rfl|rfl<;>first|exact hE|exact(fQN t.c).us _ _ _ hE hR.2.1
     .rw[hl 11]
      exact hD.below J
     .rw[hl 13]
      exact hL.below J
     .obtain⟨hB,hk,xp,xw⟩:=hf.cls
      have q2:=(hB.block b4 q0 (fun h=>h.elim yd yc)).trans h4
      have q1:=(hB.block b5 hZ (fun h=>h.elim xn yf)).trans h5
      have qz:=(hB.block b6 xo (fun h=>h.elim zb ym)).trans h6
      have q4:a'.eval (.tmp 4)= (pO b4 0):=(hf.keep 4 (fun j hj=>yY (k:=14) kA j hj)).trans (s.val mz1)
      have q5:a'.eval (.tmp 5)= (pO b5 0):=(hf.keep 5 (fun j hj=>yY (k:=14) kA j hj)).trans (s.val mz2)
      have q6:a'.eval (.tmp 6)= (pO b6 0):=(hf.keep 6 (fun j hj=>yY (k:=14) kA j hj)).trans (s.val (.head _))
      have hU:i≠11->i≠13->BlS (fun q=>(i=11/\q=gc)∨(i=13/\q=gs)) V V/\y4 V V/\(i=11->q9 V gc 32 3 hS (qns (cl.set t.n t.c)))/\(i=13->q9 V gs 3 1 hO (ins (sl.set t.n (t.s:Int)))):=fun e1 e2=>⟨BlS.refl _ _,fun _ _ h=>h,fun e=>absurd e e1,fun e=>absurd e e2⟩
      have qu:i=0∨i=1∨i=2∨i=3∨i=4∨i=5∨i=6∨i=7∨i=8∨i=9∨i=10∨i=11∨i=12∨i=13:=oA
      rcases qu with rfl|rfl|rfl|rfl|rfl|rfl|rfl|rfl|rfl|rfl|rfl|rfl|rfl|rfl<;>obtain rfl:=mE ho
      .exact yE ho (fun _ e=>by cases e) (fun _ e=>by cases e) (zBb (cs:=[_]) (o:=0) kA q4 q2 rfl) (hK _ V rfl (hU dA dA))
      .exact yE ho (fun _ e=>by cases e) (fun _ e=>by cases e) (zBM 4 kA q6) (hK _ V rfl (hU dA dA))
      .exact yE ho (fun _ e=>by cases e) (fun _ e=>by cases e) (zBb (cs:=c6) (o:=4) kA (hf.vals 1 dA (yF O kA) 27 rfl) qz xg) (hK _ V rfl (hU dA dA))
      .exact yE ho (fun _ e=>by cases e) (fun _ e=>by cases e) (zBb (cs:=[_]) (o:=0) kA q5 q1 rfl) (hK _ V rfl (hU dA dA))
      .exact yE ho (fun _ e=>by cases e) (fun _ e=>by cases e) (zBM 4 kA q6) (hK _ V rfl (hU dA dA))
      .exact yE ho (fun _ e=>by cases e) (fun _ e=>by cases e) (zBb (cs:=c6) (o:=4) kA (hf.vals 4 dA (yF O kA) 30 rfl) qz xg) (hK _ V rfl (hU dA dA))
      .exact yE ho (fun _ e=>by cases e) (fun _ e=>by cases e) (zBM 0 kA q6) (hK _ V rfl (hU dA dA))
      .exact yE ho (fun _ e=>by cases e) (fun _ e=>by cases e) (zF5 (cs:=c6) (o:=0) (k:=3) kA (hf.vals 6 dA (yF O kA) 32 rfl) qz zg) (hK _ V ((fQN t.c).us _ _ _ yu hk) (hU dA dA))
      .exact yE ho (fun _ e=>by cases e) (fun _ e=>by cases e) (zBM 3 kA q6) (hK _ V rfl (hU dA dA))
      .exact yE ho (fun _ e=>by cases e) (fun _ e=>by cases e) (zBb (cs:=c6) (o:=3) kA (hf.vals 8 dA (yF O kA) 34 rfl) qz xt) (hK _ V rfl (hU dA dA))
      .have yR:a'.eval (.tmp 26)=.slice (some ⟨gc,0,none⟩) N hS:=hf.vals 0 dA (yF O kA) 26 rfl
       have zi:a'.eval (.tmp 28)=.int .i64 (t.n:Int):=hf.vals 2 dA (yF O kA) 28 rfl
       exact yE ho (fun _ e=>by cases e) (fun _ e=>by cases e) (zEK (z:=3) kA yb yR zi) (hK _ V rfl (hU dA dA))
      .have za:a'.eval (.tmp 36)=.pointer (some ⟨gc,t.n*3,none⟩):=hf.vals 10 dA (yF O kA) 36 rfl
       have zf:QNp t.c (a'.eval (.tmp 33)) V:=hf.vals 7 dA (yF O kA) 33 rfl
       rw[qg]at xp
       exact zGk (g:=gc) (j:=t.n) (Cs:=qns cl) (CU.agg (fQN t.c)) ho xp (by simp[qns];omega) kA za (zBS zf) fun V' J xi hR=>hK _ V' trivial ⟨J.sub fun q I=>.inl ⟨rfl,I⟩,xi,fun _=>by rw[<-zLu];exact hR,fun e=>absurd e dA⟩
      .have zj:a'.eval (.tmp 29)=.slice (some ⟨gs,0,none⟩) N hO:=hf.vals 3 dA (yF O kA) 29 rfl
       have z0:a'.eval (.tmp 31)=.int .i64 (t.n:Int):=hf.vals 5 dA (yF O kA) 31 rfl
       exact yE ho (fun _ e=>by cases e) (fun _ e=>by cases e) (zEK (z:=1) kA yb zj z0) (hK _ V rfl (hU dA dA))
      .have z6:a'.eval (.tmp 37)=.pointer (some ⟨gs,t.n*1,none⟩):=hf.vals 12 dA (yF O kA) 37 rfl
       have ze:a'.eval (.tmp 35)=.int .i64 (t.s:Int):=hf.vals 9 dA (yF O kA) 35 rfl
       rw[qg]at xw
       exact zGk (g:=gs) (j:=t.n) (Cs:=ins sl) (wC [.int .i64 (t.s:Int)]) ho xw (by simp[ins];omega) kA z6 (jY ze rfl rfl rfl) fun V' J xi hR=>hK _ V' trivial ⟨J.sub fun q I=>.inr ⟨rfl,I⟩,xi,fun e=>absurd e dA,fun _=>by rw[<-zBA];exact hR⟩
     .obtain⟨hB,hk,g1,g2⟩:=hC
      replace g1:q9 w' gc 32 3 hS (qns (cl.set t.n t.c)):=g1
      replace g2:q9 w' gs 3 1 hO (ins (sl.set t.n (t.s:Int))):=g2
      have e1:zFi ((stl (qS G) N x.toNat).take (k+1)) (List.replicate N 0)=cl.set t.n t.c:=by rw[<-ecl,<-et];exact zHG _ _ _ xq
      have e2:zEG ((stl (qS G) N x.toNat).take (k+1)) (List.replicate N (-1))=sl.set t.n (t.s:Int):=by rw[<-esl,<-et];exact zHG _ _ _ xq
      exact zF rfl (hQ _ _ ⟨hB,by rw[e1];exact g1,by rw[e2];exact g2,(hB.block b4 q0 (fun h=>h.elim yd yc)).trans h4,(hB.block b5 hZ (fun h=>h.elim xn yf)).trans h5⟩)
    .obtain⟨hD,hL,h4,h5⟩:=hX
     rw[pA]at hD hL
     have e1:csR (qS G) N x=zFi (stl (qS G) N x.toNat) (List.replicate N 0):=by simp[csR,ql]
     have e2:ssR (qS G) N x=zEG (stl (qS G) N x.toNat) (List.replicate N (-1)):=by simp[ssR,ql]
     exact⟨_,_,_,s.keepK _ (sH (.tail _ mz4)<|sH (.tail _ mz5) fnz),h4,h5,by rw[e1];exact hD.toN ya (by simp[qns,zFi,zBp]),by rw[e2];exact hL.toN xx (by simp[ins,zEG,zBp])⟩
   .refine nQ ?_
    have e1:csR (qS G) N x=List.replicate N 0:=by simp[csR,e]
    have e2:ssR (qS G) N x=List.replicate N (-1):=by simp[ssR,e]
    exact⟨[],y.2.1,y.2.2,(s.home rfl rfl h7).keepK _ (sH mz4<|sH mz5 fnz),h4,h5,by rw[e1];exact hc,by rw[e2];exact hs⟩
  .rintro a w ⟨ds,cv,sv,s,h4,h5,hc,hs⟩
   refine fK ?_
   have q0:=(xP.1 h4).1
   have hZ:=(xP.1 h5).1
   have qi:b5≠b4:=zX h5 h4 dA
   have gw:=s.gr.size
   refine zA2 (w:=w) (n:=f30.ntmps) (fun i v _=>(i=0->v=cv)/\(i=1->v=sv)) (fun _ U=>BlS (fun q=>q=b4∨q=b5) w U/\y4 w U/\U.heap[b4]?=some (.cells #[cv] 23 (0,0))/\U.heap[b5]?=some (.cells #[sv] 24 (0,0))) (fun _ U V=>BlS (fun q=>q=b4∨q=b5) U V/\y4 U V/\V.heap[b4]?=some (.cells #[cv] 23 (0,0))/\V.heap[b5]?=some (.cells #[sv] 24 (0,0))) 4 hmix s.size kA (fun i l U V _ _ _ hC hR=>⟨hC.1.comp hR.1,hC.2.1.trans hR.2.1,hR.2.2⟩) (fun i j v U V _ _ _ hE _=>hE) (fun l U _ J=>⟨zAg J,zN J,(J.block b4 q0).trans h4,(J.block b5 hZ).trans h5⟩) (fun i o hi ho l a' U hf qg O Kk hK=>?_) (fun Q' hQ a' w' hC qm x0 qk hv=>?_)
   .obtain⟨hB,hk,q2,q1⟩:=hf.cls
    have e4:a'.eval (.tmp 4)= (pO b4 0):=(hf.keep 4 (fun j hj=>yY (k:=4) kA j hj)).trans (s.val (.head _))
    have e5:a'.eval (.tmp 5)= (pO b5 0):=(hf.keep 5 (fun j hj=>yY (k:=4) kA j hj)).trans (s.val mz1)
    have qu:i=0∨i=1∨i=2∨i=3:=oA
    rcases qu with rfl|rfl|rfl|rfl<;>obtain rfl:=mE ho
    .exact yE ho (fun _ e=>by cases e) (fun _ e=>by cases e) (zBb (cs:=[cv]) (o:=0) kA e4 q2 rfl) (hK _ U ⟨fun _=>rfl,sF⟩ ⟨BlS.refl _ _,fun _ _ h=>h,q2,q1⟩)
    .exact yE ho (fun _ e=>by cases e) (fun _ e=>by cases e) (zBb (cs:=[sv]) (o:=0) kA e5 q1 rfl) (hK _ U ⟨sF,fun _=>rfl⟩ ⟨BlS.refl _ _,fun _ _ h=>h,q2,q1⟩)
    .have zn:a'.eval (.tmp 38)=cv:=(hf.vals 0 dA (yF O kA) 38 rfl).1 rfl
     have c1:=zBG hc
     exact zGk (g:=b4) (j:=0) (wC [cv]) ho (zB1 q2 c1.2.2) eN kA e4 (jY zn c1.1 c1.2.1 c1.2.2) fun V J xd hR=>hK _ V ⟨sF,sF⟩ ⟨J.sub fun q I=>.inl I,xd,zCO hR,(J.block b5 (xP.1 q1).1 qi).trans q1⟩
    .have yp:a'.eval (.tmp 39)=sv:=(hf.vals 1 dA (yF O kA) 39 rfl).2 rfl
     have c1:=zBG hs
     exact zGk (g:=b5) (j:=0) (wC [sv]) ho (zB1 q1 c1.2.2) eN kA e5 (jY yp c1.1 c1.2.1 c1.2.2) fun V J xd hR=>hK _ V ⟨sF,sF⟩ ⟨J.sub fun q I=>.inr I,xd,(J.block b4 (xP.1 q2).1 (fun e=>qi e.symm)).trans q2,zCO hR⟩
   refine zF rfl (hQ _ _ ?_)
   obtain⟨hB,hk,g4,g5⟩:=hC
   have zl:∀q,q=b4∨q=b5->W.heap.size<=q:=fun q I=>by rcases I with rfl|rfl;exact x9;exact x8
   have hz:∀q,cv.ownBlock=some q∨sv.ownBlock=some q-> ¬(q=b4∨q=b5):=fun q I h=>by
    rcases I with I|I
    .obtain⟨_,c,g1,_⟩:=qP hc I
     exact h.elim (zX g1 h4 dA) (zX g1 h5 dA)
    .obtain⟨_,c,g1,_⟩:=qP hs I
     exact h.elim (zX g1 h4 dA) (zX g1 h5 dA)
   replace hc:=hc.keep (fun q I=>hB.block q (hc.lt q I).2 (hz q (.inl I))) hk
   replace hs:=hs.keep (fun q I=>hB.block q (hs.lt q I).2 (hz q (.inr I))) hk
   have k4:a'.tmps.getD 4 undef=a.tmps.getD 4 undef:=qk 4 (fun j hj=>yY (k:=4) kA j hj)
   have k5:a'.tmps.getD 5 undef=a.tmps.getD 5 undef:=qk 5 (fun j hj=>yY (k:=4) kA j hj)
   have e4:=k4.trans (s.val (.head _))
   have e5:=k5.trans (s.val mz1)
   replace s:=(s.hop hB hk zl (fun x hx=>by cases hx) (fun Ds hm D hd I=>by rcases I with rfl|rfl;rw[(hm.at_ _ hd).2]at h4;cases h4;rw[(hm.at_ _ hd).2]at h5;cases h5)).act qm (x0.trans s.nd) (sH k4<|sH k5 fnz)
   exact nR<|s.resM2 rfl kA kA e4 e5 g4 g5 fun w2 ho=>⟨cv,sv,rfl,zI5 hc ho,zI5 hs ho⟩
/-! ### Joins and lengths as they are given -/
abbrev fJn(j:Int×Int):UF:=UF.eq (.agg #[.int .i64 j.1,.int .i64 j.2])
abbrev jns(js:List (Int×Int)):List CU:=js.map fun j=>CU.agg (fJn j)
theorem zL8{l:List (Int×Int)}(h:i<l.length):(jns l)[i]?=some (CU.agg (fJn (l.getD i (0,0)))):=by simp[jns,h]
theorem zEr{j:Int×Int}(h:(CU.agg (fJn j)).p cs W):cs=[.int .i64 j.1,.int .i64 j.2]:=by
 have:=vX Array.toList (zA7 (show Value.agg cs.toArray=_ from h))
 simpa using this
theorem zPk(j:Int×Int):∀cs:List WD,∀W,(fJn j).p (.agg cs.toArray) W->cs.length=2:=fun cs W h=>by rw[zEr (W:=W) h];rfl
theorem zQJ{j:Int×Int}(cs:List WD)(W:WB)(h:(CU.agg (fJn j)).p cs W):∃u,cs[0]?=some u/\u=.int .i64 j.1:=by rw[zEr h];exact⟨_,rfl,rfl⟩
theorem zQI{j:Int×Int}(cs:List WD)(W:WB)(h:(CU.agg (fJn j)).p cs W):∃u,cs[1]?=some u/\u=.int .i64 j.2:=by rw[zEr h];exact⟨_,rfl,rfl⟩
theorem zJC{j:Int×Int}(v:WD)(W:WB)(h:(fJn j).p v W):∃vs:List WD,v=.agg vs.toArray/\vs.length=2/\(∀u,u∈vs->u.oneCell'=true)/\vs.all z9=true/\(CU.agg (fJn j)).p vs W:=by
 refine⟨[.int .i64 j.1,.int .i64 j.2],h,rfl,fun u I=>?_,rfl,rfl⟩
 simp only[xX,rL,rM]at I
 rcases I with rfl|rfl<;>rfl
/-! ### The graph of roads that are given as a list -/
def glN(N:Nat)(rs:List (Nat×Nat×Rat)):List (List (Nat×Rat)):=(List.range N).map (zH rs)
theorem jO(N:Nat)(rs:List (Nat×Nat×Rat)):(glN N rs).length=N:=by simp[glN]
theorem zC5(rs:List (Nat×Nat×Rat))(h:i<N):(glN N rs).getD i []=zH rs i:=by simp[glN,h]
theorem zFb(N:Nat)(js:List (Int×Int))(fs:List Rat):qS (glN N (rds N js fs))=grE N js fs:=by
 funext n
 by_cases h:n<N
 .exact zC5 _ h
 .have e:qS (glN N (rds N js fs)) n=[]:=by simp[qS,glN,h]
  rw[e]
  refine(eV.2 fun⟨b,f⟩ I=>h (zTd I)).symm
theorem zMG(a:Nat)(x:Nat×Rat)(b:Nat):zH [(a,x)] b=if a=b then[x]else[]:=by
 unfold zH
 by_cases h:a=b
 .subst h;simp
 .rw[if_neg h];simp[h]
theorem zDN(rs:List (Nat×Nat×Rat))(a:Nat):(zH rs a).length<=rs.length:=by
 unfold zH
 rw[xT]
 exact List.length_filter_le _ _
theorem zBN(N:Nat)(js:List (Int×Int))(fs:List Rat)(k:Nat):(jX N js fs k).length<=2*k:=by
 induction k with
 |zero=>simp[jX]
 |succ k ih=>
  rw[zBR,uD]
  have:(zFn N js fs k).length<=2:=by unfold zFn;split<;>simp
  omega
structure GBd(w:World)(base gg cap:Nat)(vs:List Value)(N:Nat)(rs:List (Nat×Nat×Rat)):Prop where
 ln:vs.length=N
 rw:q9 w gg 65 1 cap (sls vs)
 gl:base<=gg
 rows:∀i,i<N->y9 w base 67 4 (vs.getD i (.slice none 0 0)) (ros (zH rs i))
 ap:∀i j q,i<N->j<N->(vs.getD i (.slice none 0 0)).ownBlock=some q->(vs.getD j (.slice none 0 0)).ownBlock=some q->i=j
theorem GBd.ne(h:GBd w base gg cap vs N rs){i q:Nat}(J:i<N)(O:(vs.getD i (.slice none 0 0)).ownBlock=some q):q≠gg/\base<=q/\q<w.heap.size:=by
 obtain⟨hb,c,I,_⟩:=qP (h.rows i J) O
 exact⟨zX I h.rw.at.choose_spec dA,hb,(xP.1 I).1⟩
theorem GBd.keep(h:GBd w base gg cap vs N rs)(hb:∀q,base<=q->q<w.heap.size->(∃c t z,w.heap[q]?=some (.cells c t z))->w'.heap[q]?=w.heap[q]?)(J:y4 w w'):GBd w' base gg cap vs N rs:=
 ⟨h.ln,h.rw.keep (hb gg h.gl h.rw.lt ⟨_,_,_,h.rw.at.choose_spec⟩) J,h.gl,fun i I=>(h.rows i I).keep (fun q O=>by
  obtain⟨g1,c,g2,_⟩:=qP (h.rows i I) O
  exact hb q g1 (h.ne I O).2.2 ⟨_,_,_,g2⟩) J,h.ap⟩
theorem GBd.below(h:GBd w base gg cap vs N rs)(I:Below w.heap.size w w'):GBd w' base gg cap vs N rs:=h.keep (fun q _ J _=>I.block q J) (zN I)
theorem GBd.gm(h:GBd w base gg cap vs N rs)(J:0<base):GM w gg cap vs (glN N rs):=
 ⟨by rw[h.ln,jO],h.rw,by have:=h.gl;omega,fun i I=>by
  rw[jO]at I
  rw[zC5 rs I]
  exact(h.rows i I).mono J⟩
theorem GBd.new(J:q9 w gg 65 1 cap (List.replicate N (wC [.slice none 0 0])))(O:base<=gg):GBd w base gg cap (List.replicate N (.slice none 0 0)) N []:=by
 have e:∀i,i<N->(List.replicate N (Value.slice none 0 0)).getD i (.slice none 0 0)=.slice none 0 0:=fun i h=>by simp[h]
 refine⟨eN,by unfold sls;rw[List.map_replicate];exact J,O,fun i h=>?_,fun i j q h hj I _=>?_⟩
 .rw[e i h]
  exact y9.nil _ _ _ _
 .rw[e i h]at I
  simp[Value.ownBlock]at I
theorem zHD{l:List WD}{a:Nat}{d:WD}(I:a<l.length):(l.set a v).getD i d=if i=a then v else l.getD i d:=by
 by_cases h:i=a
 .subst h;rw[if_pos rfl];simp[I]
 .rw[if_neg h];simp[pM (xY h)]
theorem GBd.add(h:GBd w base gg cap vs N rs){a:Nat}(ha:a<N){v':WD}{x:Nat×Rat}(O:BlS (fun q=>(vs.getD a (.slice none 0 0)).ownBlock=some q) w U)(k1:y4 w U)(hv:y9 U base 67 4 v' (ros (zH rs a)++ [CU.agg (fRo x)]))(ho:v'.ownBlock=(vs.getD a (.slice none 0 0)).ownBlock∨ ∃q,v'.ownBlock=some q/\w.heap.size<=q)(h7:BlS (fun q=>q=gg) U V)(k2:y4 U V)(hr:q9 V gg 65 1 cap (sls (vs.set a v'))):GBd V base gg cap (vs.set a v') N (rs++ [(a,x)]):=by
 have h5:a<vs.length:=by rw[h.ln];exact ha
 have hd:U.heap[gg]?=w.heap[gg]?:=O.block gg h.rw.lt fun hh=>(h.ne ha hh).1 rfl
 have hc:=hd.trans h.rw.at.choose_spec
 refine⟨by rw[uC];exact h.ln,hr,h.gl,fun i hi=>?_,fun i j q hi hj J h2=>?_⟩
 .rw[zHD h5,zMH,zMG]
  by_cases e:i=a
  .subst e
   rw[if_pos rfl,if_pos rfl]
   unfold ros
   rw[pB]
   refine hv.keep (fun q hq=>h7.block q (hv.lt q hq).2 ?_) k2
   obtain⟨_,c,g1,_⟩:=qP hv hq
   exact zX g1 hc dA
  .rw[if_neg e,if_neg (fun k=>e k.symm),pU]
   have hR:=h.rows i hi
   refine hR.keep (fun q hq=>?_) (k1.trans k2)
   obtain⟨n1,n2,n3⟩:=h.ne hi hq
   exact(h7.block q (vW n3 O.size) n1).trans (O.block q n3 fun hh=>e (h.ap _ _ _ hi ha hq hh))
 .rw[zHD h5]at J h2
  have I:∀j,j<N->j≠a->v'.ownBlock=some q->(vs.getD j (.slice none 0 0)).ownBlock=some q->False:=fun j hj h9 g1 g2=>by
   rcases ho with ho|⟨q',e',hq'⟩
   .exact h9 (h.ap _ _ _ hj ha g2 (ho.symm.trans g1))
   .obtain rfl:q'=q:=by rw[e']at g1;exact mE g1
    have:=(h.ne hj g2).2.2
    omega
  by_cases e:i=a<;>by_cases e':j=a
  .rw[e,e']
  .rw[if_pos e]at J;rw[if_neg e']at h2
   exact(I j hj e' J h2).elim
  .rw[if_neg e]at J;rw[if_pos e']at h2
   exact(I i hi e h2 J).elim
  .rw[if_neg e]at J;rw[if_neg e']at h2
   exact h.ap _ _ _ hi hj J h2
def AdE(w:WB)(base gg cap N b9 oa ob a b:Nat)(VA:WD)(Cs:List CU)(far:Rat):Nat->WD->WB->Prop
 |0,v,_=>v=.slice (some ⟨gg,0,none⟩) N cap
 |1,v,_=>v= pO b9 oa
 |2,v,_=>v=.int .i64 (a:Int)
 |3,v,_=>v=.slice (some ⟨gg,0,none⟩) N cap
 |4,v,_=>v= pO b9 oa
 |5,v,_=>v=.int .i64 (a:Int)
 |6,v,_=>v=.pointer (some ⟨gg,a*1,none⟩)
 |7,v,_=>v=VA
 |8,v,_=>v= pO b9 ob
 |9,v,_=>v=.int .i64 (b:Int)
 |10,v,U=>QNp far v U
 |11,v,U=>(fRo (b,far)).p v U
 |12,v,U=>∃g,v=.slice (some ⟨g,0,none⟩) 1 1/\w.heap.size<=g/\q9 U g 67 4 1 [CU.agg (fRo (b,far))]
 |13,v,U=>y9 U base 67 4 v (Cs++ [CU.agg (fRo (b,far))])/\(v.ownBlock=VA.ownBlock∨ ∃q,v.ownBlock=some q/\w.heap.size<=q)
 |_,_,_=>True
structure AdC(w:World)(base:Nat)(VA:Value)(Cs:List CU)(l:Array Bool)(U:World):Prop where
 fr:BlS (fun q=>VA.ownBlock=some q) w U
 kp:y4 w U
 ca:l.getD 13 false=false->y9 U base 67 4 VA Cs
def AdR(VA:WD)(i:Nat)(U V:WB):Prop:=BlS (fun q=>i=13/\VA.ownBlock=some q) U V/\y4 U V
theorem AdR.no(h:Below U.heap.size U V):AdR VA i U V:=⟨zAg h,zN h⟩
theorem AdC.next(hi:i<l.size)(h:AdC w base VA Cs l U)(I:AdR VA i U V):AdC w base VA Cs (l.setIfInBounds i true) V:=by
 refine⟨h.fr.comp (I.1.sub fun q J=>J.2),h.kp.trans I.2,fun e=>?_⟩
 obtain⟨O,e2⟩:=zK2 hi e
 have:=h.ca e2
 exact this.keep (fun q J=>I.1.block q (this.lt q J).2 fun hh=>O hh.1) I.2
theorem AdE.keep{w:WB}{base gg cap N b9 oa ob a b:Nat}{VA:WD}{Cs:List CU}{far:Rat}(h0:∀q,VA.ownBlock=some q->q<w.heap.size){i j:Nat}{v:WD}{U V:WB}(J:i≠j)(hj:j<14)(h:AdE w base gg cap N b9 oa ob a b VA Cs far j v U)(I:AdR VA i U V):AdE w base gg cap N b9 oa ob a b VA Cs far j v V:=by
 match j,hj,h with
 |0,_,h=>exact h
 |1,_,h=>exact h
 |2,_,h=>exact h
 |3,_,h=>exact h
 |4,_,h=>exact h
 |5,_,h=>exact h
 |6,_,h=>exact h
 |7,_,h=>exact h
 |8,_,h=>exact h
 |9,_,h=>exact h
 |10,_,h=>exact(fQN far).us _ _ _ h I.2
 |11,_,h=>exact(fRo (b,far)).us _ _ _ h I.2
 |12,_,⟨g,e,hg,hr⟩=>exact⟨g,e,hg,hr.keep (I.1.block g hr.lt fun O=>by have:=h0 _ O.2;omega) I.2⟩
 |13,_,⟨hr,ho⟩=>exact⟨hr.keep (fun q hq=>I.1.block q (hr.lt q hq).2 fun O=>J O.1) I.2,ho⟩
theorem zLa(h:q9 w g e 1 cap Cs)(O:Cs[i]?=some (wC [v])):∃cs:List WD,w.heap[g]?=some (.cells cs.toArray e (0,0))/\cs[i*1]?=some v:=by
 obtain⟨I,h1,_,_,_,_,h6⟩:=h
 have h7:(I.toList.drop (i*1)).take 1=[v]:=h6 i _ O
 refine⟨I.toList,by rw[fW];exact h1,?_⟩
 have J:=vX (fun l:List WD=>l[0]?) h7
 simpa[gB,uW]using J
theorem zK7{cells:Array WD}(h:P.built t [(i,a.eval x),(j,a.eval y)]=some cells):(execOp a.eval ⟨d,.build t #[(i,x),(j,y)],ty,pos,aft,gd⟩).run P U=.ok (.value (.agg cells)) U:=by
 have I:P.built t ((#[(i,x),(j,y)]:Array (Nat×WK)).map fun(i,x)=>(i,a.eval x)).toList=some cells:=by simpa using h
 simp only[execOp,bW,run_build U t _ cells I,cN,cJ]
theorem zEI(h:a.eval x=v):(execOp a.eval ⟨d,.move x,ty,pos,aft,gd⟩).run P U=.ok (.value v) U:=by
 simp[execOp,h]
theorem zOY{x:Nat×Rat}(I:(fRo x).p u W):∃cs,zV prog 65 1 [(0,u)]=some (67,cs)/\q9 (W.alloc (.cells cs 67)) W.heap.size 67 4 1 [CU.agg (fRo x)]:=by
 obtain⟨s,A,n,c,A',n',c',rfl,J⟩:=I
 refine⟨_,zSR _ _ _ _ _ _ _ _,_,bT W _,vR _,rY,rfl,rfl,fun i C h=>?_⟩
 cases i with
 |zero=>
  obtain rfl:CU.agg (fRo x)=C:=by simpa using h
  exact⟨s,A,n,c,A',n',c',rfl,(fQN x.2).us _ _ _ J (zN (j5 W _))⟩
 |succ i=>simp at h
theorem zLH{d:Tmp}(u v:Int)(hx:∀q W,(fct G x).p q W->q=.int .i64 u)(hy:∀q W,(fct G y).p q W->q=.int .i64 v)(hd:∀W,(G d).p (.int .i64 (max u v)) W:=by exact fun _=>rfl):qR F m P w0 ops G ⟨some d,.call ⟨.builtin .max,#[x,y],ats⟩,ty,pos,aft,none⟩:=by
 intro b W K Q hb hr hK
 have e1:=hx _ _ (qX hr (x:=x) (by simp[Op.operands,Call.operands]))
 have e2:=hy _ _ (qX hr (x:=y) (by simp[Op.operands,Call.operands]))
 refine⟨fun f hf=>(by
  unfold Oper.about at hf
  simp[resolve,go_sem]at hf),?_⟩
 rw[bG _ _ _ (fun _ e=>by cases e)]
 have:(execOp b.eval ⟨some d,.call ⟨.builtin .max,#[x,y],ats⟩,ty,pos,aft,none⟩).run P W=.ok (.value (.int .i64 (max u v))) W:=by
  have h:max u v=if u<v then v else u:=by split<;>omega
  simp[execOp,resolve,invoke,builtin,e1,e2,Builtin.max_,Builtin.max2,h]
 rw[this]
 exact hK _ _ (fun d' e'=>by cases e';exact hd _) (xF _ _)
theorem zEd(q:Rat):decide (q.num.sign>0)=decide (0<q):=by
 have I:0<q↔0<q.num:=by rw[Rat.lt_iff];simp
 rw[pE,I]
 constructor
 .intro h;exact Int.sign_eq_one_iff_pos.1 (by have:=Int.sign_trichotomy q.num;omega)
 .intro h;rw[mO h];decide
def fG(G:List (List (Nat×Rat))):SF:=⟨fun v w=>∃gg cap vs,v=.slice (some ⟨gg,0,none⟩) G.length cap/\GM w gg cap vs G,fun _ _ _ ⟨gg,cap,vs,e,h⟩ hb=>⟨gg,cap,vs,e,h.below hb⟩⟩
theorem zQ5{n:Int}(hu:u=.int .i64 n)(hj:(SF.row 2 (jns js)).p lj W)(hf:(SF.row 3 (rvs 1 fs)).p lf W)(y3:min (max n 0) 131072=(N:Int))(hNs:N<=1000)(hjl:js.length<=1000)(hT:Tab W):Calls prog 29 #[u,lj,lf] W (Ret W (fG (glN N (rds N js fs)))):=by
 have I:Below W.heap.size W W:=xF _ _
 refine y2 [(uI n).tS,(UF.eq lj).tS,(UF.eq lf).tS] func29 rfl kA ⟨hu,rfl,rfl,trivial⟩ fun a s=>?_
 replace s:=s.renew [(0,.u (uI n)),(1,.u (UF.eq lj)),(2,.u (UF.eq lf))] (sH (.inr ⟨_,rfl,.head _⟩)<|sH (.inr ⟨_,rfl,mz1⟩)<|sH (.inr ⟨_,rfl,mz2⟩) fnz)
 refine rgQ ((6,.u (UF.eq (.slice none 0 0)))::[]) s
  (oc zE<|zC) fun a w1 s=>fK<|rgK 3 ((11,.Z (uI n))::(12,.Z (uI (max n 0)))::(13,.u (uI (N:Int)))::[]) s
  (oc zA<|oc (zLH n 0 iiz iiz)<|oc (zLG (max n 0) 131072 iiz iiz (hd:=fun _=>vX (Value.int .i64) y3))<|zC) fun a w2 s=>?_
 have hb:=s.below
 replace I:=I.trans (hb.mono I.size)
 replace s:=s.anewB rfl rfl
 refine zJW (nn:=N) (z:=1) (e:=65) (zs:=[.slice none 0 0]) (wC [.slice none 0 0]) s rfl kA kA kA rfl rfl oA (fun W=>rfl) (s.fct (.tmp 13)) (s.fct (.tmp 13)) fun gg a w xv hb hD s=>?_
 have qq:W.heap.size<=gg:=by rw[xv];exact I.size
 replace I:=I.trans (hb.mono I.size)
 have J:=GBd.new hD qq
 refine yN (UF.eq (.slice (some ⟨gg,0,none⟩) N N)) rfl s kA iiz fun a w s=>zF rfl<|fK<|fK ?_
 have x8:=(SF.row 2 (jns js)).st _ _ _ hj I
 refine rgE ((15,.u (UF.eq lj))::(16,.u (uI ((jns js).length:Int)))::(17,.u (uI 0))::[]) s
  (oc zA<|oc (qZ (z:=2) (Cs:=jns js) kA (y7 x8 s) (fun _=>rfl))<|oc zA<|zC) fun a w3 s=>rF ?_
 have hb:=s.below
 replace I:=I.trans (hb.mono I.size)
 replace J:=J.below hb
 replace s:=s.anewB rfl rfl
 refine yC (fun(y:Nat×List WD) a w=>y.1<=js.length/\Below W.heap.size W w/\GBd w W.heap.size gg N y.2 N (jX N js fs y.1)/\St w [(2,.u (UF.eq lf)),(7,.u (UF.eq (.slice (some ⟨gg,0,none⟩) N N))),(15,.u (UF.eq lj)),(16,.u (uI ((jns js).length:Int))),(17,.u (uI (y.1:Int)))] [] f29.ntmps [] a w) (fun y=>js.length-y.1) (0,List.replicate N (.slice none 0 0)) ⟨vS _,I,J,s.keepK _ (sH mz9<|sH mz3<|sH (.head _)<|sH mz1<|sH mz2 fnz)⟩ fun y a wl hx=>?_
 clear I J
 obtain⟨hk,I,J,s⟩:=hx
 have xb:=hT.below I
 have x8:=(SF.row 2 (jns js)).st _ _ _ hj I
 have xa:=(SF.row 3 (rvs 1 fs)).st _ _ _ hf I
 refine rgQ ((18,.u (uB (decide ((y.1:Int)<((jns js).length:Int)))))::[]) s
  (oc (zJ .i64 (y.1:Int) ((jns js).length:Int) (decide ((y.1:Int)<((jns js).length:Int))) iiz iiz rfl rfl)<|zC) fun a w4 s=>fK<|StS.cond s (decide ((y.1:Int)<((jns js).length:Int))) iiz (fun e=>?_) (fun e=>?_)
 .have q6:y.1<js.length:=by have h7:=xW e;simp only[xT]at h7;omega
  refine nQ<|fK<|rF<|fK<|rgK 3 ((19,.u (uI (y.1:Int)))::(20,.Y (fJn (js.getD y.1 (0,0))))::(21,.u (fJn (js.getD y.1 (0,0))))::[]) s
   (oc zA<|oc (zL (z:=2) (Cs:=jns js) (i:=y.1) (C:=CU.agg (fJn (js.getD y.1 (0,0)))) kA (zL8 q6) (y7 x8 s) iiz)<|oc (yJ (f:=fJn (js.getD y.1 (0,0))) 2 kA (hz:=zPk _))<|zC) fun a w5 s=>yP (CU.len 2) (cs:=[.int .i64 0,.int .i64 0]) kA rfl s kA (fun W=>rfl) rfl fun b9 a w s=>yN (uI (y.1:Int)) rfl s kA iiz fun a w s=>yI (fJn (js.getD y.1 (0,0))) rfl s zJC fun a w s=>zF rfl<|fK<|rgQ ((22,.X (fJn (js.getD y.1 (0,0))) 0)::(23,.Z (uI ((js.getD y.1 (0,0)).1)))::(24,.X (fJn (js.getD y.1 (0,0))) 1)::(25,.Z (uI ((js.getD y.1 (0,0)).2)))::(26,.Z (uB ((js.getD y.1 (0,0)).1==(js.getD y.1 (0,0)).2)))::(27,.Z (uB ((js.getD y.1 (0,0)).1==(js.getD y.1 (0,0)).2)))::(28,.s (SF.imp (((js.getD y.1 (0,0)).1==(js.getD y.1 (0,0)).2)=false) ((UF.eq (.slice (some ⟨gg,0,none⟩) N N)).tS)))::(29,.s (SF.imp (((js.getD y.1 (0,0)).1==(js.getD y.1 (0,0)).2)=false) (wB ((CU.agg (fJn (js.getD y.1 (0,0)))).cf.at 0))))::(30,.s (SF.imp (((js.getD y.1 (0,0)).1==(js.getD y.1 (0,0)).2)=false) ((uI ((js.getD y.1 (0,0)).1)).tS)))::(31,.s (SF.imp (((js.getD y.1 (0,0)).1==(js.getD y.1 (0,0)).2)=false) ((uB (yU N (js.getD y.1 (0,0)).1)).tS)))::(32,.s (SF.imp (((js.getD y.1 (0,0)).1==(js.getD y.1 (0,0)).2)=false) ((uB (!(yU N (js.getD y.1 (0,0)).1))).tS)))::(33,.Z (uB (((js.getD y.1 (0,0)).1==(js.getD y.1 (0,0)).2)||(!(yU N (js.getD y.1 (0,0)).1)))))::(34,.Z (uB (((js.getD y.1 (0,0)).1==(js.getD y.1 (0,0)).2)||(!(yU N (js.getD y.1 (0,0)).1)))))::(35,.s (SF.imp ((((js.getD y.1 (0,0)).1==(js.getD y.1 (0,0)).2)||(!(yU N (js.getD y.1 (0,0)).1)))=false) ((UF.eq (.slice (some ⟨gg,0,none⟩) N N)).tS)))::(36,.s (SF.imp ((((js.getD y.1 (0,0)).1==(js.getD y.1 (0,0)).2)||(!(yU N (js.getD y.1 (0,0)).1)))=false) (wB ((CU.agg (fJn (js.getD y.1 (0,0)))).cf.at 1))))::(37,.s (SF.imp ((((js.getD y.1 (0,0)).1==(js.getD y.1 (0,0)).2)||(!(yU N (js.getD y.1 (0,0)).1)))=false) ((uI ((js.getD y.1 (0,0)).2)).tS)))::(38,.s (SF.imp ((((js.getD y.1 (0,0)).1==(js.getD y.1 (0,0)).2)||(!(yU N (js.getD y.1 (0,0)).1)))=false) ((uB (yU N (js.getD y.1 (0,0)).2)).tS)))::(39,.s (SF.imp ((((js.getD y.1 (0,0)).1==(js.getD y.1 (0,0)).2)||(!(yU N (js.getD y.1 (0,0)).1)))=false) ((uB (!(yU N (js.getD y.1 (0,0)).2))).tS)))::(40,.u (uB ((((js.getD y.1 (0,0)).1==(js.getD y.1 (0,0)).2)||(!(yU N (js.getD y.1 (0,0)).1)))||(!(yU N (js.getD y.1 (0,0)).2)))))::[]) s
   (oc (zO (C:=cg (fJn (js.getD y.1 (0,0)))) 0 kA)<|oc (yK (C:=cg (fJn (js.getD y.1 (0,0)))) (k:=0) kA (h:=zQJ))<|oc (zO (C:=cg (fJn (js.getD y.1 (0,0)))) 1 kA)<|oc (yK (C:=cg (fJn (js.getD y.1 (0,0)))) (k:=1) kA (h:=zQI))<|oc (zJ .i64 ((js.getD y.1 (0,0)).1) ((js.getD y.1 (0,0)).2) ((js.getD y.1 (0,0)).1==(js.getD y.1 (0,0)).2) iiz iiz rfl rfl)<|oc zA<|oc (zB 27 ((js.getD y.1 (0,0)).1==(js.getD y.1 (0,0)).2) kA iiz (fun e=>zI [] ((UF.eq (.slice (some ⟨gg,0,none⟩) N N)).tS) fnz (fun _ _ h _=>h) kA zA) (fun e W h=>absurd h e))<|oc (zB 27 ((js.getD y.1 (0,0)).1==(js.getD y.1 (0,0)).2) kA iiz (fun e=>zI [] (wB ((CU.agg (fJn (js.getD y.1 (0,0)))).cf.at 0)) fnz (fun _ _ h _=>h) kA (zO (C:=cg (fJn (js.getD y.1 (0,0)))) 0 kA)) (fun e W h=>absurd h e))<|oc (zB 27 ((js.getD y.1 (0,0)).1==(js.getD y.1 (0,0)).2) kA iiz (fun e=>zI [(29,wB ((CU.agg (fJn (js.getD y.1 (0,0)))).cf.at 0))] ((uI ((js.getD y.1 (0,0)).1)).tS) (sH (fun v W h=>zG (c:=((js.getD y.1 (0,0)).1==(js.getD y.1 (0,0)).2)=false) (f:=wB ((CU.agg (fJn (js.getD y.1 (0,0)))).cf.at 0)) e h) fnz) (fun _ _ h _=>h) kA (yK (C:=cg (fJn (js.getD y.1 (0,0)))) (k:=0) kA (h:=zQJ))) (fun e W h=>absurd h e))<|oc (zB 27 ((js.getD y.1 (0,0)).1==(js.getD y.1 (0,0)).2) kA iiz (fun e=>zI [(28,(UF.eq (.slice (some ⟨gg,0,none⟩) N N)).tS),(30,(uI ((js.getD y.1 (0,0)).1)).tS)] ((uB (yU N (js.getD y.1 (0,0)).1)).tS) (sH (fun v W h=>zG (c:=((js.getD y.1 (0,0)).1==(js.getD y.1 (0,0)).2)=false) (f:=(UF.eq (.slice (some ⟨gg,0,none⟩) N N)).tS) e h)<|sH (fun v W h=>zG (c:=((js.getD y.1 (0,0)).1==(js.getD y.1 (0,0)).2)=false) (f:=(uI ((js.getD y.1 (0,0)).1)).tS) e h) fnz) (fun _ _ h _=>h) kA (zW zD zKs (fun u0 u1 W hb (h0:u0=(.slice (some ⟨gg,0,none⟩) N N)) (h1:u1=.int .i64 ((js.getD y.1 (0,0)).1))=>zKp h0 h1))) (fun e W h=>absurd h e))<|oc (zB 27 ((js.getD y.1 (0,0)).1==(js.getD y.1 (0,0)).2) kA iiz (fun e=>zI [(31,(uB (yU N (js.getD y.1 (0,0)).1)).tS)] ((uB (!(yU N (js.getD y.1 (0,0)).1))).tS) (sH (fun v W h=>zG (c:=((js.getD y.1 (0,0)).1==(js.getD y.1 (0,0)).2)=false) (f:=(uB (yU N (js.getD y.1 (0,0)).1)).tS) e h) fnz) (fun _ _ h _=>h) kA (zAv (yU N (js.getD y.1 (0,0)).1) iiz (fun _=>rfl))) (fun e W h=>absurd h e))<|oc (zT ((js.getD y.1 (0,0)).1==(js.getD y.1 (0,0)).2) iiz (fun e v W h=>qH h e) (fun e v W h=>yX (zG e h) e))<|oc zA<|oc (zB 34 (((js.getD y.1 (0,0)).1==(js.getD y.1 (0,0)).2)||(!(yU N (js.getD y.1 (0,0)).1))) kA iiz (fun e=>zI [] ((UF.eq (.slice (some ⟨gg,0,none⟩) N N)).tS) fnz (fun _ _ h _=>h) kA zA) (fun e W h=>absurd h e))<|oc (zB 34 (((js.getD y.1 (0,0)).1==(js.getD y.1 (0,0)).2)||(!(yU N (js.getD y.1 (0,0)).1))) kA iiz (fun e=>zI [] (wB ((CU.agg (fJn (js.getD y.1 (0,0)))).cf.at 1)) fnz (fun _ _ h _=>h) kA (zO (C:=cg (fJn (js.getD y.1 (0,0)))) 1 kA)) (fun e W h=>absurd h e))<|oc (zB 34 (((js.getD y.1 (0,0)).1==(js.getD y.1 (0,0)).2)||(!(yU N (js.getD y.1 (0,0)).1))) kA iiz (fun e=>zI [(36,wB ((CU.agg (fJn (js.getD y.1 (0,0)))).cf.at 1))] ((uI ((js.getD y.1 (0,0)).2)).tS) (sH (fun v W h=>zG (c:=(((js.getD y.1 (0,0)).1==(js.getD y.1 (0,0)).2)||(!(yU N (js.getD y.1 (0,0)).1)))=false) (f:=wB ((CU.agg (fJn (js.getD y.1 (0,0)))).cf.at 1)) e h) fnz) (fun _ _ h _=>h) kA (yK (C:=cg (fJn (js.getD y.1 (0,0)))) (k:=1) kA (h:=zQI))) (fun e W h=>absurd h e))<|oc (zB 34 (((js.getD y.1 (0,0)).1==(js.getD y.1 (0,0)).2)||(!(yU N (js.getD y.1 (0,0)).1))) kA iiz (fun e=>zI [(35,(UF.eq (.slice (some ⟨gg,0,none⟩) N N)).tS),(37,(uI ((js.getD y.1 (0,0)).2)).tS)] ((uB (yU N (js.getD y.1 (0,0)).2)).tS) (sH (fun v W h=>zG (c:=(((js.getD y.1 (0,0)).1==(js.getD y.1 (0,0)).2)||(!(yU N (js.getD y.1 (0,0)).1)))=false) (f:=(UF.eq (.slice (some ⟨gg,0,none⟩) N N)).tS) e h)<|sH (fun v W h=>zG (c:=(((js.getD y.1 (0,0)).1==(js.getD y.1 (0,0)).2)||(!(yU N (js.getD y.1 (0,0)).1)))=false) (f:=(uI ((js.getD y.1 (0,0)).2)).tS) e h) fnz) (fun _ _ h _=>h) kA (zW zD zKs (fun u0 u1 W hb (h0:u0=(.slice (some ⟨gg,0,none⟩) N N)) (h1:u1=.int .i64 ((js.getD y.1 (0,0)).2))=>zKp h0 h1))) (fun e W h=>absurd h e))<|oc (zB 34 (((js.getD y.1 (0,0)).1==(js.getD y.1 (0,0)).2)||(!(yU N (js.getD y.1 (0,0)).1))) kA iiz (fun e=>zI [(38,(uB (yU N (js.getD y.1 (0,0)).2)).tS)] ((uB (!(yU N (js.getD y.1 (0,0)).2))).tS) (sH (fun v W h=>zG (c:=(((js.getD y.1 (0,0)).1==(js.getD y.1 (0,0)).2)||(!(yU N (js.getD y.1 (0,0)).1)))=false) (f:=(uB (yU N (js.getD y.1 (0,0)).2)).tS) e h) fnz) (fun _ _ h _=>h) kA (zAv (yU N (js.getD y.1 (0,0)).2) iiz (fun _=>rfl))) (fun e W h=>absurd h e))<|oc (zT (((js.getD y.1 (0,0)).1==(js.getD y.1 (0,0)).2)||(!(yU N (js.getD y.1 (0,0)).1))) iiz (fun e v W h=>qH h e) (fun e v W h=>yX (zG e h) e))<|zC) fun a w6 s=>StS.cond s ((((js.getD y.1 (0,0)).1==(js.getD y.1 (0,0)).2)||(!(yU N (js.getD y.1 (0,0)).1)))||(!(yU N (js.getD y.1 (0,0)).2))) iiz (fun e=>?_) (fun e=>?_)
  .have qo:zBU N (js.getD y.1 (0,0))=false:=by unfold zBU;rw[rQ];simpa[or_assoc]using e
   refine rG<|zP 1 ((89,.u (uI ((y.1+1:Nat):Int)))::[]) s kA
    (oc (yL .i64 (y.1:Int) 1 ((y.1+1:Nat):Int) iiz iiz (wrap64 _ _ oA oA))<|zC) fun a w7 s=>?_
   replace s:=s.drop [17]
   refine zBD (uI ((y.1+1:Nat):Int)) rfl s kA zA kA fun a w s=>zF rfl ?_
   have hb:=s.below
   replace I:=I.trans (hb.mono I.size)
   replace J:=J.below hb
   replace s:=s.popB
   replace s:=s.anewB rfl rfl
   have qt:jX N js fs (y.1+1)=jX N js fs y.1:=by rw[zBR];unfold zFn;rw[qo];simp
   exact⟨(y.1+1,y.2),(by show js.length-(y.1+1)<js.length-y.1;omega),q6,I,(by rw[qt];exact J),s.keepK _ (sH mz7<|sH mz8<|sH mz9<|sH zC1<|sH (.head _) fnz)⟩
  .have qo:zBU N (js.getD y.1 (0,0))=true:=by unfold zBU;simpa using e
   refine nQ<|fK<|rgK 1 ((41,.u (fQN 0))::[]) s
    (oc (zK zD zHM (fun u0 W hb (h0:u0=.int .i64 0)=>zDS h0))<|zC) fun a w8 s=>yP (CU.len 3) (cs:=zR3) kA rfl s kA (fun W=>rfl) rfl fun hr a w s=>yI (fQN 0) rfl s yO fun a w s=>zF rfl<|fK<|rgQ ((42,.Z (uI (y.1:Int)))::(43,.Z (UF.eq lf))::(44,.Z (uI ((rvs 1 fs).length:Int)))::(45,.Z (uB (decide ((y.1:Int)<((rvs 1 fs).length:Int)))))::(46,.Z (uB (decide ((y.1:Int)<((rvs 1 fs).length:Int)))))::(47,.s (SF.imp ((decide ((y.1:Int)<((rvs 1 fs).length:Int)))=true) ((UF.eq lf).tS)))::(48,.s (SF.imp ((decide ((y.1:Int)<((rvs 1 fs).length:Int)))=true) ((uI (y.1:Int)).tS)))::(49,.s (SF.imp ((decide ((y.1:Int)<((rvs 1 fs).length:Int)))=true) (wB (cg (fRV 1 (fs.getD y.1 0))))))::(50,.s (SF.imp ((decide ((y.1:Int)<((rvs 1 fs).length:Int)))=true) ((fRV 1 (fs.getD y.1 0)).tS)))::(51,.s (SF.imp ((decide ((y.1:Int)<((rvs 1 fs).length:Int)))=true) ((uI ((fs.getD y.1 0).num.sign)).tS)))::(52,.s (SF.imp ((decide ((y.1:Int)<((rvs 1 fs).length:Int)))=true) ((uB (decide ((fs.getD y.1 0).num.sign>0))).tS)))::(53,.u (uB ((decide ((y.1:Int)<((rvs 1 fs).length:Int)))&&(decide ((fs.getD y.1 0).num.sign>0)))))::[]) s
    (oc zA<|oc zA<|oc (qZ (z:=3) (Cs:=rvs 1 fs) kA (y7 xa s) (fun _=>rfl))<|oc (zJ .i64 (y.1:Int) ((rvs 1 fs).length:Int) (decide ((y.1:Int)<((rvs 1 fs).length:Int))) iiz iiz rfl rfl)<|oc zA<|oc (zB 46 (decide ((y.1:Int)<((rvs 1 fs).length:Int))) kA iiz (fun e=>zI [] ((UF.eq lf).tS) fnz (fun _ _ h _=>h) kA zA) (fun e W h=>absurd h e))<|oc (zB 46 (decide ((y.1:Int)<((rvs 1 fs).length:Int))) kA iiz (fun e=>zI [] ((uI (y.1:Int)).tS) fnz (fun _ _ h _=>h) kA zA) (fun e W h=>absurd h e))<|oc (zB 46 (decide ((y.1:Int)<((rvs 1 fs).length:Int))) kA iiz (fun e=>zI [(47,(UF.eq lf).tS),(48,(uI (y.1:Int)).tS)] (wB (cg (fRV 1 (fs.getD y.1 0)))) (sH (fun v W h=>zG (c:=(decide ((y.1:Int)<((rvs 1 fs).length:Int)))=true) (f:=(UF.eq lf).tS) e h)<|sH (fun v W h=>zG (c:=(decide ((y.1:Int)<((rvs 1 fs).length:Int)))=true) (f:=(uI (y.1:Int)).tS) e h) fnz) (fun _ _ h _=>h) kA (zL (z:=3) (Cs:=rvs 1 fs) (i:=y.1) (C:=CU.agg (fRV 1 (fs.getD y.1 0))) kA (zEH (k:=y.1) (by first|exact xg|(have h7:=xW e;simp only[xT]at h7;omega))) (y7 xa s) iiz)) (fun e W h=>absurd h e))<|oc (zB 46 (decide ((y.1:Int)<((rvs 1 fs).length:Int))) kA iiz (fun e=>zI [(49,wB (cg (fRV 1 (fs.getD y.1 0))))] ((fRV 1 (fs.getD y.1 0)).tS) (sH (fun v W h=>zG (c:=(decide ((y.1:Int)<((rvs 1 fs).length:Int)))=true) (f:=wB (cg (fRV 1 (fs.getD y.1 0)))) e h) fnz) (fun _ _ h _=>h) kA (yJ (f:=fRV 1 (fs.getD y.1 0)) 3 kA (hz:=zBu _ _))) (fun e W h=>absurd h e))<|oc (zB 46 (decide ((y.1:Int)<((rvs 1 fs).length:Int))) kA iiz (fun e=>zI [(50,(fRV 1 (fs.getD y.1 0)).tS)] ((uI ((fs.getD y.1 0).num.sign)).tS) (sH (fun v W h=>zG (c:=(decide ((y.1:Int)<((rvs 1 fs).length:Int)))=true) (f:=(fRV 1 (fs.getD y.1 0)).tS) e h) fnz) (fun _ _ h _=>h) kA (zK zD zTB (fun u0 W hb (h0:RVp 1 (fs.getD y.1 0) u0 W)=>zP5 (m:=1) h0 dA dA (xb.below (s.up hb))))) (fun e W h=>absurd h e))<|oc (zB 46 (decide ((y.1:Int)<((rvs 1 fs).length:Int))) kA iiz (fun e=>zI [(51,(uI ((fs.getD y.1 0).num.sign)).tS)] ((uB (decide ((fs.getD y.1 0).num.sign>0))).tS) (sH (fun v W h=>zG (c:=(decide ((y.1:Int)<((rvs 1 fs).length:Int)))=true) (f:=(uI ((fs.getD y.1 0).num.sign)).tS) e h) fnz) (fun _ _ h _=>h) kA (zJ .i64 ((fs.getD y.1 0).num.sign) 0 (decide ((fs.getD y.1 0).num.sign>0)) iiz iiz rfl rfl)) (fun e W h=>absurd h e))<|oc (zT (decide ((y.1:Int)<((rvs 1 fs).length:Int))) iiz (fun e v W h=>zBH (zG e h) e) (fun e v W h=>zBc h e))<|zC) fun a w9 s=>zS6 (fun a w=>St wl [(2,.u (UF.eq lf)),(7,.u (UF.eq (.slice (some ⟨gg,0,none⟩) N N))),(8,.u (uI (y.1:Int))),(15,.u (UF.eq lj)),(16,.u (uI ((jns js).length:Int))),(17,.u (uI (y.1:Int)))] [⟨10,32,CU.agg (fQN (zFd fs y.1)),hr,false⟩,⟨9,47,CU.agg (fJn (js.getD y.1 (0,0))),b9,false⟩] f29.ntmps [] a w) ?_ ?_
   .refine StS.cond s ((decide ((y.1:Int)<((rvs 1 fs).length:Int)))&&(decide ((fs.getD y.1 0).num.sign>0))) iiz (fun e=>?_) (fun e=>?_)
    .have xg:y.1<fs.length:=by have h7:=xW (rR.1 e).1;simp only[xT]at h7;omega
     have qh:(zFd fs y.1)=(fs.getD y.1 0):=by unfold zFd;rw[if_pos];simp only[xU,zEd,bE]at e;exact e.2
     refine rgK 5 ((54,.Z (UF.eq lf))::(55,.Z (uI (y.1:Int)))::(56,.Y (fRV 1 (fs.getD y.1 0)))::(57,.Z (fRV 1 (fs.getD y.1 0)))::(58,.u (fQN (fs.getD y.1 0)))::[]) s
      (oc zA<|oc zA<|oc (zL (z:=3) (Cs:=rvs 1 fs) (i:=y.1) (C:=CU.agg (fRV 1 (fs.getD y.1 0))) kA (zEH (k:=y.1) (by first|exact xg|(have h7:=xW e;simp only[xT]at h7;omega))) (y7 xa s) iiz)<|oc (yJ (f:=fRV 1 (fs.getD y.1 0)) 3 kA (hz:=zBu _ _))<|oc (zK zD zTA (fun u0 W hb (h0:RVp 1 (fs.getD y.1 0) u0 W)=>zP7 (m:=1) h0 dA dA (xb.below (s.up hb))))<|zC) fun a w10 s=>zBs (CU.agg (fQN (fs.getD y.1 0))) ((fQN (fs.getD y.1 0)).tS) rfl s kA rfl rfl rfl (yV _) iiz yO fun a w s=>zF rfl ?_
     rw[qh]
     exact s.keepK _ (sH mz8<|sH mz9<|sH mz4<|sH zC1<|sH zDW<|sH zFl fnz)
    .have qh:(zFd fs y.1)=0:=by
      unfold zFd
      refine if_neg fun h0=>?_
      rw[zEd,eY h0,Bool.and_true]at e
      have e6:=mB e
      simp only[xT]at e6
      have e7:fs.length<=y.1:=oA
      rw[nX,uX e7]at h0
      exact absurd h0 dA
     refine nQ ?_
     rw[qh]
     exact s.keepK _ (sH mz7<|sH mz8<|sH mz3<|sH mz9<|sH zC1<|sH zDW fnz)
   .intro a w s
    have hb:=s.below
    replace I:=I.trans (hb.mono I.size)
    replace J:=J.below hb
    obtain⟨far,efar⟩:∃q,(zFd fs y.1)=q:=⟨_,rfl⟩
    rw[efar]at s
    obtain⟨q4,h5,q5,-⟩:=s.boxAt (c:=10) rfl
    obtain⟨c9,h9,e9,-⟩:=s.boxAt (c:=9) rfl
    replace h5:w.heap[hr]?=some (.cells q4.toArray 32 (0,0)):=h5
    replace h9:w.heap[b9]?=some (.cells c9.toArray 47 (0,0)):=h9
    replace s:=(s.learn 9 _ (s.bx.mem _ mz1).choose_spec.1).learn 10 _ (s.bx.mem _ (.head _)).choose_spec.1
    replace s:=s.popB
    replace s:=s.popB
    replace s:=s.anewB rfl rfl
    obtain⟨hl10,ha⟩:0+3<=q4.length/\QNp far (.agg ((q4.drop 0).take 3).toArray) w:=by have h7:=yV far q4 w q5;exact⟨oA,by rw[mH,mJ oA];exact q5⟩
    have xd:=zEr e9
    obtain⟨hne,y1,xr⟩:=zC3 qo
    obtain⟨hV,xk⟩:=y5 y1
    obtain⟨hX,xh⟩:=y5 xr
    obtain⟨a_,ea⟩:∃a,(js.getD y.1 (0,0)).1.toNat=a:=⟨_,rfl⟩
    obtain⟨b_,eb⟩:∃b,(js.getD y.1 (0,0)).2.toNat=b:=⟨_,rfl⟩
    rw[ea]at hV xk
    rw[eb]at hX xh
    have x5:c9[0]?=some (.int .i64 (a_:Int)):=by rw[xd,xk];rfl
    have qy:c9[1]?=some (.int .i64 (b_:Int)):=by rw[xd,xh];rfl
    have ql:=zBN N js fs y.1
    refine fK ?_
    have hJ:∀q,(y.2.getD a_ (.slice none 0 0)).ownBlock=some q->q≠gg/\W.heap.size<=q/\q<w.heap.size:=fun q hq=>J.ne hV hq
    have hW:=(xP.1 h9).1
    have hI:=(xP.1 h5).1
    have hG:∀q,(y.2.getD a_ (.slice none 0 0)).ownBlock=some q->b9≠q/\hr≠q:=fun q hq=>by
     obtain⟨_,c,g1,_⟩:=qP (J.rows a_ hV) hq
     exact⟨zX h9 g1 dA,zX h5 g1 dA⟩
    have qc:b9≠gg:=zX h9 J.rw.at.choose_spec dA
    have hU:hr≠gg:=zX h5 J.rw.at.choose_spec dA
    have q2:a_<y.2.length:=by rw[J.ln];exact hV
    have qe:(ros (zH (jX N js fs y.1) a_)).length+1<=140000000000:=by have h1:=zDN (jX N js fs y.1) a_;have h2:=ql;simp only[xT]at h1 h2 ⊢;omega
    have qu:=I.size
    refine zA2 (w:=w) (n:=f29.ntmps) (AdE w W.heap.size gg N N b9 0 1 a_ b_ (y.2.getD a_ (.slice none 0 0)) (ros (zH (jX N js fs y.1) a_)) far) (AdC w W.heap.size (y.2.getD a_ (.slice none 0 0)) (ros (zH (jX N js fs y.1) a_))) (AdR (y.2.getD a_ (.slice none 0 0))) 14 hmix s.size kA (fun i l U V hi hl _ hC hR=>hC.next (by rw[hl];show i<16;omega) hR) (fun i j v U V _ hj x7 hE hR=>hE.keep (fun q hq=>(hJ q hq).2.2) x7 hj hR) (fun l U _ hb=>⟨zAg hb,zN hb,fun _=>(J.rows a_ hV).below hb⟩) (fun i o hi ho l a' U hf qx O Kk hK=>?_) (fun Q' hQ a' w' hC qv x4 he hv=>?_)
    .have q3:=(hf.cls.fr.block b9 hW (fun h=>(hG _ h).1 rfl)).trans h9
     have qg:=(hf.cls.fr.block hr hI (fun h=>(hG _ h).2 rfl)).trans h5
     have x1:=(hf.cls.fr.block gg J.rw.lt (fun h=>(hJ _ h).1 rfl))
     have qj:=hf.cls.fr.size
     have k7:a'.eval (.tmp 7)=(.slice (some ⟨gg,0,none⟩) N N):=(hf.keep 7 (fun j hj=>yY (k:=14) kA j hj)).trans (s.val mz3)
     have k9:a'.eval (.tmp 9)= (pO b9 0):=(hf.keep 9 (fun j hj=>yY (k:=14) kA j hj)).trans (s.val mz1)
     have x6:a'.eval (.tmp 10)= (pO hr 0):=(hf.keep 10 (fun j hj=>yY (k:=14) kA j hj)).trans (s.val (.head _))
     have h0:AdR (y.2.getD a_ (.slice none 0 0)) i U U:=.no (xF _ _)
     have x9:i=0∨i=1∨i=2∨i=3∨i=4∨i=5∨i=6∨i=7∨i=8∨i=9∨i=10∨i=11∨i=12∨i=13:=oA
     rcases x9 with rfl|rfl|rfl|rfl|rfl|rfl|rfl|rfl|rfl|rfl|rfl|rfl|rfl|rfl<;>obtain rfl:=mE ho
     .exact yE ho (fun _ e=>by cases e) (fun _ e=>by cases e) (zEI k7) (hK _ U rfl h0)
     .exact yE ho (fun _ e=>by cases e) (fun _ e=>by cases e) (zBM 0 kA k9) (hK _ U rfl h0)
     .have e1:a'.eval (.tmp 60)= (pO b9 0):=hf.vals 1 dA (yF O kA) 60 rfl
      exact yE ho (fun _ e=>by cases e) (fun _ e=>by cases e) (zBb (cs:=c9) (o:=0) kA e1 q3 x5) (hK _ U rfl h0)
     .exact yE ho (fun _ e=>by cases e) (fun _ e=>by cases e) (zEI k7) (hK _ U rfl h0)
     .exact yE ho (fun _ e=>by cases e) (fun _ e=>by cases e) (zBM 0 kA k9) (hK _ U rfl h0)
     .have e4:a'.eval (.tmp 63)= (pO b9 0):=hf.vals 4 dA (yF O kA) 63 rfl
      exact yE ho (fun _ e=>by cases e) (fun _ e=>by cases e) (zBb (cs:=c9) (o:=0) kA e4 q3 x5) (hK _ U rfl h0)
     .have e3:a'.eval (.tmp 62)=(.slice (some ⟨gg,0,none⟩) N N):=hf.vals 3 dA (yF O kA) 62 rfl
      have e5:a'.eval (.tmp 64)=.int .i64 (a_:Int):=hf.vals 5 dA (yF O kA) 64 rfl
      exact yE ho (fun _ e=>by cases e) (fun _ e=>by cases e) (zEK (z:=1) kA hV e3 e5) (hK _ U rfl h0)
     .have e6:a'.eval (.tmp 65)=.pointer (some ⟨gg,a_*1,none⟩):=hf.vals 6 dA (yF O kA) 65 rfl
      obtain⟨cs,g1,g2⟩:=zLa J.rw (zDy q2)
      exact yE ho (fun _ e=>by cases e) (fun _ e=>by cases e) (zBb (cs:=cs) kA e6 (x1.trans g1) g2) (hK _ U rfl h0)
     .exact yE ho (fun _ e=>by cases e) (fun _ e=>by cases e) (zBM 1 kA k9) (hK _ U rfl h0)
     .have e8:a'.eval (.tmp 67)= (pO b9 1):=hf.vals 8 dA (yF O kA) 67 rfl
      exact yE ho (fun _ e=>by cases e) (fun _ e=>by cases e) (zBb (cs:=c9) (o:=1) kA e8 q3 qy) (hK _ U rfl h0)
     .exact yE ho (fun _ e=>by cases e) (fun _ e=>by cases e) (zF5 (cs:=q4) (o:=0) (k:=3) kA x6 qg hl10) (hK _ U ((fQN far).us _ _ _ ha hf.cls.kp) h0)
     .have e9:a'.eval (.tmp 68)=.int .i64 (b_:Int):=hf.vals 9 dA (yF O kA) 68 rfl
      have q5:QNp far (a'.eval (.tmp 69)) U:=hf.vals 10 dA (yF O kA) 69 rfl
      obtain⟨cells,g1,g2⟩:=zUg (x:=(b_,far)) e9 q5
      exact yE ho (fun _ e=>by cases e) (fun _ e=>by cases e) (zK7 g1) (hK _ U g2 h0)
     .have x0:(fRo (b_,far)).p (a'.eval (.tmp 70)) U:=hf.vals 11 dA (yF O kA) 70 rfl
      obtain⟨cs,g1,g2⟩:=zOY x0
      exact yE ho (fun _ e=>by cases e) (fun _ e=>by cases e) (zI2 g1) (hK _ _ ⟨_,rfl,qj,g2⟩ (.no (j5 _ _)))
     .obtain⟨g,x2,hg,qa⟩:=hf.vals 12 dA (yF O kA) 71 rfl
      have e7:a'.eval (.tmp 66)=(y.2.getD a_ (.slice none 0 0)):=hf.vals 7 dA (yF O kA) 66 rfl
      exact opn ho rfl (zEg (z:=4) (e:=67) (base:=W.heap.size) (v:=(y.2.getD a_ (.slice none 0 0))) (Cs:=(ros (zH (jX N js fs y.1) a_))) (Ds:=[CU.agg (fRo (b_,far))]) kA (hf.cls.ca qx) e7 (by rw[show a'.eval (.tmp 71)=_ from x2];exact qa.row rfl) (fun C hC=>by obtain rfl:=nY.1 hC;exact zRA _) qe oA fun v' V h1 h2 h3 h4=>hK v' V ⟨h1,h4.imp_right fun e=>⟨_,e,qj⟩⟩ ⟨h2.sub fun q hq=>⟨rfl,hq⟩,h3⟩)
    obtain⟨hw,hM,-⟩:=hC
    have e0:a'.tmps.getD 59 undef=(.slice (some ⟨gg,0,none⟩) N N):=hv 0 dA 59 rfl
    have e2:a'.tmps.getD 61 undef=.int .i64 (a_:Int):=hv 2 dA 61 rfl
    obtain⟨hc,hF⟩:=hv 13 dA 72 rfl
    obtain⟨v1,e13⟩:∃v,a'.tmps.getD 72 undef=v:=⟨_,rfl⟩
    rw[e13]at hc hF
    replace h9:=(hw.block b9 hW (fun h=>(hG _ h).1 rfl)).trans h9
    replace h5:=(hw.block hr hI (fun h=>(hG _ h).2 rfl)).trans h5
    replace ha:=(fQN far).us _ _ _ ha hM
    have hO:=J.rw.keep (hw.block gg J.rw.lt (fun h=>(hJ _ h).1 rfl)) hM
    replace I:=yD I hw (fun q hq=>(hJ q hq).2.1)
    have hZ:=zBG hc
    replace s:St w' [(59,.u (UF.eq (.slice (some ⟨gg,0,none⟩) N N))),(61,.u (uI (a_:Int))),(72,.u (UF.eq v1)),(10,.u (UF.eq (pO hr 0))),(9,.u (UF.eq (pO b9 0))),(2,.u (UF.eq lf)),(7,.u (UF.eq (.slice (some ⟨gg,0,none⟩) N N))),(8,.u (uI (y.1:Int))),(15,.u (UF.eq lj)),(16,.u (uI ((jns js).length:Int))),(17,.u (uI (y.1:Int)))] [] f29.ntmps [] a' w':=wV qv (x4.trans s.nd) (sH ⟨_,rfl,e0⟩<|sH ⟨_,rfl,e2⟩<|sH ⟨_,rfl,e13⟩<|sH ⟨_,rfl,(he 10 (fun j hj=>yY (k:=14) kA j hj)).trans (s.val (.head _))⟩<|sH ⟨_,rfl,(he 9 (fun j hj=>yY (k:=14) kA j hj)).trans (s.val mz1)⟩<|sH ⟨_,rfl,(he 2 (fun j hj=>yY (k:=14) kA j hj)).trans (s.val mz2)⟩<|sH ⟨_,rfl,(he 7 (fun j hj=>yY (k:=14) kA j hj)).trans (s.val mz3)⟩<|sH ⟨_,rfl,(he 8 (fun j hj=>yY (k:=14) kA j hj)).trans (s.val mz4)⟩<|sH ⟨_,rfl,(he 15 (fun j hj=>yY (k:=14) kA j hj)).trans (s.val mz5)⟩<|sH ⟨_,rfl,(he 16 (fun j hj=>yY (k:=14) kA j hj)).trans (s.val mz6)⟩<|sH ⟨_,rfl,(he 17 (fun j hj=>yY (k:=14) kA j hj)).trans (s.val mz7)⟩ fnz)
    refine zBD (UF.eq (.pointer (some ⟨gg,a_*1,none⟩))) rfl s kA (qQ (z:=1) (g:=gg) (nn:=N) (cap:=N) (i:=a_) kA hV iiz iiz) kA fun a w s=>?_
    have hb:=s.below
    replace h9:=(hb.block b9 (xP.1 h9).1).trans h9
    replace h5:=(hb.block hr (xP.1 h5).1).trans h5
    replace ha:=(fQN far).us _ _ _ ha (zN hb)
    have hS:=hw.trans hb
    have hP:=hM.trans (zN hb)
    replace hc:=hc.below hb
    replace hO:=hO.below hb
    replace I:=I.trans (hb.mono I.size)
    replace s:=s.anewB rfl rfl
    refine zAF (g:=gg) (i:=a_) (cap:=N) (z:=1) (e:=65) (wC [v1]) rfl s rfl rfl hO (by simpa using q2) kA (s.fct (.tmp 73)) (jY (s.fct (.tmp 72)) hZ.1 hZ.2.1 hZ.2.2) (fun q hq=>by cases hq) fun w hL q1 q0 s=>?_
    rw[zKX]at q0
    replace J:=J.add hV hS hP hc hF hL q1 q0
    replace h9:=(hL.block b9 (xP.1 h9).1 qc).trans h9
    replace h5:=(hL.block hr (xP.1 h5).1 hU).trans h5
    replace ha:=(fQN far).us _ _ _ ha q1
    replace I:=yD I hL (fun q hq=>by rw[hq];exact qq)
    clear hJ hG qc hU q2 qe qu hO hw hM hS hP hL q1 q0 hc hF e0 e2 hv he
    refine zF rfl (hQ _ _ ?_)
    clear hQ
    replace s:=s.drop [73,59,61,72]
    have hrl1:=ql
    replace ql:(jX N js fs y.1++ [(a_,(b_,far))]).length<=2*y.1+1:=by rw[uD];simp only[rI];omega
    have hJ:∀q,((y.2.set a_ v1).getD b_ (.slice none 0 0)).ownBlock=some q->q≠gg/\W.heap.size<=q/\q<w.heap.size:=fun q hq=>J.ne hX hq
    have hW:=(xP.1 h9).1
    have hI:=(xP.1 h5).1
    have hG:∀q,((y.2.set a_ v1).getD b_ (.slice none 0 0)).ownBlock=some q->b9≠q/\hr≠q:=fun q hq=>by
     obtain⟨_,c,g1,_⟩:=qP (J.rows b_ hX) hq
     exact⟨zX h9 g1 dA,zX h5 g1 dA⟩
    have qc:b9≠gg:=zX h9 J.rw.at.choose_spec dA
    have hU:hr≠gg:=zX h5 J.rw.at.choose_spec dA
    have q2:b_<(y.2.set a_ v1).length:=by rw[J.ln];exact hX
    have qe:(ros (zH (jX N js fs y.1++ [(a_,(b_,far))]) b_)).length+1<=140000000000:=by have h1:=zDN (jX N js fs y.1++ [(a_,(b_,far))]) b_;have h2:=ql;simp only[xT]at h1 h2 ⊢;omega
    have qu:=I.size
    refine zA2 (w:=w) (n:=f29.ntmps) (AdE w W.heap.size gg N N b9 1 0 b_ a_ ((y.2.set a_ v1).getD b_ (.slice none 0 0)) (ros (zH (jX N js fs y.1++ [(a_,(b_,far))]) b_)) far) (AdC w W.heap.size ((y.2.set a_ v1).getD b_ (.slice none 0 0)) (ros (zH (jX N js fs y.1++ [(a_,(b_,far))]) b_))) (AdR ((y.2.set a_ v1).getD b_ (.slice none 0 0))) 14 hmix s.size kA (fun i l U V hi hl _ hC hR=>hC.next (by rw[hl];show i<16;omega) hR) (fun i j v U V _ hj x7 hE hR=>hE.keep (fun q hq=>(hJ q hq).2.2) x7 hj hR) (fun l U _ hb=>⟨zAg hb,zN hb,fun _=>(J.rows b_ hX).below hb⟩) (fun i o hi ho l a' U hf qx O Kk hK=>?_) (fun Q' hQ a' w' hC qv x4 he hv=>?_)
    .have q3:=(hf.cls.fr.block b9 hW (fun h=>(hG _ h).1 rfl)).trans h9
     have qg:=(hf.cls.fr.block hr hI (fun h=>(hG _ h).2 rfl)).trans h5
     have x1:=(hf.cls.fr.block gg J.rw.lt (fun h=>(hJ _ h).1 rfl))
     have qj:=hf.cls.fr.size
     have k7:a'.eval (.tmp 7)=(.slice (some ⟨gg,0,none⟩) N N):=(hf.keep 7 (fun j hj=>yY (k:=14) kA j hj)).trans (s.val mz3)
     have k9:a'.eval (.tmp 9)= (pO b9 0):=(hf.keep 9 (fun j hj=>yY (k:=14) kA j hj)).trans (s.val mz1)
     have x6:a'.eval (.tmp 10)= (pO hr 0):=(hf.keep 10 (fun j hj=>yY (k:=14) kA j hj)).trans (s.val (.head _))
     have h0:AdR ((y.2.set a_ v1).getD b_ (.slice none 0 0)) i U U:=.no (xF _ _)
     have x9:i=0∨i=1∨i=2∨i=3∨i=4∨i=5∨i=6∨i=7∨i=8∨i=9∨i=10∨i=11∨i=12∨i=13:=oA
     rcases x9 with rfl|rfl|rfl|rfl|rfl|rfl|rfl|rfl|rfl|rfl|rfl|rfl|rfl|rfl<;>obtain rfl:=mE ho
     .exact yE ho (fun _ e=>by cases e) (fun _ e=>by cases e) (zEI k7) (hK _ U rfl h0)
     .exact yE ho (fun _ e=>by cases e) (fun _ e=>by cases e) (zBM 1 kA k9) (hK _ U rfl h0)
     .have e1:a'.eval (.tmp 75)= (pO b9 1):=hf.vals 1 dA (yF O kA) 75 rfl
      exact yE ho (fun _ e=>by cases e) (fun _ e=>by cases e) (zBb (cs:=c9) (o:=1) kA e1 q3 qy) (hK _ U rfl h0)
     .exact yE ho (fun _ e=>by cases e) (fun _ e=>by cases e) (zEI k7) (hK _ U rfl h0)
     .exact yE ho (fun _ e=>by cases e) (fun _ e=>by cases e) (zBM 1 kA k9) (hK _ U rfl h0)
     .have e4:a'.eval (.tmp 78)= (pO b9 1):=hf.vals 4 dA (yF O kA) 78 rfl
      exact yE ho (fun _ e=>by cases e) (fun _ e=>by cases e) (zBb (cs:=c9) (o:=1) kA e4 q3 qy) (hK _ U rfl h0)
     .have e3:a'.eval (.tmp 77)=(.slice (some ⟨gg,0,none⟩) N N):=hf.vals 3 dA (yF O kA) 77 rfl
      have e5:a'.eval (.tmp 79)=.int .i64 (b_:Int):=hf.vals 5 dA (yF O kA) 79 rfl
      exact yE ho (fun _ e=>by cases e) (fun _ e=>by cases e) (zEK (z:=1) kA hX e3 e5) (hK _ U rfl h0)
     .have e6:a'.eval (.tmp 80)=.pointer (some ⟨gg,b_*1,none⟩):=hf.vals 6 dA (yF O kA) 80 rfl
      obtain⟨cs,g1,g2⟩:=zLa J.rw (zDy q2)
      exact yE ho (fun _ e=>by cases e) (fun _ e=>by cases e) (zBb (cs:=cs) kA e6 (x1.trans g1) g2) (hK _ U rfl h0)
     .exact yE ho (fun _ e=>by cases e) (fun _ e=>by cases e) (zBM 0 kA k9) (hK _ U rfl h0)
     .have e8:a'.eval (.tmp 82)= (pO b9 0):=hf.vals 8 dA (yF O kA) 82 rfl
      exact yE ho (fun _ e=>by cases e) (fun _ e=>by cases e) (zBb (cs:=c9) (o:=0) kA e8 q3 x5) (hK _ U rfl h0)
     .exact yE ho (fun _ e=>by cases e) (fun _ e=>by cases e) (zF5 (cs:=q4) (o:=0) (k:=3) kA x6 qg hl10) (hK _ U ((fQN far).us _ _ _ ha hf.cls.kp) h0)
     .have e9:a'.eval (.tmp 83)=.int .i64 (a_:Int):=hf.vals 9 dA (yF O kA) 83 rfl
      have q5:QNp far (a'.eval (.tmp 84)) U:=hf.vals 10 dA (yF O kA) 84 rfl
      obtain⟨cells,g1,g2⟩:=zUg (x:=(a_,far)) e9 q5
      exact yE ho (fun _ e=>by cases e) (fun _ e=>by cases e) (zK7 g1) (hK _ U g2 h0)
     .have x0:(fRo (a_,far)).p (a'.eval (.tmp 85)) U:=hf.vals 11 dA (yF O kA) 85 rfl
      obtain⟨cs,g1,g2⟩:=zOY x0
      exact yE ho (fun _ e=>by cases e) (fun _ e=>by cases e) (zI2 g1) (hK _ _ ⟨_,rfl,qj,g2⟩ (.no (j5 _ _)))
     .obtain⟨g,x2,hg,qa⟩:=hf.vals 12 dA (yF O kA) 86 rfl
      have e7:a'.eval (.tmp 81)=((y.2.set a_ v1).getD b_ (.slice none 0 0)):=hf.vals 7 dA (yF O kA) 81 rfl
      exact opn ho rfl (zEg (z:=4) (e:=67) (base:=W.heap.size) (v:=((y.2.set a_ v1).getD b_ (.slice none 0 0))) (Cs:=(ros (zH (jX N js fs y.1++ [(a_,(b_,far))]) b_))) (Ds:=[CU.agg (fRo (a_,far))]) kA (hf.cls.ca qx) e7 (by rw[show a'.eval (.tmp 86)=_ from x2];exact qa.row rfl) (fun C hC=>by obtain rfl:=nY.1 hC;exact zRA _) qe oA fun v' V h1 h2 h3 h4=>hK v' V ⟨h1,h4.imp_right fun e=>⟨_,e,qj⟩⟩ ⟨h2.sub fun q hq=>⟨rfl,hq⟩,h3⟩)
    obtain⟨hw,hM,-⟩:=hC
    have e0:a'.tmps.getD 74 undef=(.slice (some ⟨gg,0,none⟩) N N):=hv 0 dA 74 rfl
    have e2:a'.tmps.getD 76 undef=.int .i64 (b_:Int):=hv 2 dA 76 rfl
    obtain⟨hc,hF⟩:=hv 13 dA 87 rfl
    obtain⟨v2,e13⟩:∃v,a'.tmps.getD 87 undef=v:=⟨_,rfl⟩
    rw[e13]at hc hF
    replace h9:=(hw.block b9 hW (fun h=>(hG _ h).1 rfl)).trans h9
    replace h5:=(hw.block hr hI (fun h=>(hG _ h).2 rfl)).trans h5
    replace ha:=(fQN far).us _ _ _ ha hM
    have hO:=J.rw.keep (hw.block gg J.rw.lt (fun h=>(hJ _ h).1 rfl)) hM
    replace I:=yD I hw (fun q hq=>(hJ q hq).2.1)
    have hZ:=zBG hc
    replace s:St w' [(74,.u (UF.eq (.slice (some ⟨gg,0,none⟩) N N))),(76,.u (uI (b_:Int))),(87,.u (UF.eq v2)),(10,.u (UF.eq (pO hr 0))),(9,.u (UF.eq (pO b9 0))),(2,.u (UF.eq lf)),(7,.u (UF.eq (.slice (some ⟨gg,0,none⟩) N N))),(8,.u (uI (y.1:Int))),(15,.u (UF.eq lj)),(16,.u (uI ((jns js).length:Int))),(17,.u (uI (y.1:Int)))] [] f29.ntmps [] a' w':=wV qv (x4.trans s.nd) (sH ⟨_,rfl,e0⟩<|sH ⟨_,rfl,e2⟩<|sH ⟨_,rfl,e13⟩<|sH ⟨_,rfl,(he 10 (fun j hj=>yY (k:=14) kA j hj)).trans (s.val (.head _))⟩<|sH ⟨_,rfl,(he 9 (fun j hj=>yY (k:=14) kA j hj)).trans (s.val mz1)⟩<|sH ⟨_,rfl,(he 2 (fun j hj=>yY (k:=14) kA j hj)).trans (s.val mz2)⟩<|sH ⟨_,rfl,(he 7 (fun j hj=>yY (k:=14) kA j hj)).trans (s.val mz3)⟩<|sH ⟨_,rfl,(he 8 (fun j hj=>yY (k:=14) kA j hj)).trans (s.val mz4)⟩<|sH ⟨_,rfl,(he 15 (fun j hj=>yY (k:=14) kA j hj)).trans (s.val mz5)⟩<|sH ⟨_,rfl,(he 16 (fun j hj=>yY (k:=14) kA j hj)).trans (s.val mz6)⟩<|sH ⟨_,rfl,(he 17 (fun j hj=>yY (k:=14) kA j hj)).trans (s.val mz7)⟩ fnz)
    refine zBD (UF.eq (.pointer (some ⟨gg,b_*1,none⟩))) rfl s kA (qQ (z:=1) (g:=gg) (nn:=N) (cap:=N) (i:=b_) kA hX iiz iiz) kA fun a w s=>?_
    have hb:=s.below
    replace h9:=(hb.block b9 (xP.1 h9).1).trans h9
    replace h5:=(hb.block hr (xP.1 h5).1).trans h5
    replace ha:=(fQN far).us _ _ _ ha (zN hb)
    have hS:=hw.trans hb
    have hP:=hM.trans (zN hb)
    replace hc:=hc.below hb
    replace hO:=hO.below hb
    replace I:=I.trans (hb.mono I.size)
    replace s:=s.anewB rfl rfl
    refine zAF (g:=gg) (i:=b_) (cap:=N) (z:=1) (e:=65) (wC [v2]) rfl s rfl rfl hO (by simpa using q2) kA (s.fct (.tmp 88)) (jY (s.fct (.tmp 87)) hZ.1 hZ.2.1 hZ.2.2) (fun q hq=>by cases hq) fun w hL q1 q0 s=>?_
    rw[zKX]at q0
    replace J:=J.add hX hS hP hc hF hL q1 q0
    replace h9:=(hL.block b9 (xP.1 h9).1 qc).trans h9
    replace h5:=(hL.block hr (xP.1 h5).1 hU).trans h5
    replace ha:=(fQN far).us _ _ _ ha q1
    replace I:=yD I hL (fun q hq=>by rw[hq];exact qq)
    clear hJ hG qc hU q2 qe qu hO hw hM hS hP hL q1 q0 hc hF e0 e2 hv he
    refine zF rfl (hQ _ _ ?_)
    clear hQ
    replace s:=s.drop [88,74,76,87]
    refine zP 1 ((89,.u (uI ((y.1+1:Nat):Int)))::[]) s kA
     (oc (yL .i64 (y.1:Int) 1 ((y.1+1:Nat):Int) iiz iiz (wrap64 _ _ oA oA))<|zC) fun a w11 s=>?_
    replace s:=s.drop [17]
    refine zBD (uI ((y.1+1:Nat):Int)) rfl s kA zA kA fun a w s=>zF rfl ?_
    have hb:=s.below
    replace I:=I.trans (hb.mono I.size)
    replace J:=J.below hb
    replace s:=s.anewB rfl rfl
    have qt:jX N js fs (y.1+1)=jX N js fs y.1++ [(a_,(b_,far))]++ [(b_,(a_,far))]:=by rw[zBR];unfold zFn;rw[if_pos qo,<-efar,<-ea,<-eb];simp
    exact⟨(y.1+1,(y.2.set a_ v1).set b_ v2),(by show js.length-(y.1+1)<js.length-y.1;omega),q6,I,(by rw[qt];exact J),s.keepK _ (sH mz4<|sH mz5<|sH mz7<|sH mz8<|sH (.head _) fnz)⟩
 .have q6:y.1=js.length:=by have h7:=mB e;simp only[xT]at h7;omega
  refine rG<|rgQ ((90,.Z (UF.eq (.slice (some ⟨gg,0,none⟩) N N)))::(6,.u (UF.eq (.slice (some ⟨gg,0,none⟩) N N)))::[]) s
   (oc zA<|oc zE<|zC) fun a w12 s=>nR ?_
  rw[q6]at J
  exact StS.resN s I rfl ⟨gg,N,_,by rw[jO];exact s.fct (.tmp 6),(J.below s.below).gm (zFv hT)⟩
theorem zQx(q:Rat):(q.num:Rat)=q*(q.den:Rat):=by
 have h:=Rat.mkRat_self q
 rw[Rat.mkRat_eq_div]at h
 have hd:(q.den:Rat)≠0:=fun h=>q.den_nz (by exact_mod_cast h)
 grind
theorem vI{X D:Int}(hm:0<m)(h:q*(D:Rat)=(X:Rat))(hD:D≠0)(hX:Bd X m)(O:Bd D m):QB q m:=by
 have e0:=zQx q
 have e1:((q.num*D:Int):Rat)=((X*(q.den:Int):Int):Rat):=by
  rw[rT,rT,e0,<-h]
  show q*(q.den:Rat)*(D:Rat)=q*(D:Rat)*((q.den:Int):Rat)
  rw[rO]
  grind
 have e2:q.num*D=X*(q.den:Int):=by exact_mod_cast e1
 have J:q.num.natAbs*D.natAbs=X.natAbs*q.den:=by
  have:=vX Int.natAbs e2
  rwa [pH,pH,pD]at this
 have hc:Nat.Coprime q.den q.num.natAbs:=q.reduced.symm
 have hd:q.den∣D.natAbs:=hc.dvd_of_dvd_mul_left (by rw[J];exact Nat.dvd_mul_left _ _)
 have hDp:0<D.natAbs:=Int.natAbs_pos.2 hD
 obtain⟨k,hk⟩:=hd
 have I:0<k:=by
  rcases uJ k with h|h;· rw[h]at hk;omega
  .exact h
 refine⟨?_,lU ?_ O⟩
 .have:q.num.natAbs*k=X.natAbs:=by
   rw[hk,<-vV,vT q.num.natAbs,vV,vT q.den]at J
   exact Nat.eq_of_mul_eq_mul_right q.den_pos J
  refine lU ?_ hX
  rw[<-this]
  exact Nat.le_mul_of_pos_right _ I
 .rw[hk];exact Nat.le_mul_of_pos_right _ I
theorem vD{B:List Bx}(h:St w0 K B n [] a w){fn:Func}{f:SF}{t r:Nat}(I:fn.results=#[.tmp t,.tmp r])(hd:f.p (.tuple #[a.tmps.getD t undef,a.tmps.getD r undef]) w):bodyPost P fn (Ret w0 f) .ret a w:=by
 refine⟨h.nd,_,?_,⟨_,rfl,hd,h.gr.below⟩⟩
 simp[results,I]
def TnR(q:Rat):Prop:=∃k:Nat,q*27720=(k:Rat)/\k<=55384560
structure GrB(N:Nat)(js:List (Int×Int))(fs:List Rat):Prop where
 hN:N<=20
 hj:js.length<=61
 hf:∀i,TnR (zFd fs i)
theorem zJj{c:Rat}(h:c*27720=(k:Rat))(I:k<4294967296):QB c 1:=
 vI (X:=(k:Int)) (D:=27720) dA (by rw[rO];exact h) dA (by unfold Bd BB;rw[pD,mV];exact I) (by unfold Bd BB;decide+kernel)
theorem GrB.tn(h:GrB N js fs){a b:Nat}{f:Rat}(I:(b,f)∈grE N js fs a):TnR f:=by
 obtain⟨_,_,_,_,i,_,rfl⟩:=zHd (zAH.1 I)
 exact h.hf i
theorem GrB.rch(h:GrB N js fs){a n:Nat}{c:Rat}{s:Nat}(I:Rch (grE N js fs) a n c s):∃k:Nat,c*27720=(k:Rat)/\k<=s*55384560:=by
 induction I with
 |nil=>exact⟨0,eN,oA⟩
 |cons _ he ih=>
  obtain⟨k,J,h2⟩:=ih
  obtain⟨k',O,h4⟩:=h.tn he
  refine⟨k+k',?_,oA⟩
  rw[Rat.natCast_add,<-J,<-O,Rat.add_mul]
theorem GrB.qb(h:GrB N js fs){a n:Nat}{c:Rat}{s:Nat}(I:Rch (grE N js fs) a n c s)(hs:s<=77):QB c 1:=by
 obtain⟨k,J,h2⟩:=h.rch I
 exact zJj J oA
theorem GrB.qr(h:GrB N js fs){a:Nat}{r:Nat×Rat}(I:r∈grE N js fs a):QB r.2 1:=by
 obtain⟨k,J,h2⟩:=h.tn (b:=r.1) (f:=r.2) I
 exact zJj J oA
theorem zLC(E:Adj)(done:List Bool)(d:Nat)(hd:∀n,(E n).length<=d):∀N,zKg E done N<=N*d
 |0=>vS _
 |N+1=>by
  have h1:=zLC E done d hd N
  have h2:=hd N
  show zKg E done N+(if done.getD N false=true then 0 else(E N).length)<=(N+1)*d
  rw[pX]
  split<;>omega
theorem GrB.pd(h:GrB N js fs)(done:List Bool):1+zKg (grE N js fs) done N<=80000:=by
 have O:∀n,(grE N js fs n).length<=122:=fun n=>by
  have J:=zDN (rds N js fs) n
  have I:=zBN N js fs js.length
  have h3:=h.hj
  unfold rds at J
  show(zH (jX N js fs js.length) n).length<=122
  omega
 have J:=zLC _ done 122 O N
 have I:=h.hN
 have h3:=uE 122 I
 omega
theorem zMx{x:Int}(hu:(fG (glN N (rds N js fs))).p u W)(O:v=.int .i64 x)(h:GrB N js fs)(J:Tab W):Calls prog 30 #[u,v] W (Ret W (wI (wD W 32 3 (qns (csR (grE N js fs) N x))) (wD W 3 1 (ins (ssR (grE N js fs) N x))))):=by
 obtain⟨gg,cap,vs,e,hG⟩:=hu
 rw[jO]at e
 have hN:=h.hN
 have:=zQ3 (u:=u) (v:=v) (x:=x) hG (jO _ _).symm e O oA (by rw[zFb];exact zGB _ _ _) (by rw[zFb];exact fun n _ r I=>h.qr I) (by rw[zFb];exact fun a _ n c s I hs=>h.qb I oA) (by rw[zFb];exact h.pd _) J
 rwa [zFb]at this
theorem zGK{n:Int}(I:u=.int .i64 n)(hj:(SF.row 2 (jns js)).p lj W)(hf:(SF.row 3 (rvs 1 fs)).p lf W)(h:min (max n 0) 131072=(N:Int))(hN:N<=20)(hjl:js.length<=61)(J:Tab W):Calls prog 29 #[u,lj,lf] W (Ret W (fG (glN N (rds N js fs)))):=zQ5 I hj hf h oA oA J
theorem zEB(I:W.heap.size<=W'.heap.size)(h:(wI (wD W' e z Cs) (wD W' e' z' Ds)).p v V):(wI (wD W e z Cs) (wD W e' z' Ds)).p v V:=by
 obtain⟨x,y,O,J,h3⟩:=h
 exact⟨x,y,O,y9.mono J I,y9.mono h3 I⟩
theorem zNy{n x:Int}(hu:u=.int .i64 n)(hj:(SF.row 2 (jns js)).p lj W)(hf:(SF.row 3 (rvs 1 fs)).p lf W)(hv:v=.int .i64 x)(O:min (max n 0) 131072=(N:Int))(hB:GrB N js fs)(hT:Tab W):Calls prog 16 #[u,lj,lf,v] W (Ret W (wI (wD W 32 3 (qns (csR (grE N js fs) N x))) (wD W 3 1 (ins (ssR (grE N js fs) N x))))):=by
 refine y2 [(uI n).tS,SF.row 2 (jns js),SF.row 3 (rvs 1 fs),(uI x).tS] func16 rfl kA ⟨hu,hj,hf,hv,trivial⟩ fun a s=>rgQ ((8,.u (UF.eq (.slice none 0 0)))::(9,.u (UF.eq (.slice none 0 0)))::[]) s
  (oc zE<|oc zE<|zC) fun a w1 s=>fK ?_
 replace s:=s.drop [8,9]
 exact rgN ((10,.Z (uI n))::(11,.s (SF.row 2 (jns js)))::(12,.s (SF.row 3 (rvs 1 fs)))::(13,.s (fG (glN N (rds N js fs))))::(14,.Z (uI x))::(15,.s (wI (wD W 32 3 (qns (csR (grE N js fs) N x))) (wD W 3 1 (ins (ssR (grE N js fs) N x)))))::(16,.s (wD W 32 3 (qns (csR (grE N js fs) N x))))::(17,.s (wD W 3 1 (ins (ssR (grE N js fs) N x))))::(8,.s (wD W 32 3 (qns (csR (grE N js fs) N x))))::(9,.s (wD W 3 1 (ins (ssR (grE N js fs) N x))))::[]) s
  (oc zA<|oc zA<|oc zA<|oc (zBn zD zOq (fun u0 J u2 W I (h0:u0=.int .i64 n) (h1:(SF.row 2 (jns js)).p J W) (h2:(SF.row 3 (rvs 1 fs)).p u2 W)=>zGK h0 h1 h2 O hB.hN hB.hj (hT.below (s.up I))))<|oc zA<|oc (zW zD zSe (fun u0 J W I (h0:(fG (glN N (rds N js fs))).p u0 W) (h1:J=.int .i64 x)=>(zMx h0 h1 hB (hT.below (s.up I))).mono (wF (fun v W h=>zEB (s.up I).size h))))<|oc (zAD (A:=wD W 32 3 (qns (csR (grE N js fs) N x))) (B:=wD W 3 1 (ins (ssR (grE N js fs) N x))) iiz)<|oc (zAC (A:=wD W 32 3 (qns (csR (grE N js fs) N x))) (B:=wD W 3 1 (ins (ssR (grE N js fs) N x))) iiz)<|oc zE<|oc zE<|zC) fun a w2 s hr=>nR<|vD s rfl ⟨_,_,rfl,(hr (_,_) mz8),(hr (_,_) mz9)⟩
structure RvI(l c:List Int)(i:Nat):Prop where
 ln:c.length=l.length
 at_:∀k,k<l.length->c.getD k 0=if k<i∨l.length<=k+i then l.getD (l.length-1-k) 0 else l.getD k 0
theorem RvI.begin(l:List Int):RvI l l 0:=⟨rfl,fun k hk=>by rw[if_neg oA]⟩
theorem zHC(l:List Int)(i k:Nat)(h:i<l.length)(z:Int):(l.set i z).getD k 0=if k=i then z else l.getD k 0:=by
 by_cases e:k=i
 .subst e;simp[h]
 .rw[if_neg e];simp[pM (xY e)]
theorem RvI.step{l:List Int}(h:RvI l c i)(hj:j+i+1=l.length)(hij:i<j):RvI l ((c.set i (c.getD j 0)).set j (c.getD i 0)) (i+1):=by
 have h1:=h.ln
 have J:=h.at_ i oA
 have I:=h.at_ j oA
 rw[if_neg oA]at J I
 refine⟨by simp[h1],fun k O=>?_⟩
 rw[zHC _ _ _ sB,zHC _ _ _ oA,J,I]
 by_cases e1:k=j
 .rw[if_pos e1,if_pos (.inr oA)]
  congr 1;omega
 .rw[if_neg e1]
  by_cases e2:k=i
  .rw[if_pos e2,if_pos (.inl oA)]
   congr 1;omega
  .rw[if_neg e2,h.at_ k O]
   by_cases e3:k<i∨l.length<=k+i
   .rw[if_pos e3,if_pos oA]
   .rw[if_neg e3,if_neg oA]
theorem RvI.done{l:List Int}(h:RvI l c i)(hi:l.length<=2*i+1):c=l.reverse:=by
 refine gE (by rw[h.ln,rU]) fun k I h2=>?_
 have O:k<l.length:=by rw[<-h.ln];exact I
 have e:=h.at_ k O
 have J:c.getD k 0=c[k]:=by simp[I]
 have e2:l.getD (l.length-1-k) 0=l.reverse[k]:=by rw[List.getElem_reverse];simp[show l.length-1-k<l.length from oA]
 rw[<-J,<-e2,e]
 by_cases e3:k<i∨l.length<=k+i
 .rw[if_pos e3]
 .rw[if_neg e3]
  congr 1;omega
theorem zRl{l:List Int}(I:q9 W g 3 1 cap (ins l))(hl0:l.length<=1000000):Calls prog 35 #[.slice (some ⟨g,0,none⟩) l.length cap] W (zMW (fun q=>q=g) W UF.any fun W'=>q9 W' g 3 1 cap (ins l.reverse)):=by
 have J:BlS (fun q=>q=g) W W:=BlS.refl _ _
 refine zB0 [UF.eq (.slice (some ⟨g,0,none⟩) l.length cap)] func35 rfl kA ⟨rfl,trivial⟩ fun a s=>?_
 replace s:St W [(0,.u (UF.eq (.slice (some ⟨g,0,none⟩) l.length cap)))] [] f35.ntmps [] a W:=s
 refine rgQ ((4,.Z (UF.eq (.slice (some ⟨g,0,none⟩) l.length cap)))::(5,.Z (uI (l.length:Int)))::(6,.Z (uI ((l.length:Int)-1-((0:Nat):Int))))::(2,.u (uI 0))::(3,.u (uI ((l.length:Int)-1-((0:Nat):Int))))::[]) s
  (oc zA<|oc (zAd kA (fun v W h=>⟨_,_,_,h,rfl⟩))<|oc (zAR .i64 (l.length:Int) 1 ((l.length:Int)-1-((0:Nat):Int)) iiz iiz ((zAE _ oA oA).trans oA))<|oc zE<|oc zE<|zC) fun a w1 s=>?_
 have O:=s.below
 replace I:=I.below O
 replace J:=J.trans O
 replace s:=s.anewB rfl rfl
 refine rF<|yC (fun(x:Nat×List Int) a w=>RvI l x.2 x.1/\x.1<=l.length/\q9 w g 3 1 cap (ins x.2)/\BlS (fun q=>q=g) W w/\St w [(0,.u (UF.eq (.slice (some ⟨g,0,none⟩) l.length cap))),(2,.u (uI (x.1:Int))),(3,.u (uI ((l.length:Int)-1-(x.1:Int))))] [] f35.ntmps [] a w) (fun x=>l.length-2*x.1) (0,l) ⟨RvI.begin l,vS _,I,J,s.keepK _ (sH mz2<|sH (.head _)<|sH mz1 fnz)⟩ fun x a w hx=>?_
 clear I J
 obtain⟨hI,hx,I,J,s⟩:=hx
 refine fK<|rgQ ((7,.Z (uI (x.1:Int)))::(8,.Z (uI ((l.length:Int)-1-(x.1:Int))))::(9,.u (uB (decide ((x.1:Int)<(l.length:Int)-1-(x.1:Int)))))::[]) s
  (oc zA<|oc zA<|oc (zJ .i64 (x.1:Int) ((l.length:Int)-1-(x.1:Int)) (decide ((x.1:Int)<(l.length:Int)-1-(x.1:Int))) iiz iiz rfl rfl)<|zC) fun a w2 s=>?_
 have O:=s.below
 replace I:=I.below O
 replace J:=J.trans O
 replace s:=s.anewB rfl rfl
 refine StS.cond s (decide ((x.1:Int)<(l.length:Int)-1-(x.1:Int))) iiz (fun e=>?_) (fun e=>?_)
 .have hlt:x.1+x.1+1<l.length:=by have:=xW e;omega
  obtain⟨j,hjz⟩:∃j:Nat,(l.length:Int)-1-(x.1:Int)=(j:Int):=⟨l.length-1-x.1,oA⟩
  have hi:x.1<x.2.length:=by rw[hI.ln];omega
  have hj:j<x.2.length:=by rw[hI.ln];omega
  have hl:=I.row (n:=l.length) (by simp[hI.ln])
  rw[hjz]at s
  skip
  refine nQ<|fK<|rF<|jR [0,1,2,3,4,5,8,9] 12 ((14,.u (UF.eq (.slice (some ⟨g,0,none⟩) l.length cap)))::(15,.u (uI (x.1:Int)))::(16,.u (UF.eq (.slice (some ⟨g,0,none⟩) l.length cap)))::(17,.u (uI (j:Int)))::(18,.Z (UF.eq (.slice (some ⟨g,0,none⟩) l.length cap)))::(19,.Z (uI (j:Int)))::(20,.s (wB (wC [.int .i64 (x.2.getD j 0)]).cf))::(21,.u (uI (x.2.getD j 0)))::(22,.Z (UF.eq (.slice (some ⟨g,0,none⟩) l.length cap)))::(23,.Z (uI (x.1:Int)))::(24,.s (wB (wC [.int .i64 (x.2.getD x.1 0)]).cf))::(25,.u (uI (x.2.getD x.1 0)))::[]) hmix s kA
   (oc zA<|oc zA<|oc zA<|oc zA<|oc zA<|oc zA<|oc (zL (z:=1) (Cs:=ins x.2) (i:=j) (C:=wC [.int .i64 (x.2.getD j 0)]) kA (qC hj) (fun v W O h=>(by rw[show v=(Value.slice (some ⟨g,0,none⟩) l.length cap)from h];exact(SF.row 1 (ins x.2)).st _ _ _ hl (s.up O))) iiz)<|oc (z5 (C:=(wC [.int .i64 (x.2.getD j 0)]).cf) kA iiz yT)<|oc zA<|oc zA<|oc (zL (z:=1) (Cs:=ins x.2) (i:=x.1) (C:=wC [.int .i64 (x.2.getD x.1 0)]) kA (qC hi) (fun v W O h=>(by rw[show v=(Value.slice (some ⟨g,0,none⟩) l.length cap)from h];exact(SF.row 1 (ins x.2)).st _ _ _ hl (s.up O))) iiz)<|oc (z5 (C:=(wC [.int .i64 (x.2.getD x.1 0)]).cf) kA iiz yT)<|zC) fun Q' hQ a w3 s=>zBD (UF.eq (.pointer (some ⟨g,x.1*1,none⟩))) rfl s kA (qQ (z:=1) (g:=g) (nn:=l.length) (cap:=cap) (i:=x.1) kA oA iiz iiz) kA fun a w s=>?_
  have O:=s.below
  replace I:=I.below O
  replace J:=J.trans O
  refine zAF (g:=g) (i:=x.1) (cap:=cap) (z:=1) (e:=3) (wC [.int .i64 (x.2.getD j 0)]) rfl s rfl rfl I (by simpa using hi) kA (s.fct (.tmp 26)) (jY (s.fct (.tmp 21)) rfl rfl rfl) (fun q hq=>by cases hq) fun w h0 h4 I s=>?_
  rw[zBA]at I
  replace J:=J.comp h0
  refine zBD (UF.eq (.pointer (some ⟨g,j*1,none⟩))) rfl s kA (qQ (z:=1) (g:=g) (nn:=l.length) (cap:=cap) (i:=j) kA oA iiz iiz) kA fun a w s=>?_
  have O:=s.below
  replace I:=I.below O
  replace J:=J.trans O
  refine zAF (g:=g) (i:=j) (cap:=cap) (z:=1) (e:=3) (wC [.int .i64 (x.2.getD x.1 0)]) rfl s rfl rfl I (by simpa using hj) kA (s.fct (.tmp 27)) (jY (s.fct (.tmp 25)) rfl rfl rfl) (fun q hq=>by cases hq) fun w h0 h4 I s=>?_
  rw[zBA]at I
  replace J:=J.comp h0
  refine zF rfl (hQ _ _ ?_)
  have O:=s.below
  replace I:=I.below O
  replace J:=J.trans O
  replace s:=s.anewB rfl rfl
  refine zP 4 ((10,.Z (uI (x.1:Int)))::(11,.u (uI ((x.1+1:Nat):Int)))::(12,.Z (uI (j:Int)))::(13,.u (uI ((l.length:Int)-1-((x.1+1:Nat):Int))))::[]) s kA
   (oc zA<|oc (yL .i64 (x.1:Int) 1 ((x.1+1:Nat):Int) iiz iiz (wrap64 _ _ oA oA))<|oc zA<|oc (zAR .i64 (j:Int) 1 ((l.length:Int)-1-((x.1+1:Nat):Int)) iiz iiz ((zAE _ oA oA).trans oA))<|zC) fun a w4 s=>?_
  replace s:=s.drop [2]
  refine yN (uI ((x.1+1:Nat):Int)) rfl s kA iiz fun a w s=>?_
  replace s:=s.drop [3]
  refine yN (uI ((l.length:Int)-1-((x.1+1:Nat):Int))) rfl s kA iiz fun a w s=>zF rfl ?_
  have O:=s.below
  replace I:=I.below O
  replace J:=J.trans O
  replace s:=s.anewB rfl rfl
  exact⟨(x.1+1,(x.2.set x.1 (x.2.getD j 0)).set j (x.2.getD x.1 0)),(by show l.length-2*(x.1+1)<l.length-2*x.1;omega),hI.step oA oA,(by show x.1+1<=_;omega),I,J,s.keepK _ (sH zGN<|sH mz1<|sH (.head _) fnz)⟩
 .have h2:l.length<=2*x.1+1:=by have:=mB e;omega
  exact rG<|s.retN0 rfl ⟨_,rfl,trivial,by rw[<-hI.done h2];exact I,J⟩
def qM(E:Adj)(N:Nat)(x z:Int):List Int×Rat×Bool:=
 if(!(yU N x)|| !(yU N z)||decide ((ssR E N x).getD z.toNat 0<0))=true then([],0,false)
 else(jI ((z.toNat::zD2 (nxF E N (csR E N x) (ssR E N x)) x.toNat ((ssR E N x).getD z.toNat 0).toNat z.toNat).reverse),(csR E N x).getD z.toNat 0,true)
theorem zFR{x:Int}(I:Gok E N)(h:yU N x=true):CS E N x.toNat (csR E N x) (ssR E N x):=by
 unfold csR ssR
 rw[if_pos h,if_pos h]
 exact zSk I (y5 h).1
theorem zDL(E:Adj)(N:Nat)(x:Int):(csR E N x).length=N/\(ssR E N x).length=N:=by
 unfold csR ssR
 split
 .exact⟨by simp[zFi,zBp],by simp[zEG,zBp]⟩
 .simp
theorem zMb{x z:Int}(e:(!(yU N x)|| !(yU N z))=false):yU N x=true/\yU N z=true:=by
 simpa using e
theorem zAr{α β:Type}(f:β->α->β)(l:List α)(d:α)(b:β){k:Nat}(h:k<l.length):(l.take (k+1)).foldl f b=f ((l.take k).foldl f b) (l.getD k d):=by
 have e:l.getD k d=l[k]:=by simp[h]
 rw[fT h,pI,e]
 rfl
theorem zJO(h:w.heap[b]?=some (.cells cs.toArray e (0,0)))(hl:cs.length=z)(J:cs.all z9=true)(O:C.p cs w):q9 w b e z 1 [C]:=by
 refine⟨cs.toArray,h,vR _,rY,by simp[hl],by simpa using J,fun i D I=>?_⟩
 cases i with
 |zero=>
  obtain rfl:C=D:=by simpa using I
  show C.p ((cs.toArray.toList.drop (0*z)).take z) w
  rw[gD,mH]
  show C.p (cs.take z) w
  rw[mJ oA]
  exact O
 |succ i=>simp at I
theorem zCU(h:q9 w b e z 1 [C]):∃cs:List WD,w.heap[b]?=some (.cells cs.toArray e (0,0))/\cs.length=z/\C.p cs w:=by
 obtain⟨I,h1,_,_,O,_,h6⟩:=h
 have J:C.p ((I.toList.drop (0*z)).take z) w:=h6 0 C rfl
 have hl:I.toList.length=z:=by simpa using O
 refine⟨I.toList,by rw[fW];exact h1,hl,?_⟩
 rw[gD,mH,mJ oA]at J
 exact J
theorem zNr(h:q9 w g e 3 cap Cs)(O:Cs[i]?=some (CU.agg (fQN q))):∃cs:List WD,w.heap[g]?=some (.cells cs.toArray e (0,0))/\i*3+3<=cs.length/\QNp q (.agg ((cs.drop (i*3)).take 3).toArray) w:=by
 obtain⟨I,h1,_,_,_,_,h6⟩:=h
 have J:(CU.agg (fQN q)).p ((I.toList.drop (i*3)).take 3) w:=h6 i _ O
 refine⟨I.toList,by rw[fW];exact h1,?_,J⟩
 have:=yV q _ w J
 rw[uG,uS]at this
 omega
theorem zRy(h:a.eval x=v):(execOp a.eval ⟨d,.assign x,ty,pos,aft,gd⟩).run P U=.ok (.value v) U:=by
 simp[execOp,h]
theorem vC(h:St w0 K [] n [] a w){fn:Func}{f:SF}{t c r b:Nat}{e te:WE}{cs:List WD}(O:fn.results=#[.tmp t,.cell c e,.tmp r])(hz:zAj P e=some 3)(I:a.tmps.getD c undef= pO b 0)(hb:w.heap[b]?=some (.cells cs.toArray te (0,0)))(hl:cs.length=3)
  (J:f.p (.tuple #[a.tmps.getD t undef,.agg cs.toArray,a.tmps.getD r undef]) w):bodyPost P fn (Ret w0 f) .ret a w:=by
 rw[xS]at I
 refine⟨h.nd,_,?_,⟨_,rfl,J,h.gr.below⟩⟩
 have h1:=zEf hz hl hb
 simp[results,O,asAddr,I,h1]
def chR(a b:Int)(o:WF Rat)(r:Nat×Nat×Rat):WF Rat:=if(r.1:Int)=a/\(r.2.1:Int)=b then(match o with|none=>some r.2.2|some g=>if r.2.2<g then some r.2.2 else o)else o
theorem zMz(a:Nat)(b:Int):∀(rs:List (Nat×Nat×Rat)) (o:WF Rat),rs.foldl (chR (a:Int) b) o=(zH rs a).foldl (chS b) o
 | [],_=>rfl
 | r::rs,o=>by
  rw[cL,zMz a b rs]
  by_cases h:r.1=a
  .have e:zH (r::rs) a=r.2::zH rs a:=by unfold zH;simp[h]
   rw[e,cL]
   congr 1
   unfold chR chS
   by_cases h2:(r.2.1:Int)=b
   .rw[if_pos ⟨oA,h2⟩,if_pos h2]
    cases o<;>rfl
   .rw[if_neg (fun h=>h2 h.2),if_neg h2]
  .have e:zH (r::rs) a=zH rs a:=by unfold zH;simp[h]
   rw[e]
   congr 1
   unfold chR
   rw[if_neg (fun h'=>h oA)]
theorem zKH{E:Adj}{N:Nat}{way:List Int}{i:Nat}(h:zD1 E N way i=none):∀j,i<=j->zD1 E N way j=none
 |0,hj=>by
  obtain rfl:i=0:=oA
  exact h
 | j+1,hj=>by
  rcases xZ j i with e|e
  .obtain rfl:i=j+1:=oA
   exact h
  .show(zD1 E N way j).bind _=none
   rw[zKH h j e]
   rfl
theorem zM2(I:GrB N js fs){way:List Int}{i:Nat}{s:Rat}(hi:i<=61)(h:zD1 (grE N js fs) N way i=some s):QB s 1:=by
 cases i with
 |zero=>cases h;exact QB.zero dA
 |succ i=>exact I.qb (zKF i h).2 oA
theorem zCg(h:zD1 E N way i=some s):zD1 E N way (i+1)=if yU N (way.getD i 0)then(if i=0 then some s else(ch E (way.getD (i-1) 0).toNat (way.getD i 0)).map (s+·))else none:=by
 show(zD1 E N way i).bind _=_
 rw[h]
 rfl
theorem zEb(h:zD1 E N way i=none)(I:i<=way.length):wkR E N way=(0,false):=by
 unfold wkR
 rw[zKH h _ I]
theorem zIG(h:zD1 E N way way.length=some s):wkR E N way=(s,decide (0<way.length)):=by
 unfold wkR
 rw[h]
theorem zKG(h:zD1 E N way (i+1)=some s):yU N (way.getD i 0)=true:=(zKF i h).1
/-! ### The law of least ways -/
theorem zDJ(h:k<N):yU N (k:Int)=true:=by rw[zGA];exact eY h
theorem zKn{a:Nat}(hG:Gok E N)(J:a<N)(O:b<N):
  (∃s:Nat,(qM E N a b).2.2=true/\Opt E a b (qM E N a b).2.1 s/\(csR E N a).getD b 0=(qM E N a b).2.1/\(ssR E N a).getD b 0=(s:Int))∨
  ((qM E N a b).2.2=false/\(qM E N a b).2.1=0/\ ¬Con E a b/\(csR E N a).getD b 0=0/\(ssR E N a).getD b 0= -1):=by
 have h:=zFR hG (zDJ J)
 rw[fR]at h
 rcases h.at_ b O with⟨s,h1,I,h3⟩|⟨h1,I,h3⟩
 .left
  have hc:(!(yU N (a:Int))|| !(yU N (b:Int))||decide ((ssR E N a).getD (b:Int).toNat 0<0))=false:=by
   rw[zDJ J,zDJ O,fR,I,bD oA]
   rfl
  have e:(qM E N a b).2=((csR E N a).getD b 0,true):=by
   unfold qM
   rw[if_neg (by rw[hc];decide)]
   show((csR E N a).getD (b:Int).toNat 0,true)=_
   rw[fR]
  exact⟨s,by rw[e],by rw[e];exact h1,by rw[e],I⟩
 .right
  have hc:(!(yU N (a:Int))|| !(yU N (b:Int))||decide ((ssR E N a).getD (b:Int).toNat 0<0))=true:=by
   rw[zDJ J,zDJ O,fR,h3]
   rfl
  have e:qM E N a b=([],0,false):=by unfold qM;rw[if_pos hc]
  refine⟨by rw[e],by rw[e],fun⟨c,s,k⟩=>h1 c s k,I,h3⟩
theorem zLZ{a:Nat}(hG:Gok E N)(O:a<N)(hb:b<N):(qM E N a b).2.2=true↔Con E a b:=by
 rcases zKn hG O hb with⟨s,J,I,_⟩|⟨J,_,I,_⟩
 .exact⟨fun _=>⟨_,_,I.1⟩,fun _=>J⟩
 .exact⟨fun h=>(by rw[J]at h;cases h),fun h=>absurd h I⟩
theorem Rch.mono(h:∀a b f,(b,f)∈E a->(b,f)∈E' a){a n:Nat}{c:Rat}{s:Nat}(k:Rch E a n c s):Rch E' a n c s:=by
 induction k with
 |nil=>exact .nil
 |cons _ hm ih=>exact .cons ih (h _ _ _ hm)
theorem CS.uniq{a:Nat}{cs J:List Rat}{ss h0:List Int}(h:CS E N a cs ss)(h':CS E' N a J h0)(hm:∀a b f,(b,f)∈E a↔(b,f)∈E' a):cs=J/\ss=h0:=by
 have hr:∀{n c s},Rch E a n c s↔Rch E' a n c s:=⟨fun k=>k.mono fun a b f e=>(hm a b f).1 e,fun k=>k.mono fun a b f e=>(hm a b f).2 e⟩
 have h5:∀n,n<N->cs.getD n 0=J.getD n 0/\ss.getD n 0=h0.getD n 0:=fun n hn=>by
  rcases h.at_ n hn with⟨s,I,O,_⟩|⟨I,O,h3⟩<;>rcases h'.at_ n hn with⟨t,k1,k2,_⟩|⟨k1,k2,k3⟩
  .have h8:Opt E a n (J.getD n 0) t:=⟨hr.2 k1.1,fun c s k=>k1.2 c s (hr.1 k)⟩
   obtain⟨e1,e2⟩:=I.one h8
   exact⟨e1,by rw[O,k2,e2]⟩
  .exact absurd (hr.1 I.1) (k1 _ _)
  .exact absurd (hr.2 k1.1) (I _ _)
  .exact⟨by rw[O,k2],by rw[h3,k3]⟩
 refine⟨gE (h.cl.trans h'.cl.symm) fun n I O=>?_,gE (h.sl.trans h'.sl.symm) fun n I O=>?_⟩
 .have:=(h5 n (by rw[<-h.cl];exact I)).1
  simpa[I,O]using this
 .have:=(h5 n (by rw[<-h.sl];exact I)).2
  simpa[I,O]using this
abbrev wkJ:List (Int×Int):=[(0,1),(1,2),(0,2)]
theorem zPz:qM (grE 4 wkJ [1,1,2]) 4 0 2=([0,2],2,true):=by decide+kernel
theorem zPy:(qM (grE 4 wkJ [1,1,2]) 4 0 3).2.2=false:=by decide+kernel
theorem zPx{lab:List Int}(h:Labd (grE 4 wkJ []) 4 lab):lab=[0,0,0,3]:=by
 have hc:∀a b,a<4->b<4->(Con (grE 4 wkJ []) a b↔(qM (grE 4 wkJ []) 4 (a:Int) (b:Int)).2.2=true):=fun a b ha hb=>(zLZ (zGB _ _ _) ha hb).symm
 refine h.one ⟨rfl,fun n hn=>?_⟩
 have h0:n=0∨n=1∨n=2∨n=3:=oA
 rcases h0 with rfl|rfl|rfl|rfl
 .exact⟨0,rfl,vR _,Con.refl _ _,fun m I=>absurd I (pC _)⟩
 .exact⟨0,rfl,oA,(hc 0 1 dA dA).2 (by decide+kernel),fun m I=>absurd I (pC _)⟩
 .exact⟨0,rfl,oA,(hc 0 2 dA dA).2 (by decide+kernel),fun m I=>absurd I (pC _)⟩
 .refine⟨3,rfl,vR _,Con.refl _ _,fun m I J=>?_⟩
  have h1:=(hc m 3 oA dA).1 J
  have O:m=0∨m=1∨m=2:=oA
  rcases O with rfl|rfl|rfl<;>exact absurd h1 (by decide+kernel)
theorem zKK(fs:List Rat)(h:∀q,q∈fs->q=1∨q=2):GrB 4 wkJ fs:=by
 refine⟨rY,rY,fun i=>?_⟩
 have J:TnR 0:=⟨0,eN,oA⟩
 unfold zFd
 split
 .rcases xZ i fs.length with I|I
  .have O:fs.getD i 0∈fs:=by rw[nX,mD I];exact uO I
   rcases h _ O with e|e
   .rw[e];exact⟨27720,by decide+kernel,oA⟩
   .rw[e];exact⟨55440,by decide+kernel,oA⟩
  .rw[nX,uX I];exact J
 .exact J
/-! ### A road of the answer by definition: five cells -/
def RDp(r:Nat×Nat×Rat)(v:WD)(w:WB):Prop:=∃s A n c A' n' c',v=.agg #[.int .i64 (r.1:Int),.int .i64 (r.2.1:Int),.bool s,.slice A n c,.slice A' n' c']/\QNp r.2.2 (.agg #[.bool s,.slice A n c,.slice A' n' c']) w
def fRd(r:Nat×Nat×Rat):UF:=.mk' (RDp r) fun _ _ _ ⟨s,A,n,c,A',n',c',e,h⟩ u=>⟨s,A,n,c,A',n',c',e,(fQN r.2.2).us _ _ _ h u⟩
theorem zO5(x:Nat×Nat×Rat):∀cs:List WD,∀W,(fRd x).p (.agg cs.toArray) W->cs.length=5:=fun cs W ⟨_,_,_,_,_,_,_,e,_⟩=>by rw[zCT e];rfl
theorem zKy{x:Nat×Nat×Rat}(cs:List WD)(W:WB)(h:(CU.agg (fRd x)).p cs W):∃u,cs[0]?=some u/\u=.int .i64 (x.1:Int):=by
 obtain⟨_,_,_,_,_,_,_,e,_⟩:=h
 rw[zCT e]
 exact⟨_,rfl,rfl⟩
theorem zMT{x:Nat×Nat×Rat}(cs:List WD)(W:WB)(h:(CU.agg (fRd x)).p cs W):∃u,cs[1]?=some u/\u=.int .i64 (x.2.1:Int):=by
 obtain⟨_,_,_,_,_,_,_,e,_⟩:=h
 rw[zCT e]
 exact⟨_,rfl,rfl⟩
theorem zJc{x:Nat×Nat×Rat}(cs:List WD)(W:WB)(h:(CU.agg (fRd x)).p cs W):2+3<=cs.length/\QNp x.2.2 (.agg ((cs.drop 2).take 3).toArray) W:=by
 obtain⟨_,_,_,_,_,_,_,e,I⟩:=h
 rw[zCT e]
 exact⟨eN,I⟩
theorem zO4{s:Bool}{A A':WF Addr}{c c':Nat}{z z':Int}(u:WD)(h:u∈ [Value.int .i64 z,.int .i64 z',.bool s,.slice A n c,.slice A' n' c']):u.oneCell'=true:=by
 simp only[xX,rL,rM]at h
 rcases h with rfl|rfl|rfl|rfl|rfl<;>rfl
theorem zS0(x:Nat×Nat×Rat):CU.ok 5 (CU.agg (fRd x)):=fun cs W ⟨s,A,n,c,A',n',c',e,_⟩=>by
 rw[zCT e]
 exact⟨rfl,rfl,zO4⟩
theorem bRd(s:Bool)(A A':WF Addr)(n n' c c':Nat)(z z':Int):prog.built 59 [(0,.int .i64 z),(1,.int .i64 z'),(2,.agg #[.bool s,.slice A n c,.slice A' n' c'])]=some #[.int .i64 z,.int .i64 z',.bool s,.slice A n c,.slice A' n' c']:=rZ
theorem zUh{x:Nat×Nat×Rat}{q:WD}(J:u=.int .i64 (x.1:Int))(I:v=.int .i64 (x.2.1:Int))(h:QNp x.2.2 q W):∃cells,prog.built 59 [(0,u),(1,v),(2,q)]=some cells/\(fRd x).p (.agg cells) W:=by
 subst J I
 obtain⟨A,n,c,A',n',c',rfl⟩:=zBw h
 exact⟨_,bRd _ _ _ _ _ _ _ _ _,_,A,n,c,A',n',c',rfl,h⟩
theorem zSS(s s1:Bool)(A A' A1 h:WF Addr)(n n' c c' n1 O c1 I:Nat)(z z' z1 J:Int):zV prog 56 2 [(0,.agg #[.int .i64 z,.int .i64 z',.bool s,.slice A n c,.slice A' n' c']),(1,.agg #[.int .i64 z1,.int .i64 J,.bool s1,.slice A1 n1 c1,.slice h O I])]=some (59,#[.int .i64 z,.int .i64 z',.bool s,.slice A n c,.slice A' n' c',.int .i64 z1,.int .i64 J,.bool s1,.slice A1 n1 c1,.slice h O I]):=rZ
theorem zRq{x y:Nat×Nat×Rat}(hu:(fRd x).p u W)(hv:(fRd y).p v W):∃e cs,zV prog 56 2 [(0,u),(1,v)]=some (e,cs)/\(SF.row 5 [CU.agg (fRd x),CU.agg (fRd y)]).p (.slice (some ⟨W.heap.size,0,none⟩) 2 2) (W.alloc (.cells cs e)):=by
 obtain⟨s,A,n,c,A',n',c',rfl,h1⟩:=hu
 obtain⟨s1,A1,n1,c1,I,O,J,rfl,h2⟩:=hv
 refine⟨_,_,zSS _ _ _ _ _ _ _ _ _ _ _ _ _ _ _ _ _ _,q9.row (g:=W.heap.size) (e:=59) (cap:=2) ⟨_,bT W _,vR _,rY,rfl,rfl,fun i C h=>?_⟩ rfl⟩
 cases i with
 |zero=>
  obtain rfl:CU.agg (fRd x)=C:=by simpa using h
  exact⟨s,A,n,c,A',n',c',rfl,(fQN x.2.2).us _ _ _ h1 (zN (j5 W _))⟩
 | succ i=>
  cases i with
  |zero=>
   obtain rfl:CU.agg (fRd y)=C:=by simpa using h
   exact⟨s1,A1,n1,c1,I,O,J,rfl,(fQN y.2.2).us _ _ _ h2 (zN (j5 W _))⟩
  |succ i=>simp at h
abbrev rqs(l:List (Nat×Nat×Rat)):List CU:=l.map fun x=>CU.agg (fRd x)
theorem zBf{l:List (Nat×Nat×Rat)}(h:i<l.length):(rqs l)[i]?=some (CU.agg (fRd (l.getD i (0,0,0)))):=by simp[rqs,h]
theorem zFM(N:Nat)(j:Int×Int):((((((j.1==j.2)||decide (j.1<0))||decide (j.2<0))||decide (j.1≥(N:Int)))||decide (j.2≥(N:Int)))=true)↔zBU N j=false:=by
 unfold zBU yU
 simp only[bZ,bE,rQ,bH,cI,rN,rH]
 omega
theorem zCD{n:Int}(J:u=.int .i64 n)(I:min (max n 0) 131072=(N:Int)):Calls prog 27 #[u] W (Ret W (fI (N:Int)).tS):=by
 refine y2 [(uI n).tS] func27 rfl kA ⟨J,trivial⟩ fun a s=>rgQ ((2,.u (uI 0))::[]) s
  (oc zE<|zC) fun a w1 s=>fK ?_
 replace s:=s.drop [2]
 exact rgE ((3,.Z (uI n))::(4,.Z (uI (max n 0)))::(5,.Z (uI (N:Int)))::(2,.u (uI (N:Int)))::[]) s
  (oc zA<|oc (zLH n 0 iiz iiz)<|oc (zLG (max n 0) 131072 iiz iiz (hd:=fun _=>vX (Value.int .i64) I))<|oc zE<|zC) fun a w2 s=>nR<|wG s (t:=2) rfl (fun v W h=>h)
theorem zCZ(h:u=.int .i64 0):Calls prog 26 #[u] W (Ret W (fQN 0).tS):=zHf 0 h dA
theorem zCC(hu:u=.int .i64 (N:Int))(hj:(SF.row 2 (jns js)).p lj W)(hf:(SF.row 3 (rvs 1 fs)).p lf W)(hNs:N<=1000)(hjl:js.length<=1000)(hT:Tab W):Calls prog 28 #[u,lj,lf] W (Ret W (wD W 59 5 (rqs (rds N js fs)))):=by
 have I:Below W.heap.size W W:=xF _ _
 refine y2 [(uI (N:Int)).tS,(UF.eq lj).tS,(UF.eq lf).tS] func28 rfl kA ⟨hu,rfl,rfl,trivial⟩ fun a s=>?_
 replace s:=s.renew [(0,.u (uI (N:Int))),(1,.u (UF.eq lj)),(2,.u (UF.eq lf))] (sH (.inr ⟨_,rfl,.head _⟩)<|sH (.inr ⟨_,rfl,mz1⟩)<|sH (.inr ⟨_,rfl,mz2⟩) fnz)
 refine rgQ ((6,.u (UF.eq (.slice none 0 0)))::[]) s
  (oc zE<|zC) fun a w1 s=>?_
 have J:=s.below
 replace I:=I.trans (J.mono I.size)
 replace s:=s.anewB rfl rfl
 refine rgQ ((7,.u (UF.eq (.slice none 0 0)))::[]) s
  (oc zE<|zC) fun a w2 s=>?_
 have J:=s.below
 replace I:=I.trans (J.mono I.size)
 replace s:=s.anewB rfl rfl
 refine fK<|rgQ ((8,.u (uI 0))::[]) s
  (oc zE<|zC) fun a w3 s=>?_
 have J:=s.below
 replace I:=I.trans (J.mono I.size)
 replace s:=s.anewB rfl rfl
 refine rF ?_
 have O:y9 w3 W.heap.size 59 5 (.slice none 0 0) (rqs (jX N js fs 0)):=y9.nil _ _ _ _
 refine yC (fun(y:Nat×WD) a w=>y.1<=js.length/\Below W.heap.size W w/\y9 w W.heap.size 59 5 y.2 (rqs (jX N js fs y.1))/\St w [(0,.u (uI (N:Int))),(1,.u (UF.eq lj)),(2,.u (UF.eq lf)),(7,.u (UF.eq (y.2))),(8,.u (uI (y.1:Int)))] [] f28.ntmps [] a w) (fun y=>js.length-y.1) (0,.slice none 0 0) ⟨vS _,I,O,s.keepK _ (sH mz3<|sH mz4<|sH mz5<|sH mz1<|sH (.head _) fnz)⟩ fun y a wl hx=>?_
 clear I O
 obtain⟨hk,I,O,s⟩:=hx
 have hTw:=hT.below I
 have hg:=(SF.row 2 (jns js)).st _ _ _ hj I
 have hd:=(SF.row 3 (rvs 1 fs)).st _ _ _ hf I
 refine fK<|rgQ ((11,.Z (uI (y.1:Int)))::(12,.Z (UF.eq lj))::(13,.Z (uI ((jns js).length:Int)))::(14,.u (uB (decide ((y.1:Int)<((jns js).length:Int)))))::[]) s
  (oc zA<|oc zA<|oc (qZ (z:=2) (Cs:=jns js) kA (y7 hg s) (fun _=>rfl))<|oc (zJ .i64 (y.1:Int) ((jns js).length:Int) (decide ((y.1:Int)<((jns js).length:Int))) iiz iiz rfl rfl)<|zC) fun a w4 s=>StS.cond s (decide ((y.1:Int)<((jns js).length:Int))) iiz (fun e=>?_) (fun e=>?_)
 .have h1:y.1<js.length:=by have h7:=xW e;simp only[xT]at h7;omega
  refine nQ<|fK<|rF<|fK<|rgK 4 ((17,.Z (UF.eq lj))::(18,.Z (uI (y.1:Int)))::(19,.Y (fJn (js.getD y.1 (0,0))))::(20,.u (fJn (js.getD y.1 (0,0))))::[]) s
   (oc zA<|oc zA<|oc (zL (z:=2) (Cs:=jns js) (i:=y.1) (C:=CU.agg (fJn (js.getD y.1 (0,0)))) kA (zL8 h1) (y7 hg s) iiz)<|oc (yJ (f:=fJn (js.getD y.1 (0,0))) 2 kA (hz:=zPk _))<|zC) fun a w5 s=>yP (CU.len 2) (cs:=[.int .i64 0,.int .i64 0]) kA rfl s kA (fun W=>rfl) rfl fun b9 a w s=>yI (fJn (js.getD y.1 (0,0))) rfl s zJC fun a w s=>zF rfl<|fK<|rgQ ((21,.X (fJn (js.getD y.1 (0,0))) 0)::(22,.Z (uI ((js.getD y.1 (0,0)).1)))::(23,.X (fJn (js.getD y.1 (0,0))) 1)::(24,.Z (uI ((js.getD y.1 (0,0)).2)))::(25,.Z (uB ((js.getD y.1 (0,0)).1==(js.getD y.1 (0,0)).2)))::(26,.Z (uB ((js.getD y.1 (0,0)).1==(js.getD y.1 (0,0)).2)))::(27,.s (SF.imp (((js.getD y.1 (0,0)).1==(js.getD y.1 (0,0)).2)=false) (wB ((CU.agg (fJn (js.getD y.1 (0,0)))).cf.at 0))))::(28,.s (SF.imp (((js.getD y.1 (0,0)).1==(js.getD y.1 (0,0)).2)=false) ((uI ((js.getD y.1 (0,0)).1)).tS)))::(29,.s (SF.imp (((js.getD y.1 (0,0)).1==(js.getD y.1 (0,0)).2)=false) ((uB (decide ((js.getD y.1 (0,0)).1<0))).tS)))::(30,.Z (uB (((js.getD y.1 (0,0)).1==(js.getD y.1 (0,0)).2)||(decide ((js.getD y.1 (0,0)).1<0)))))::(31,.Z (uB (((js.getD y.1 (0,0)).1==(js.getD y.1 (0,0)).2)||(decide ((js.getD y.1 (0,0)).1<0)))))::(32,.s (SF.imp ((((js.getD y.1 (0,0)).1==(js.getD y.1 (0,0)).2)||(decide ((js.getD y.1 (0,0)).1<0)))=false) (wB ((CU.agg (fJn (js.getD y.1 (0,0)))).cf.at 1))))::(33,.s (SF.imp ((((js.getD y.1 (0,0)).1==(js.getD y.1 (0,0)).2)||(decide ((js.getD y.1 (0,0)).1<0)))=false) ((uI ((js.getD y.1 (0,0)).2)).tS)))::(34,.s (SF.imp ((((js.getD y.1 (0,0)).1==(js.getD y.1 (0,0)).2)||(decide ((js.getD y.1 (0,0)).1<0)))=false) ((uB (decide ((js.getD y.1 (0,0)).2<0))).tS)))::(35,.Z (uB ((((js.getD y.1 (0,0)).1==(js.getD y.1 (0,0)).2)||(decide ((js.getD y.1 (0,0)).1<0)))||(decide ((js.getD y.1 (0,0)).2<0)))))::(36,.Z (uB ((((js.getD y.1 (0,0)).1==(js.getD y.1 (0,0)).2)||(decide ((js.getD y.1 (0,0)).1<0)))||(decide ((js.getD y.1 (0,0)).2<0)))))::(37,.s (SF.imp (((((js.getD y.1 (0,0)).1==(js.getD y.1 (0,0)).2)||(decide ((js.getD y.1 (0,0)).1<0)))||(decide ((js.getD y.1 (0,0)).2<0)))=false) (wB ((CU.agg (fJn (js.getD y.1 (0,0)))).cf.at 0))))::(38,.s (SF.imp (((((js.getD y.1 (0,0)).1==(js.getD y.1 (0,0)).2)||(decide ((js.getD y.1 (0,0)).1<0)))||(decide ((js.getD y.1 (0,0)).2<0)))=false) ((uI ((js.getD y.1 (0,0)).1)).tS)))::(39,.s (SF.imp (((((js.getD y.1 (0,0)).1==(js.getD y.1 (0,0)).2)||(decide ((js.getD y.1 (0,0)).1<0)))||(decide ((js.getD y.1 (0,0)).2<0)))=false) ((uI (N:Int)).tS)))::(40,.s (SF.imp (((((js.getD y.1 (0,0)).1==(js.getD y.1 (0,0)).2)||(decide ((js.getD y.1 (0,0)).1<0)))||(decide ((js.getD y.1 (0,0)).2<0)))=false) ((uB (decide ((js.getD y.1 (0,0)).1≥(N:Int)))).tS)))::(41,.Z (uB (((((js.getD y.1 (0,0)).1==(js.getD y.1 (0,0)).2)||(decide ((js.getD y.1 (0,0)).1<0)))||(decide ((js.getD y.1 (0,0)).2<0)))||(decide ((js.getD y.1 (0,0)).1≥(N:Int))))))::(42,.Z (uB (((((js.getD y.1 (0,0)).1==(js.getD y.1 (0,0)).2)||(decide ((js.getD y.1 (0,0)).1<0)))||(decide ((js.getD y.1 (0,0)).2<0)))||(decide ((js.getD y.1 (0,0)).1≥(N:Int))))))::(43,.s (SF.imp ((((((js.getD y.1 (0,0)).1==(js.getD y.1 (0,0)).2)||(decide ((js.getD y.1 (0,0)).1<0)))||(decide ((js.getD y.1 (0,0)).2<0)))||(decide ((js.getD y.1 (0,0)).1≥(N:Int))))=false) (wB ((CU.agg (fJn (js.getD y.1 (0,0)))).cf.at 1))))::(44,.s (SF.imp ((((((js.getD y.1 (0,0)).1==(js.getD y.1 (0,0)).2)||(decide ((js.getD y.1 (0,0)).1<0)))||(decide ((js.getD y.1 (0,0)).2<0)))||(decide ((js.getD y.1 (0,0)).1≥(N:Int))))=false) ((uI ((js.getD y.1 (0,0)).2)).tS)))::(45,.s (SF.imp ((((((js.getD y.1 (0,0)).1==(js.getD y.1 (0,0)).2)||(decide ((js.getD y.1 (0,0)).1<0)))||(decide ((js.getD y.1 (0,0)).2<0)))||(decide ((js.getD y.1 (0,0)).1≥(N:Int))))=false) ((uI (N:Int)).tS)))::(46,.s (SF.imp ((((((js.getD y.1 (0,0)).1==(js.getD y.1 (0,0)).2)||(decide ((js.getD y.1 (0,0)).1<0)))||(decide ((js.getD y.1 (0,0)).2<0)))||(decide ((js.getD y.1 (0,0)).1≥(N:Int))))=false) ((uB (decide ((js.getD y.1 (0,0)).2≥(N:Int)))).tS)))::(47,.u (uB ((((((js.getD y.1 (0,0)).1==(js.getD y.1 (0,0)).2)||(decide ((js.getD y.1 (0,0)).1<0)))||(decide ((js.getD y.1 (0,0)).2<0)))||(decide ((js.getD y.1 (0,0)).1≥(N:Int))))||(decide ((js.getD y.1 (0,0)).2≥(N:Int))))))::[]) s
   (oc (zO (C:=cg (fJn (js.getD y.1 (0,0)))) 0 kA)<|oc (yK (C:=cg (fJn (js.getD y.1 (0,0)))) (k:=0) kA (h:=zQJ))<|oc (zO (C:=cg (fJn (js.getD y.1 (0,0)))) 1 kA)<|oc (yK (C:=cg (fJn (js.getD y.1 (0,0)))) (k:=1) kA (h:=zQI))<|oc (zJ .i64 ((js.getD y.1 (0,0)).1) ((js.getD y.1 (0,0)).2) ((js.getD y.1 (0,0)).1==(js.getD y.1 (0,0)).2) iiz iiz rfl rfl)<|oc zA<|oc (zB 26 ((js.getD y.1 (0,0)).1==(js.getD y.1 (0,0)).2) kA iiz (fun e=>zI [] (wB ((CU.agg (fJn (js.getD y.1 (0,0)))).cf.at 0)) fnz (fun _ _ h _=>h) kA (zO (C:=cg (fJn (js.getD y.1 (0,0)))) 0 kA)) (fun e W h=>absurd h e))<|oc (zB 26 ((js.getD y.1 (0,0)).1==(js.getD y.1 (0,0)).2) kA iiz (fun e=>zI [(27,wB ((CU.agg (fJn (js.getD y.1 (0,0)))).cf.at 0))] ((uI ((js.getD y.1 (0,0)).1)).tS) (sH (fun v W h=>zG (c:=((js.getD y.1 (0,0)).1==(js.getD y.1 (0,0)).2)=false) (f:=wB ((CU.agg (fJn (js.getD y.1 (0,0)))).cf.at 0)) e h) fnz) (fun _ _ h _=>h) kA (yK (C:=cg (fJn (js.getD y.1 (0,0)))) (k:=0) kA (h:=zQJ))) (fun e W h=>absurd h e))<|oc (zB 26 ((js.getD y.1 (0,0)).1==(js.getD y.1 (0,0)).2) kA iiz (fun e=>zI [(28,(uI ((js.getD y.1 (0,0)).1)).tS)] ((uB (decide ((js.getD y.1 (0,0)).1<0))).tS) (sH (fun v W h=>zG (c:=((js.getD y.1 (0,0)).1==(js.getD y.1 (0,0)).2)=false) (f:=(uI ((js.getD y.1 (0,0)).1)).tS) e h) fnz) (fun _ _ h _=>h) kA (zJ .i64 ((js.getD y.1 (0,0)).1) 0 (decide ((js.getD y.1 (0,0)).1<0)) iiz iiz rfl rfl)) (fun e W h=>absurd h e))<|oc (zT ((js.getD y.1 (0,0)).1==(js.getD y.1 (0,0)).2) iiz (fun e v W h=>qH h e) (fun e v W h=>yX (zG e h) e))<|oc zA<|oc (zB 31 (((js.getD y.1 (0,0)).1==(js.getD y.1 (0,0)).2)||(decide ((js.getD y.1 (0,0)).1<0))) kA iiz (fun e=>zI [] (wB ((CU.agg (fJn (js.getD y.1 (0,0)))).cf.at 1)) fnz (fun _ _ h _=>h) kA (zO (C:=cg (fJn (js.getD y.1 (0,0)))) 1 kA)) (fun e W h=>absurd h e))<|oc (zB 31 (((js.getD y.1 (0,0)).1==(js.getD y.1 (0,0)).2)||(decide ((js.getD y.1 (0,0)).1<0))) kA iiz (fun e=>zI [(32,wB ((CU.agg (fJn (js.getD y.1 (0,0)))).cf.at 1))] ((uI ((js.getD y.1 (0,0)).2)).tS) (sH (fun v W h=>zG (c:=(((js.getD y.1 (0,0)).1==(js.getD y.1 (0,0)).2)||(decide ((js.getD y.1 (0,0)).1<0)))=false) (f:=wB ((CU.agg (fJn (js.getD y.1 (0,0)))).cf.at 1)) e h) fnz) (fun _ _ h _=>h) kA (yK (C:=cg (fJn (js.getD y.1 (0,0)))) (k:=1) kA (h:=zQI))) (fun e W h=>absurd h e))<|oc (zB 31 (((js.getD y.1 (0,0)).1==(js.getD y.1 (0,0)).2)||(decide ((js.getD y.1 (0,0)).1<0))) kA iiz (fun e=>zI [(33,(uI ((js.getD y.1 (0,0)).2)).tS)] ((uB (decide ((js.getD y.1 (0,0)).2<0))).tS) (sH (fun v W h=>zG (c:=(((js.getD y.1 (0,0)).1==(js.getD y.1 (0,0)).2)||(decide ((js.getD y.1 (0,0)).1<0)))=false) (f:=(uI ((js.getD y.1 (0,0)).2)).tS) e h) fnz) (fun _ _ h _=>h) kA (zJ .i64 ((js.getD y.1 (0,0)).2) 0 (decide ((js.getD y.1 (0,0)).2<0)) iiz iiz rfl rfl)) (fun e W h=>absurd h e))<|oc (zT (((js.getD y.1 (0,0)).1==(js.getD y.1 (0,0)).2)||(decide ((js.getD y.1 (0,0)).1<0))) iiz (fun e v W h=>qH h e) (fun e v W h=>yX (zG e h) e))<|oc zA<|oc (zB 36 ((((js.getD y.1 (0,0)).1==(js.getD y.1 (0,0)).2)||(decide ((js.getD y.1 (0,0)).1<0)))||(decide ((js.getD y.1 (0,0)).2<0))) kA iiz (fun e=>zI [] (wB ((CU.agg (fJn (js.getD y.1 (0,0)))).cf.at 0)) fnz (fun _ _ h _=>h) kA (zO (C:=cg (fJn (js.getD y.1 (0,0)))) 0 kA)) (fun e W h=>absurd h e))<|oc (zB 36 ((((js.getD y.1 (0,0)).1==(js.getD y.1 (0,0)).2)||(decide ((js.getD y.1 (0,0)).1<0)))||(decide ((js.getD y.1 (0,0)).2<0))) kA iiz (fun e=>zI [(37,wB ((CU.agg (fJn (js.getD y.1 (0,0)))).cf.at 0))] ((uI ((js.getD y.1 (0,0)).1)).tS) (sH (fun v W h=>zG (c:=((((js.getD y.1 (0,0)).1==(js.getD y.1 (0,0)).2)||(decide ((js.getD y.1 (0,0)).1<0)))||(decide ((js.getD y.1 (0,0)).2<0)))=false) (f:=wB ((CU.agg (fJn (js.getD y.1 (0,0)))).cf.at 0)) e h) fnz) (fun _ _ h _=>h) kA (yK (C:=cg (fJn (js.getD y.1 (0,0)))) (k:=0) kA (h:=zQJ))) (fun e W h=>absurd h e))<|oc (zB 36 ((((js.getD y.1 (0,0)).1==(js.getD y.1 (0,0)).2)||(decide ((js.getD y.1 (0,0)).1<0)))||(decide ((js.getD y.1 (0,0)).2<0))) kA iiz (fun e=>zI [] ((uI (N:Int)).tS) fnz (fun _ _ h _=>h) kA zA) (fun e W h=>absurd h e))<|oc (zB 36 ((((js.getD y.1 (0,0)).1==(js.getD y.1 (0,0)).2)||(decide ((js.getD y.1 (0,0)).1<0)))||(decide ((js.getD y.1 (0,0)).2<0))) kA iiz (fun e=>zI [(38,(uI ((js.getD y.1 (0,0)).1)).tS),(39,(uI (N:Int)).tS)] ((uB (decide ((js.getD y.1 (0,0)).1≥(N:Int)))).tS) (sH (fun v W h=>zG (c:=((((js.getD y.1 (0,0)).1==(js.getD y.1 (0,0)).2)||(decide ((js.getD y.1 (0,0)).1<0)))||(decide ((js.getD y.1 (0,0)).2<0)))=false) (f:=(uI ((js.getD y.1 (0,0)).1)).tS) e h)<|sH (fun v W h=>zG (c:=((((js.getD y.1 (0,0)).1==(js.getD y.1 (0,0)).2)||(decide ((js.getD y.1 (0,0)).1<0)))||(decide ((js.getD y.1 (0,0)).2<0)))=false) (f:=(uI (N:Int)).tS) e h) fnz) (fun _ _ h _=>h) kA (zJ .i64 ((js.getD y.1 (0,0)).1) (N:Int) (decide ((js.getD y.1 (0,0)).1≥(N:Int))) iiz iiz rfl rfl)) (fun e W h=>absurd h e))<|oc (zT ((((js.getD y.1 (0,0)).1==(js.getD y.1 (0,0)).2)||(decide ((js.getD y.1 (0,0)).1<0)))||(decide ((js.getD y.1 (0,0)).2<0))) iiz (fun e v W h=>qH h e) (fun e v W h=>yX (zG e h) e))<|oc zA<|oc (zB 42 (((((js.getD y.1 (0,0)).1==(js.getD y.1 (0,0)).2)||(decide ((js.getD y.1 (0,0)).1<0)))||(decide ((js.getD y.1 (0,0)).2<0)))||(decide ((js.getD y.1 (0,0)).1≥(N:Int)))) kA iiz (fun e=>zI [] (wB ((CU.agg (fJn (js.getD y.1 (0,0)))).cf.at 1)) fnz (fun _ _ h _=>h) kA (zO (C:=cg (fJn (js.getD y.1 (0,0)))) 1 kA)) (fun e W h=>absurd h e))<|oc (zB 42 (((((js.getD y.1 (0,0)).1==(js.getD y.1 (0,0)).2)||(decide ((js.getD y.1 (0,0)).1<0)))||(decide ((js.getD y.1 (0,0)).2<0)))||(decide ((js.getD y.1 (0,0)).1≥(N:Int)))) kA iiz (fun e=>zI [(43,wB ((CU.agg (fJn (js.getD y.1 (0,0)))).cf.at 1))] ((uI ((js.getD y.1 (0,0)).2)).tS) (sH (fun v W h=>zG (c:=(((((js.getD y.1 (0,0)).1==(js.getD y.1 (0,0)).2)||(decide ((js.getD y.1 (0,0)).1<0)))||(decide ((js.getD y.1 (0,0)).2<0)))||(decide ((js.getD y.1 (0,0)).1≥(N:Int))))=false) (f:=wB ((CU.agg (fJn (js.getD y.1 (0,0)))).cf.at 1)) e h) fnz) (fun _ _ h _=>h) kA (yK (C:=cg (fJn (js.getD y.1 (0,0)))) (k:=1) kA (h:=zQI))) (fun e W h=>absurd h e))<|oc (zB 42 (((((js.getD y.1 (0,0)).1==(js.getD y.1 (0,0)).2)||(decide ((js.getD y.1 (0,0)).1<0)))||(decide ((js.getD y.1 (0,0)).2<0)))||(decide ((js.getD y.1 (0,0)).1≥(N:Int)))) kA iiz (fun e=>zI [] ((uI (N:Int)).tS) fnz (fun _ _ h _=>h) kA zA) (fun e W h=>absurd h e))<|oc (zB 42 (((((js.getD y.1 (0,0)).1==(js.getD y.1 (0,0)).2)||(decide ((js.getD y.1 (0,0)).1<0)))||(decide ((js.getD y.1 (0,0)).2<0)))||(decide ((js.getD y.1 (0,0)).1≥(N:Int)))) kA iiz (fun e=>zI [(44,(uI ((js.getD y.1 (0,0)).2)).tS),(45,(uI (N:Int)).tS)] ((uB (decide ((js.getD y.1 (0,0)).2≥(N:Int)))).tS) (sH (fun v W h=>zG (c:=(((((js.getD y.1 (0,0)).1==(js.getD y.1 (0,0)).2)||(decide ((js.getD y.1 (0,0)).1<0)))||(decide ((js.getD y.1 (0,0)).2<0)))||(decide ((js.getD y.1 (0,0)).1≥(N:Int))))=false) (f:=(uI ((js.getD y.1 (0,0)).2)).tS) e h)<|sH (fun v W h=>zG (c:=(((((js.getD y.1 (0,0)).1==(js.getD y.1 (0,0)).2)||(decide ((js.getD y.1 (0,0)).1<0)))||(decide ((js.getD y.1 (0,0)).2<0)))||(decide ((js.getD y.1 (0,0)).1≥(N:Int))))=false) (f:=(uI (N:Int)).tS) e h) fnz) (fun _ _ h _=>h) kA (zJ .i64 ((js.getD y.1 (0,0)).2) (N:Int) (decide ((js.getD y.1 (0,0)).2≥(N:Int))) iiz iiz rfl rfl)) (fun e W h=>absurd h e))<|oc (zT (((((js.getD y.1 (0,0)).1==(js.getD y.1 (0,0)).2)||(decide ((js.getD y.1 (0,0)).1<0)))||(decide ((js.getD y.1 (0,0)).2<0)))||(decide ((js.getD y.1 (0,0)).1≥(N:Int)))) iiz (fun e v W h=>qH h e) (fun e v W h=>yX (zG e h) e))<|zC) fun a w6 s=>StS.cond s ((((((js.getD y.1 (0,0)).1==(js.getD y.1 (0,0)).2)||(decide ((js.getD y.1 (0,0)).1<0)))||(decide ((js.getD y.1 (0,0)).2<0)))||(decide ((js.getD y.1 (0,0)).1≥(N:Int))))||(decide ((js.getD y.1 (0,0)).2≥(N:Int)))) iiz (fun e=>?_) (fun e=>?_)
  .replace s:StS _ _ _ [⟨9,47,CU.agg (fJn (js.getD y.1 (0,0))),b9,true⟩] _ _ _ _:=s.freeze
   have h3:zBU N (js.getD y.1 (0,0))=false:=(zFM N (js.getD y.1 (0,0))).1 e
   refine rG<|zP 2 ((15,.Z (uI (y.1:Int)))::(16,.u (uI ((y.1+1:Nat):Int)))::[]) s kA
    (oc zA<|oc (yL .i64 (y.1:Int) 1 ((y.1+1:Nat):Int) iiz iiz (wrap64 _ _ oA oA))<|zC) fun a w7 s=>?_
   replace s:=s.drop [8]
   refine yN (uI ((y.1+1:Nat):Int)) rfl s kA iiz fun a w s=>zF rfl ?_
   have J:=s.below
   replace I:=I.trans (J.mono I.size)
   replace O:=O.below J
   replace s:=s.anewB rfl rfl
   have J:=s.below
   replace I:=I.trans (J.mono I.size)
   replace O:=O.below J
   replace s:=s.popB
   replace s:=s.anewB rfl rfl
   have h8:jX N js fs (y.1+1)=jX N js fs y.1:=by rw[zBR];unfold zFn;rw[h3];simp
   exact⟨(y.1+1,y.2),(by show js.length-(y.1+1)<js.length-y.1;omega),h1,I,by rw[h8];exact O,s.keepK _ (sH mz5<|sH mz6<|sH mz7<|sH mz8<|sH (.head _) fnz)⟩
  .have h3:zBU N (js.getD y.1 (0,0))=true:=by
    cases h:zBU N (js.getD y.1 (0,0))with
    |true=>rfl
    |false=>exact absurd ((zFM N (js.getD y.1 (0,0))).2 h) (by rw[e];decide)
   refine nQ<|fK<|rgK 1 ((48,.u (fQN 0))::[]) s
    (oc (zK zD zFe (fun u0 W J (h0:u0=.int .i64 0)=>zCZ h0))<|zC) fun a w8 s=>yP (CU.len 3) (cs:=zR3) kA rfl s kA (fun W=>rfl) rfl fun h5 a w s=>yI (fQN 0) rfl s yO fun a w s=>zF rfl<|fK<|rgQ ((49,.Z (uI (y.1:Int)))::(50,.Z (UF.eq lf))::(51,.Z (uI ((rvs 1 fs).length:Int)))::(52,.Z (uB (decide ((y.1:Int)<((rvs 1 fs).length:Int)))))::(53,.Z (uB (decide ((y.1:Int)<((rvs 1 fs).length:Int)))))::(54,.s (SF.imp ((decide ((y.1:Int)<((rvs 1 fs).length:Int)))=true) ((UF.eq lf).tS)))::(55,.s (SF.imp ((decide ((y.1:Int)<((rvs 1 fs).length:Int)))=true) ((uI (y.1:Int)).tS)))::(56,.s (SF.imp ((decide ((y.1:Int)<((rvs 1 fs).length:Int)))=true) (wB (cg (fRV 1 (fs.getD y.1 0))))))::(57,.s (SF.imp ((decide ((y.1:Int)<((rvs 1 fs).length:Int)))=true) ((fRV 1 (fs.getD y.1 0)).tS)))::(58,.s (SF.imp ((decide ((y.1:Int)<((rvs 1 fs).length:Int)))=true) ((uI ((fs.getD y.1 0).num.sign)).tS)))::(59,.s (SF.imp ((decide ((y.1:Int)<((rvs 1 fs).length:Int)))=true) ((uB (decide ((fs.getD y.1 0).num.sign>0))).tS)))::(60,.u (uB ((decide ((y.1:Int)<((rvs 1 fs).length:Int)))&&(decide ((fs.getD y.1 0).num.sign>0)))))::[]) s
    (oc zA<|oc zA<|oc (qZ (z:=3) (Cs:=rvs 1 fs) kA (y7 hd s) (fun _=>rfl))<|oc (zJ .i64 (y.1:Int) ((rvs 1 fs).length:Int) (decide ((y.1:Int)<((rvs 1 fs).length:Int))) iiz iiz rfl rfl)<|oc zA<|oc (zB 53 (decide ((y.1:Int)<((rvs 1 fs).length:Int))) kA iiz (fun e=>zI [] ((UF.eq lf).tS) fnz (fun _ _ h _=>h) kA zA) (fun e W h=>absurd h e))<|oc (zB 53 (decide ((y.1:Int)<((rvs 1 fs).length:Int))) kA iiz (fun e=>zI [] ((uI (y.1:Int)).tS) fnz (fun _ _ h _=>h) kA zA) (fun e W h=>absurd h e))<|oc (zB 53 (decide ((y.1:Int)<((rvs 1 fs).length:Int))) kA iiz (fun e=>zI [(54,(UF.eq lf).tS),(55,(uI (y.1:Int)).tS)] (wB (cg (fRV 1 (fs.getD y.1 0)))) (sH (fun v W h=>zG (c:=(decide ((y.1:Int)<((rvs 1 fs).length:Int)))=true) (f:=(UF.eq lf).tS) e h)<|sH (fun v W h=>zG (c:=(decide ((y.1:Int)<((rvs 1 fs).length:Int)))=true) (f:=(uI (y.1:Int)).tS) e h) fnz) (fun _ _ h _=>h) kA (zL (z:=3) (Cs:=rvs 1 fs) (i:=y.1) (C:=CU.agg (fRV 1 (fs.getD y.1 0))) kA (zEH (k:=y.1) (by first|exact he|(have h7:=xW e;simp only[xT]at h7;omega))) (y7 hd s) iiz)) (fun e W h=>absurd h e))<|oc (zB 53 (decide ((y.1:Int)<((rvs 1 fs).length:Int))) kA iiz (fun e=>zI [(56,wB (cg (fRV 1 (fs.getD y.1 0))))] ((fRV 1 (fs.getD y.1 0)).tS) (sH (fun v W h=>zG (c:=(decide ((y.1:Int)<((rvs 1 fs).length:Int)))=true) (f:=wB (cg (fRV 1 (fs.getD y.1 0)))) e h) fnz) (fun _ _ h _=>h) kA (yJ (f:=fRV 1 (fs.getD y.1 0)) 3 kA (hz:=zBu _ _))) (fun e W h=>absurd h e))<|oc (zB 53 (decide ((y.1:Int)<((rvs 1 fs).length:Int))) kA iiz (fun e=>zI [(57,(fRV 1 (fs.getD y.1 0)).tS)] ((uI ((fs.getD y.1 0).num.sign)).tS) (sH (fun v W h=>zG (c:=(decide ((y.1:Int)<((rvs 1 fs).length:Int)))=true) (f:=(fRV 1 (fs.getD y.1 0)).tS) e h) fnz) (fun _ _ h _=>h) kA (zK zD zTQ (fun u0 W J (h0:RVp 1 (fs.getD y.1 0) u0 W)=>zNB (m:=1) h0 dA))) (fun e W h=>absurd h e))<|oc (zB 53 (decide ((y.1:Int)<((rvs 1 fs).length:Int))) kA iiz (fun e=>zI [(58,(uI ((fs.getD y.1 0).num.sign)).tS)] ((uB (decide ((fs.getD y.1 0).num.sign>0))).tS) (sH (fun v W h=>zG (c:=(decide ((y.1:Int)<((rvs 1 fs).length:Int)))=true) (f:=(uI ((fs.getD y.1 0).num.sign)).tS) e h) fnz) (fun _ _ h _=>h) kA (zJ .i64 ((fs.getD y.1 0).num.sign) 0 (decide ((fs.getD y.1 0).num.sign>0)) iiz iiz rfl rfl)) (fun e W h=>absurd h e))<|oc (zT (decide ((y.1:Int)<((rvs 1 fs).length:Int))) iiz (fun e v W h=>zBH (zG e h) e) (fun e v W h=>zBc h e))<|zC) fun a w9 s=>zS6 (fun a w=>St wl [(0,.u (uI (N:Int))),(1,.u (UF.eq lj)),(2,.u (UF.eq lf)),(7,.u (UF.eq (y.2))),(8,.u (uI (y.1:Int)))] [⟨10,32,CU.agg (fQN (zFd fs y.1)),h5,false⟩,⟨9,47,CU.agg (fJn (js.getD y.1 (0,0))),b9,false⟩] f28.ntmps [] a w) ?_ ?_
   .refine StS.cond s ((decide ((y.1:Int)<((rvs 1 fs).length:Int)))&&(decide ((fs.getD y.1 0).num.sign>0))) iiz (fun e=>?_) (fun e=>?_)
    .have he:y.1<fs.length:=by have h7:=xW (rR.1 e).1;simp only[xT]at h7;omega
     have h2:(zFd fs y.1)=(fs.getD y.1 0):=by unfold zFd;rw[if_pos];simp only[xU,zEd,bE]at e;exact e.2
     refine rgK 5 ((61,.Z (UF.eq lf))::(62,.Z (uI (y.1:Int)))::(63,.Y (fRV 1 (fs.getD y.1 0)))::(64,.Z (fRV 1 (fs.getD y.1 0)))::(65,.u (fQN (fs.getD y.1 0)))::[]) s
      (oc zA<|oc zA<|oc (zL (z:=3) (Cs:=rvs 1 fs) (i:=y.1) (C:=CU.agg (fRV 1 (fs.getD y.1 0))) kA (zEH (k:=y.1) (by first|exact he|(have h7:=xW e;simp only[xT]at h7;omega))) (y7 hd s) iiz)<|oc (yJ (f:=fRV 1 (fs.getD y.1 0)) 3 kA (hz:=zBu _ _))<|oc (zK zD zOo (fun u0 W J (h0:RVp 1 (fs.getD y.1 0) u0 W)=>zEl h0 dA))<|zC) fun a w10 s=>zBs (CU.agg (fQN (fs.getD y.1 0))) ((fQN (fs.getD y.1 0)).tS) rfl s kA rfl rfl rfl (yV _) iiz yO fun a w s=>zF rfl ?_
     rw[h2]
     exact s.keepK _ (sH mz6<|sH mz7<|sH mz8<|sH mz9<|sH zC1 fnz)
    .have h2:(zFd fs y.1)=0:=by
      unfold zFd
      refine if_neg fun h0=>?_
      rw[zEd,eY h0,Bool.and_true]at e
      have e6:=mB e
      simp only[xT]at e6
      have e7:fs.length<=y.1:=oA
      rw[nX,uX e7]at h0
      exact absurd h0 dA
     refine nQ ?_
     rw[h2]
     exact s.keepK _ (sH mz5<|sH mz6<|sH mz7<|sH mz8<|sH mz9 fnz)
   .intro a w s
    have hn9:=s.inB_new (q:=b9) ⟨_,mz1,rfl,rfl⟩
    have hn10:=s.inB_new (q:=h5) ⟨_,.head _,rfl,rfl⟩
    have hs: ¬y.2.ownBlock=some b9:=fun hh=>by have:=(O.lt _ hh).2;omega
    have hn: ¬y.2.ownBlock=some h5:=fun hh=>by have:=(O.lt _ hh).2;omega
    obtain⟨far,efar⟩:∃q,(zFd fs y.1)=q:=⟨_,rfl⟩
    rw[efar]at s
    obtain⟨hne,ht,hB⟩:=zC3 h3
    obtain⟨hE,ha⟩:=y5 ht
    obtain⟨hy,hc⟩:=y5 hB
    obtain⟨a_,ea⟩:∃a,(js.getD y.1 (0,0)).1.toNat=a:=⟨_,rfl⟩
    obtain⟨b_,eb⟩:∃b,(js.getD y.1 (0,0)).2.toNat=b:=⟨_,rfl⟩
    rw[ea]at hE ha
    rw[eb]at hy hc
    have hrl:=zBN N js fs y.1
    replace s:StS _ _ _ [⟨10,32,CU.agg (fQN far),h5,true⟩,⟨9,47,CU.agg (fJn (js.getD y.1 (0,0))),b9,true⟩] _ _ _ _:=s.freeze
    have J:=s.below
    replace I:=I.trans (J.mono I.size)
    replace O:=O.below J
    replace s:=s.anewB rfl rfl
    refine zA1 14 ((66,.u (UF.eq (y.2)))::(67,.X (fJn (js.getD y.1 (0,0))) 0)::(68,.Z (uI ((js.getD y.1 (0,0)).1)))::(69,.X (fJn (js.getD y.1 (0,0))) 1)::(70,.Z (uI ((js.getD y.1 (0,0)).2)))::(71,.Z (fQN far))::(72,.Z (fRd (a_,(b_,far))))::(73,.X (fJn (js.getD y.1 (0,0))) 1)::(74,.Z (uI ((js.getD y.1 (0,0)).2)))::(75,.X (fJn (js.getD y.1 (0,0))) 0)::(76,.Z (uI ((js.getD y.1 (0,0)).1)))::(77,.Z (fQN far))::(78,.Z (fRd (b_,(a_,far))))::(79,.s (SF.row 5 [CU.agg (fRd (a_,(b_,far))),CU.agg (fRd (b_,(a_,far)))]))::[]) s kA
     (oc zA<|oc (zO (C:=cg (fJn (js.getD y.1 (0,0)))) 0 kA)<|oc (yK (C:=cg (fJn (js.getD y.1 (0,0)))) (k:=0) kA (h:=zQJ))<|oc (zO (C:=cg (fJn (js.getD y.1 (0,0)))) 1 kA)<|oc (yK (C:=cg (fJn (js.getD y.1 (0,0)))) (k:=1) kA (h:=zQI))<|oc (yJ (f:=fQN far) 3 kA (hz:=yV _))<|oc (zGo (fun u v q W (hu:u=.int .i64 ((js.getD y.1 (0,0)).1)) (hv:v=.int .i64 ((js.getD y.1 (0,0)).2)) (hq:QNp far q W)=>zUh (x:=(a_,(b_,far))) (hu.trans (vX (Value.int .i64) ha.symm)) (hv.trans (vX (Value.int .i64) hc.symm)) hq))<|oc (zO (C:=cg (fJn (js.getD y.1 (0,0)))) 1 kA)<|oc (yK (C:=cg (fJn (js.getD y.1 (0,0)))) (k:=1) kA (h:=zQI))<|oc (zO (C:=cg (fJn (js.getD y.1 (0,0)))) 0 kA)<|oc (yK (C:=cg (fJn (js.getD y.1 (0,0)))) (k:=0) kA (h:=zQJ))<|oc (yJ (f:=fQN far) 3 kA (hz:=yV _))<|oc (zGo (fun u v q W (hu:u=.int .i64 ((js.getD y.1 (0,0)).2)) (hv:v=.int .i64 ((js.getD y.1 (0,0)).1)) (hq:QNp far q W)=>zUh (x:=(b_,(a_,far))) (hu.trans (vX (Value.int .i64) hc.symm)) (hv.trans (vX (Value.int .i64) ha.symm)) hq))<|oc (y8 (fun u v W (hu:(fRd (a_,(b_,far))).p u W) (hv:(fRd (b_,(a_,far))).p v W)=>zRq hu hv))<|zC) fun a w11 s hr=>?_
    have J:=s.below
    replace I:=I.trans (J.mono I.size)
    replace O:=O.below J
    refine zFw (base:=W.heap.size) (z:=5) (e:=59) (v:=y.2) (Cs:=rqs (jX N js fs y.1)) [CU.agg (fRd (a_,(b_,far))),CU.agg (fRd (b_,(a_,far)))] s O I.size rfl kA kA rfl rfl (s.fct (.tmp 66)) (hr (_,_) zGN) (fun C hC=>by simp only[xX,rL,rM]at hC;rcases hC with rfl|rfl<;>exact zS0 _) (by simp only[xT,fN,lM];omega) (sH (fun h=>hn h)<|sH (fun h=>hs h) fnz) fun ho a w hD hA hk1 hor s=>?_
    replace I:=yD I hA (fun q_ hq=>(O.lt q_ hq).1)
    replace O:=hD
    rw[show rqs (jX N js fs y.1)++ [CU.agg (fRd (a_,(b_,far))),CU.agg (fRd (b_,(a_,far)))]=rqs (jX N js fs y.1++ [(a_,(b_,far)),(b_,(a_,far))])from eN]at O
    replace s:=s.drop [7]
    refine yN (UF.eq ho) rfl s kA iiz fun a w s=>zF rfl ?_
    have J:=s.below
    replace I:=I.trans (J.mono I.size)
    replace O:=O.below J
    replace s:=s.anewB rfl rfl
    refine zP 2 ((15,.Z (uI (y.1:Int)))::(16,.u (uI ((y.1+1:Nat):Int)))::[]) s kA
     (oc zA<|oc (yL .i64 (y.1:Int) 1 ((y.1+1:Nat):Int) iiz iiz (wrap64 _ _ oA oA))<|zC) fun a w12 s=>?_
    replace s:=s.drop [8]
    refine yN (uI ((y.1+1:Nat):Int)) rfl s kA iiz fun a w s=>zF rfl ?_
    have J:=s.below
    replace I:=I.trans (J.mono I.size)
    replace O:=O.below J
    replace s:=s.anewB rfl rfl
    have J:=s.below
    replace I:=I.trans (J.mono I.size)
    replace O:=O.below J
    replace s:=s.popB
    replace s:=s.popB
    replace s:=s.anewB rfl rfl
    have h8:jX N js fs (y.1+1)=jX N js fs y.1++ [(a_,(b_,far)),(b_,(a_,far))]:=by rw[zBR];unfold zFn;rw[if_pos h3,<-efar,<-ea,<-eb]
    exact⟨(y.1+1,ho),(by show js.length-(y.1+1)<js.length-y.1;omega),h1,I,by rw[h8];exact O,s.keepK _ (sH mz5<|sH mz6<|sH mz7<|sH mz2<|sH (.head _) fnz)⟩
 .have h1:y.1=js.length:=by have h7:=mB e;simp only[xT]at h7;omega
  refine rG<|rgQ ((81,.Z (UF.eq (y.2)))::(6,.u (UF.eq (y.2)))::[]) s
   (oc zA<|oc zE<|zC) fun a w13 s=>?_
  have J:=s.below
  replace I:=I.trans (J.mono I.size)
  replace O:=O.below J
  replace s:=s.anewB rfl rfl
  refine nR ?_
  rw[h1]at O
  exact StS.resN s I rfl (by rw[show a.tmps.getD _ undef=_ from s.fct (.tmp 6)];exact O.below s.below)
theorem zCj{la lb:List Int}(hu:(SF.row 1 (ins la)).p u W)(hv:(SF.row 1 (ins lb)).p v W)(hl:la.length<=1000000):Calls prog 19 #[u,v] W (Ret W (fB (la==lb)).tS):=by
 refine y2 [SF.row 1 (ins la),SF.row 1 (ins lb)] func19 rfl kA ⟨hu,hv,trivial⟩ fun a s=>rgQ ((4,.u (uB false))::[]) s
  (oc zE<|zC) fun a w1 s=>fK<|rgQ ((6,.s (SF.row 1 (ins la)))::(7,.Z (uI ((ins la).length:Int)))::(8,.s (SF.row 1 (ins lb)))::(9,.Z (uI ((ins lb).length:Int)))::(10,.u (uB (((ins la).length:Int) !=((ins lb).length:Int))))::[]) s
  (oc zA<|oc (zCm (z:=1) (Cs:=ins la) kA iiz (fun _=>rfl))<|oc zA<|oc (zCm (z:=1) (Cs:=ins lb) kA iiz (fun _=>rfl))<|oc (zJ .i64 ((ins la).length:Int) ((ins lb).length:Int) (((ins la).length:Int) !=((ins lb).length:Int)) iiz iiz rfl rfl)<|zC) fun a w2 s=>StS.cond s (((ins la).length:Int) !=((ins lb).length:Int)) iiz (fun e=>?_) (fun e=>?_)
 .have I:(la==lb)=false:=by rw[mF];intro h;rw[h]at e;simp at e
  refine fK ?_
  replace s:=s.drop [4]
  exact rgE ((4,.u (uB false))::[]) s
   (oc zE<|zC) fun a w3 s=>nR<|wG s (t:=4) rfl (fun v W h=>by rw[I];exact h)
 .have h0:la.length=lb.length:=by simp only[xT,bne_eq_false_iff_eq]at e;omega
  refine nQ<|fK<|rgQ ((5,.u (uI 0))::[]) s
   (oc zE<|zC) fun a w4 s=>rF<|yC (fun(y:Nat) a w=>y<=la.length/\(∀k,k<y->la.getD k 0=lb.getD k 0)/\St W [(0,.o (SF.row 1 (ins la))),(1,.o (SF.row 1 (ins lb))),(5,.u (uI ((y:Nat):Int)))] [] f19.ntmps [] a w) (fun y=>la.length-y) 0 ⟨vS _,fun k hk=>absurd hk (pC _),s.keepK _ (sH mz3<|sH mz4<|sH (.head _) fnz)⟩ fun y a w hx=>?_
  obtain⟨hk,J,s⟩:=hx
  refine fK<|rgQ ((11,.Z (uI (y:Int)))::(12,.s (SF.row 1 (ins la)))::(13,.Z (uI ((ins la).length:Int)))::(14,.u (uB (decide ((y:Int)<((ins la).length:Int)))))::[]) s
   (oc zA<|oc zA<|oc (zCm (z:=1) (Cs:=ins la) kA iiz (fun _=>rfl))<|oc (zJ .i64 (y:Int) ((ins la).length:Int) (decide ((y:Int)<((ins la).length:Int))) iiz iiz rfl rfl)<|zC) fun a w5 s=>StS.cond s (decide ((y:Int)<((ins la).length:Int))) iiz (fun e=>?_) (fun e=>?_)
  .have O:y<la.length:=by have h7:=xW e;simp only[xT]at h7;omega
   have h6:y<lb.length:=oA
   refine nQ<|fK<|rF<|rgQ ((17,.s (SF.row 1 (ins la)))::(18,.Z (uI (y:Int)))::(19,.s (wB (wC [.int .i64 (la.getD y 0)]).cf))::(20,.Z (uI (la.getD y 0)))::(21,.s (SF.row 1 (ins lb)))::(22,.Z (uI (y:Int)))::(23,.s (wB (wC [.int .i64 (lb.getD y 0)]).cf))::(24,.Z (uI (lb.getD y 0)))::(25,.u (uB ((la.getD y 0) !=(lb.getD y 0))))::[]) s
    (oc zA<|oc zA<|oc (zCE (z:=1) (Cs:=ins la) (i:=y) (C:=wC [.int .i64 (la.getD y 0)]) kA (qC O) iiz iiz)<|oc (z5 (C:=(wC [.int .i64 (la.getD y 0)]).cf) kA iiz yT)<|oc zA<|oc zA<|oc (zCE (z:=1) (Cs:=ins lb) (i:=y) (C:=wC [.int .i64 (lb.getD y 0)]) kA (qC h6) iiz iiz)<|oc (z5 (C:=(wC [.int .i64 (lb.getD y 0)]).cf) kA iiz yT)<|oc (zJ .i64 (la.getD y 0) (lb.getD y 0) ((la.getD y 0) !=(lb.getD y 0)) iiz iiz rfl rfl)<|zC) fun a w6 s=>StS.cond s ((la.getD y 0) !=(lb.getD y 0)) iiz (fun e=>?_) (fun e=>?_)
   .have I:(la==lb)=false:=by rw[mF];intro h;rw[h]at e;simp at e
    exact rgQ ((4,.u (uB false))::[]) s
     (oc zE<|zC) fun a w7 s=>nR<|wG s (t:=4) rfl (fun v W h=>by rw[I];exact h)
   .have h4:la.getD y 0=lb.getD y 0:=by simpa using e
    refine nQ<|zP 2 ((15,.Z (uI (y:Int)))::(16,.u (uI ((y+1:Nat):Int)))::[]) s kA
     (oc zA<|oc (yL .i64 (y:Int) 1 ((y+1:Nat):Int) iiz iiz (wrap64 _ _ oA oA))<|zC) fun a w8 s=>?_
    replace s:=s.drop [5]
    exact yN (uI ((y+1:Nat):Int)) rfl s kA iiz fun a w s=>zF rfl<|⟨y+1,(by show la.length-(y+1)<la.length-y;omega),O,(fun k hk'=>by
     rcases xZ k y with h|h
     .exact J k h
     .have:k=y:=oA
      rw[this];exact h4),s.keepK _ (sH mz4<|sH mz5<|sH (.head _) fnz)⟩
  .have hye:y=la.length:=by have h7:=mB e;simp only[xT]at h7;omega
   have h5:(la==lb)=true:=by rw[bH];exact gE h0 fun k h1 h2=>by have:=J k oA;simpa[h1,h2]using this
   exact rG<|rgQ ((4,.u (uB true))::[]) s
    (oc zE<|zC) fun a w9 s=>nR<|wG s (t:=4) rfl (fun v W h=>by rw[h5];exact h)
abbrev qzs(l:List Int):List Rat:=l.map fun z:Int=>(z:Rat)
theorem zNL(l:List Int){k:Nat}(I:k<l.length):qns ((qzs l).take k)++ [CU.agg (fQN ((l.getD k 0:Int):Rat))]=qns ((qzs l).take (k+1)):=by
 have h:k<(qzs l).length:=by simpa using I
 rw[fT h]
 unfold qns
 rw[pB]
 congr 1
 simp[I]
theorem zL2{l:List Int}{lv:WD}(hl:(SF.row 1 (ins l)).p lv W)(hll:l.length<=1000)(h9:∀k,k<l.length->-9223372036854775808<=l.getD k 0/\l.getD k 0<=9223372036854775807):Calls prog 25 #[lv] W (Ret W (wD W 32 3 (qns (qzs l)))):=by
 have h:Below W.heap.size W W:=xF _ _
 have I:=hl
 refine y2 [(UF.eq lv).tS] func25 rfl kA ⟨rfl,trivial⟩ fun a s=>?_
 replace s:=s.renew [(0,.u (UF.eq lv))] (sH (.inr ⟨_,rfl,.head _⟩) fnz)
 refine rgQ ((2,.u (UF.eq (.slice none 0 0)))::[]) s
  (oc zE<|zC) fun a w1 s=>?_
 have J:=s.below
 replace h:=h.trans (J.mono h.size)
 replace I:=(SF.row 1 (ins l)).st _ _ _ I J
 replace s:=s.anewB rfl rfl
 refine rgQ ((3,.u (UF.eq (.slice none 0 0)))::[]) s
  (oc zE<|zC) fun a w2 s=>?_
 have J:=s.below
 replace h:=h.trans (J.mono h.size)
 replace I:=(SF.row 1 (ins l)).st _ _ _ I J
 replace s:=s.anewB rfl rfl
 refine fK<|rgQ ((4,.u (uI 0))::[]) s
  (oc zE<|zC) fun a w3 s=>?_
 have J:=s.below
 replace h:=h.trans (J.mono h.size)
 replace I:=(SF.row 1 (ins l)).st _ _ _ I J
 replace s:=s.anewB rfl rfl
 refine rF ?_
 have O:y9 w3 W.heap.size 32 3 (.slice none 0 0) (qns ((qzs l).take 0)):=y9.nil _ _ _ _
 refine yC (fun(y:Nat×WD) a w=>y.1<=l.length/\Below W.heap.size W w/\(SF.row 1 (ins l)).p lv w/\y9 w W.heap.size 32 3 y.2 (qns ((qzs l).take y.1))/\St w [(0,.u (UF.eq lv)),(3,.u (UF.eq (y.2))),(4,.u (uI (y.1:Int)))] [] f25.ntmps [] a w) (fun y=>l.length-y.1) (0,.slice none 0 0) ⟨vS _,h,I,O,s.keepK _ (sH mz3<|sH mz1<|sH (.head _) fnz)⟩ fun y a w hx=>?_
 clear h I O
 obtain⟨hk,h,I,O,s⟩:=hx
 refine fK<|rgQ ((5,.Z (uI (y.1:Int)))::(6,.Z (UF.eq lv))::(7,.Z (uI ((ins l).length:Int)))::(8,.u (uB (decide ((y.1:Int)<((ins l).length:Int)))))::[]) s
  (oc zA<|oc zA<|oc (qZ (z:=1) (Cs:=ins l) kA (y7 I s) (fun _=>rfl))<|oc (zJ .i64 (y.1:Int) ((ins l).length:Int) (decide ((y.1:Int)<((ins l).length:Int))) iiz iiz rfl rfl)<|zC) fun a w4 s=>?_
 have J:=s.below
 replace h:=h.trans (J.mono h.size)
 replace I:=(SF.row 1 (ins l)).st _ _ _ I J
 replace O:=O.below J
 replace s:=s.anewB rfl rfl
 refine StS.cond s (decide ((y.1:Int)<((ins l).length:Int))) iiz (fun e=>?_) (fun e=>?_)
 .have h1:y.1<l.length:=by have h7:=xW e;simp only[xT]at h7;omega
  refine nQ<|fK<|rF<|zA1 7 ((11,.u (UF.eq (y.2)))::(12,.Z (UF.eq lv))::(13,.Z (uI (y.1:Int)))::(14,.s (wB (wC [.int .i64 (l.getD y.1 0)]).cf))::(15,.Z (uI (l.getD y.1 0)))::(16,.Z (fQN ((l.getD y.1 0:Int):Rat)))::(17,.s (wD w4 32 3 [CU.agg (fQN ((l.getD y.1 0:Int):Rat))]))::[]) s kA
   (oc zA<|oc zA<|oc zA<|oc (zL (z:=1) (Cs:=ins l) (i:=y.1) (C:=wC [.int .i64 (l.getD y.1 0)]) kA (qC h1) (y7 I s) iiz)<|oc (z5 (C:=(wC [.int .i64 (l.getD y.1 0)]).cf) kA iiz yT)<|oc (zK zD zFe (fun u0 W J (h0:u0=.int .i64 (l.getD y.1 0))=>zHf _ h0 (h9 _ h1)))<|oc (zBd (fun u W J (hu:QNp ((l.getD y.1 0:Int):Rat) u W)=>by obtain⟨cs,g1,g2⟩:=zRr hu;exact⟨_,cs,g1,g2.toN J.size rfl⟩))<|zC) fun a w5 s hr=>?_
  have J:=s.below
  replace h:=h.trans (J.mono h.size)
  replace I:=(SF.row 1 (ins l)).st _ _ _ I J
  replace O:=O.below J
  have h2:=(hr (_,_) mz6)
  refine zFw (base:=W.heap.size) (z:=3) (e:=32) (v:=y.2) (Cs:=qns ((qzs l).take y.1)) [CU.agg (fQN ((l.getD y.1 0:Int):Rat))] s O h.size rfl kA kA rfl rfl (s.fct (.tmp 11)) (y9.row h2) (fun C hC=>by obtain rfl:=nY.1 hC;exact zRN _) (by simp only[xT,uG,rI];omega) (fun q hq=>by cases hq) fun v' a w h6 h3 hk1 hor s=>?_
  replace I:=(SF.row 1 (ins l)).st _ _ _ hl (yD h h3 (fun q hq=>(O.lt q hq).1))
  replace h:=yD h h3 (fun q hq=>(O.lt q hq).1)
  replace O:=h6
  rw[zNL l h1]at O
  replace s:=s.drop [3]
  refine yN (UF.eq v') rfl s kA iiz fun a w s=>zF rfl ?_
  have J:=s.below
  replace h:=h.trans (J.mono h.size)
  replace I:=(SF.row 1 (ins l)).st _ _ _ I J
  replace O:=O.below J
  replace s:=s.anewB rfl rfl
  refine zP 2 ((9,.Z (uI (y.1:Int)))::(10,.u (uI ((y.1+1:Nat):Int)))::[]) s kA
   (oc zA<|oc (yL .i64 (y.1:Int) 1 ((y.1+1:Nat):Int) iiz iiz (wrap64 _ _ oA oA))<|zC) fun a w6 s=>?_
  replace s:=s.drop [4]
  refine yN (uI ((y.1+1:Nat):Int)) rfl s kA iiz fun a w s=>zF rfl ?_
  have J:=s.below
  replace h:=h.trans (J.mono h.size)
  replace I:=(SF.row 1 (ins l)).st _ _ _ I J
  replace O:=O.below J
  replace s:=s.anewB rfl rfl
  exact⟨(y.1+1,v'),(by show l.length-(y.1+1)<l.length-y.1;omega),h1,h,I,O,s.keepK _ (sH mz6<|sH mz2<|sH (.head _) fnz)⟩
 .have h8:y.1=l.length:=by have h7:=mB e;simp only[xT]at h7;omega
  refine rG<|rgQ ((19,.Z (UF.eq (y.2)))::(2,.u (UF.eq (y.2)))::[]) s
   (oc zA<|oc zE<|zC) fun a w7 s=>?_
  have J:=s.below
  replace h:=h.trans (J.mono h.size)
  replace I:=(SF.row 1 (ins l)).st _ _ _ I J
  replace O:=O.below J
  replace s:=s.anewB rfl rfl
  refine nR ?_
  rw[h8,mJ eN]at O
  exact StS.resN s h rfl (by rw[show a.tmps.getD _ undef=_ from s.fct (.tmp 2)];exact O.below s.below)
theorem zUq(a b:Int):zV prog 24 2 [(0,.int .i64 a),(1,.int .i64 b)]=some (3,#[.int .i64 a,.int .i64 b]):=rZ
theorem zUp(a b c:Int):zV prog 24 3 [(0,.int .i64 a),(1,.int .i64 b),(2,.int .i64 c)]=some (3,#[.int .i64 a,.int .i64 b,.int .i64 c]):=rZ
theorem zUo(a b c d:Int):zV prog 24 4 [(0,.int .i64 a),(1,.int .i64 b),(2,.int .i64 c),(3,.int .i64 d)]=some (3,#[.int .i64 a,.int .i64 b,.int .i64 c,.int .i64 d]):=rZ
theorem zEN(l:List Int)(W:WB)(O:l.length<=1000):q9 (W.alloc (.cells (l.map (fun z=>Value.int .i64 z)).toArray 3)) W.heap.size 3 1 l.length (ins l):=by
 refine⟨_,bT W _,eN,xQ O dA,eN,by simp[z9],fun i C J=>?_⟩
 rw[gI]
 have I:i<l.length:=by
  rcases xZ i l.length with h|h
  .exact h
  .rw[uX (by simpa using h)]at J;cases J
 have e:wC [.int .i64 (l.getD i 0)]=C:=by rw[qC I]at J;exact mE J
 rw[<-e]
 show((l.map (fun z=>Value.int .i64 z)).toArray.toList.drop i).take 1=[Value.int .i64 (l.getD i 0)]
 show((l.map (fun z=>Value.int .i64 z)).drop i).take 1=_
 rw[List.take_one,List.head?_drop]
 simp[I]
theorem zTX(a b:Int):prog.built 47 [(0,.int .i64 a),(1,.int .i64 b)]=some #[.int .i64 a,.int .i64 b]:=rZ
theorem zSV(a b c d e f:Int):zV prog 22 3 [(0,.agg #[.int .i64 a,.int .i64 b]),(1,.agg #[.int .i64 c,.int .i64 d]),(2,.agg #[.int .i64 e,.int .i64 f])]=some (47,#[.int .i64 a,.int .i64 b,.int .i64 c,.int .i64 d,.int .i64 e,.int .i64 f]):=rZ
theorem zNs(a b c d e f:Int)(W:WB):q9 (W.alloc (.cells #[.int .i64 a,.int .i64 b,.int .i64 c,.int .i64 d,.int .i64 e,.int .i64 f] 47)) W.heap.size 47 2 3 (jns [(a,b),(c,d),(e,f)]):=by
 refine⟨_,bT W _,vR _,rY,rfl,rfl,fun i C h=>?_⟩
 match i,h with
 |0,h=>obtain rfl:=mE h;rfl
 |1,h=>obtain rfl:=mE h;rfl
 |2,h=>obtain rfl:=mE h;rfl
 |i+3,h=>simp at h
def tnB(x:QX):Bool:=decide (x.n<=1)&&decide (x.n'<=1)&&(decide (x.n=0)||decide (x.k.natAbs<=999))&&(decide (x.n'=0)||decide (x.d<=12))
def zC7(n x:Nat):UF:=.mk' (LVx n x) fun _ _ _ ⟨A,c,l,e,h1,h2,h3⟩ u=>⟨A,c,l,e,h1.keepU u,h2,h3⟩
theorem zEA{k:Int}{d:Nat}(cs:List WD)(W:WB)(h:(CU.agg (fQX n n' k d)).p cs W):∃u,cs[1]?=some u/\LVx n k.natAbs u W:=by
 obtain⟨b,s,t,e,⟨sg,A,c,l,I,O,J,h3⟩,_⟩:=h
 rw[zAM e]
 have:=vX Array.toList (zA7 I)
 simp at this
 exact⟨s,rfl,A,c,l,this.2,O,J,by rw[<-h3,zHA]⟩
theorem zGT{k:Int}{d:Nat}(cs:List WD)(W:WB)(h:(CU.agg (fQX n n' k d)).p cs W):∃u,cs[2]?=some u/\LVx n' d u W:=by
 obtain⟨b,s,t,e,_,I⟩:=h
 rw[zAM e]
 exact⟨t,rfl,I⟩
theorem zLQ{x:Nat}(hn:n=1)(h:LVx n x v W):(SF.row 1 [wC [.int .u32 (x:Int)]]).p v W:=by
 subst hn
 obtain⟨A,c,l,rfl,I,h2,h3⟩:=h
 refine⟨A,c,rfl,I.le,I.cap,I.nil,fun i C J=>?_⟩
 have hl:=I.len
 match l,hl with
 | [z],_=>
  obtain⟨b,o,e,hc⟩:=I.cells 0 oA
  have O:x=z:=by rw[<-h3];simp[val,sm,lm]
  cases i with
  | zero=>
   obtain rfl:wC [.int .u32 (x:Int)]=C:=by simpa using J
   refine⟨b,o,_,e,fun j u hj=>?_,rfl⟩
   cases j with
   |zero=>
    obtain rfl:Value.int .u32 (x:Int)=u:=by simpa using hj
    rw[O]
    simpa[lm]using hc
   |succ j=>simp at hj
  |succ i=>simp at J
theorem zRX{x:Nat}(I:n=0)(h:LVx n x v W):x=0:=by
 subst I
 obtain⟨A,c,l,rfl,J,h2,O⟩:=h
 rw[<-O,xL J.len]
 rfl
theorem zIO{x:QX}(hx:QXp x.n x.n' x.k x.d v W)(h:tnB x=true):x.n<=1/\x.n'<=1/\x.k.natAbs<=999/\x.d<=12:=by
 unfold tnB at h
 simp only[xU,bZ,bE]at h
 obtain⟨⟨⟨h1,O⟩,J⟩,I⟩:=h
 obtain⟨b,s,t,e,⟨sg,A,c,l,e1,g1,g2,g3⟩,h5⟩:=hx
 refine⟨h1,O,?_,?_⟩
 .rcases J with J|J
  .have:l=[]:=xL (by rw[g1.len];exact J)
   subst this
   rw[<-g3,zHA]
   exact vS _
  .exact J
 .rcases I with I|I
  .rw[zRX I h5];exact vS _
  .exact I
theorem zMw{d:Nat}(h0:d≠0)(h:d<=12):∃e:Nat,27720=d*e/\e<=27720:=by
 have I:d=1∨d=2∨d=3∨d=4∨d=5∨d=6∨d=7∨d=8∨d=9∨d=10∨d=11∨d=12:=oA
 refine⟨27720/d,?_,nZ _ _⟩
 rcases I with rfl|rfl|rfl|rfl|rfl|rfl|rfl|rfl|rfl|rfl|rfl|rfl<;>decide
theorem zUm{k:Int}{d:Nat}(hk:k.natAbs<=999)(hd:d<=12)(hq:0<=mkRat k d):∃j:Nat,mkRat k d*27720=(j:Rat)/\j<=27692280:=by
 by_cases h0:d=0
 .subst h0
  exact⟨0,eN,oA⟩
 .obtain⟨e,he,I⟩:=zMw h0 hd
  have hdr:(d:Rat)≠0:=fun h=>h0 (by exact_mod_cast h)
  have J:mkRat k d*27720=((k*(e:Int):Int):Rat):=by
   have e2:(27720:Rat)=(d:Rat)*(e:Rat):=by
    have O:((27720:Nat):Rat)=((d*e:Nat):Rat):=vX _ he
    rwa [Rat.natCast_mul]at O
   rw[Rat.mkRat_eq_div,e2,rT,rO]
   grind
  have hp:0<=k*(e:Int):=by
   have h5:(0:Rat)<=((k*(e:Int):Int):Rat):=by
    rw[<-J]
    exact Rat.mul_nonneg hq (by decide+kernel)
   exact_mod_cast h5
  refine⟨(k*(e:Int)).toNat,?_,?_⟩
  .rw[J,<-rO,Int.toNat_of_nonneg hp]
  .have h6:(k*(e:Int)).natAbs=k.natAbs*e:=by rw[pH,pD]
   have h7:k.natAbs*e<=999*27720:=gJ hk I
   omega
theorem zRi(h:∀q,q∈fs->0<=q->∃j:Nat,q*27720=(j:Rat)/\j<=27692280)(i:Nat):∃j:Nat,zFd fs i*27720=(j:Rat)/\j<=27692280:=by
 unfold zFd
 split
 .rename_i hp
  rcases xZ i fs.length with I|I
  .have J:fs.getD i 0∈fs:=by rw[nX,mD I];exact uO I
   exact h _ J (Rat.le_of_lt hp)
  .rw[nX,uX I]
   exact⟨0,eN,oA⟩
 .exact⟨0,eN,oA⟩
abbrev qxs(L:List QX):List CU:=L.map wE
def g28(n:Int)(js:List (Int×Int))(L:List QX):Bool:=((decide (n>20)||decide (((jns js).length:Int)>60))||decide (((qxs L).length:Int)>60))|| !(L.all tnB)
theorem zR5{n:Int}(h:g28 n js L=false):n<=20/\js.length<=60/\L.length<=60/\∀x,x∈L->tnB x=true:=by
 unfold g28 at h
 rw[bL,bL,bL,rQ]at h
 obtain⟨⟨⟨O,I⟩,J⟩,h4⟩:=h
 have O:=mB O
 have I:=mB I
 have J:=mB J
 rw[xT]at I J
 exact⟨oA,oA,oA,fun x hx=>xR.1 h4 x hx⟩
abbrev qvs(L:List QX):List Rat:=L.map fun x=>mkRat x.k x.d
theorem zUr{k:Int}{d:Nat}(h:QXp n n' k d v W)(h1:n<=m)(h2:n'<=m):RVp m (mkRat k d) v W:=⟨k,d,zS2 h h1 h2,rfl⟩
theorem zRI{k:Int}{d:Nat}(h:(fQX n n' k d).p v W):(CU.agg (fQX n n' k d)).p v.cells.toList W/\v.cells.toList.all z9=true:=by
 have I:=h
 obtain⟨b,s,t,rfl,⟨sg,A,c,l,J,_⟩,A',c',l',rfl,_⟩:=h
 have:=vX Array.toList (zA7 J)
 simp at this
 rw[this.1,this.2]at I ⊢
 exact⟨I,rfl⟩
theorem zI4(hl:Cs.length=Ds.length)(h:∀(i:Nat) (C D:CU),Cs[i]?=some C->Ds[i]?=some D->∀cs W,C.p cs W->D.p cs W)(v:WD)(W:WB)(hv:(SF.row z Cs).p v W):(SF.row z Ds).p v W:=by
 obtain⟨A,c,e,J,h3,h4,h5⟩:=hv
 rw[hl]at e J
 refine⟨A,c,e,J,h3,h4,fun i D O=>?_⟩
 have I:i<Cs.length:=by rw[hl];exact(cD.1 O).1
 obtain⟨b,o,cs,g1,g2,g3⟩:=h5 i _ (mD I)
 exact⟨b,o,cs,g1,g2,h i _ _ (mD I) O cs W g3⟩
theorem zCJ{d:Tmp}{z q:WK}(hF:zHT F m P)(O:Enters P f)(h:∀u v r s W,Below w0.heap.size w0 W->(fct G x).p u W->(fct G y).p v W->(fct G z).p r W->(fct G q).p s W->Calls P f #[u,v,r,s] W (Ret W (G d))):qR F m P w0 ops G ⟨some d,.call ⟨.value (.func f),#[x,y,z,q],ats⟩,ty,pos,aft,none⟩:=
 zCI hF O fun b W J I=>by simpa using h _ _ _ _ W J (I x eN) (I y eN) (I z eN) (I q eN)
theorem zEp{d:Tmp}{z q p:WK}(hF:zHT F m P)(O:Enters P f)(h:∀u v r s t W,Below w0.heap.size w0 W->(fct G x).p u W->(fct G y).p v W->(fct G z).p r W->(fct G q).p s W->(fct G p).p t W->Calls P f #[u,v,r,s,t] W (Ret W (G d))):qR F m P w0 ops G ⟨some d,.call ⟨.value (.func f),#[x,y,z,q,p],ats⟩,ty,pos,aft,none⟩:=
 zCI hF O fun b W J I=>by simpa using h _ _ _ _ _ W J (I x eN) (I y eN) (I z eN) (I q eN) (I p eN)
theorem zRz(h:(SF.row z (qxs L)).p v W){x:QX}(O:x∈L):∃u,QXp x.n x.n' x.k x.d u W:=by
 obtain⟨A,c,_,_,_,_,h5⟩:=h
 obtain⟨i,I⟩:=lI O
 obtain⟨b,o,cs,_,_,J⟩:=h5 i (wE x) (by rw[rJ,I];rfl)
 exact⟨_,J⟩
theorem zOV(h:∀x,x∈L->tnB x=true){v:WD}{W:WB}(O:(SF.row 3 (qxs L)).p v W):(SF.row 3 (rvs 1 (qvs L))).p v W/\∀q,q∈qvs L->0<=q->∃j:Nat,q*27720=(j:Rat)/\j<=27692280:=by
 refine⟨zI4 eN (fun i C D J hD cs W' hh=>?_) v W O,fun q hq h0=>?_⟩
 .have I:i<L.length:=by have:=(cD.1 J).1;simpa using this
  rw[rJ,mD I]at J
  rw[rJ,rJ,mD I]at hD
  cases J;cases hD
  obtain⟨h1,h2,_⟩:=zIO (x:=L[i]) hh (h _ (uO I))
  exact zUr hh h1 h2
 .obtain⟨x,hx,rfl⟩:=xG.1 hq
  obtain⟨u,hu⟩:=zRz O hx
  obtain⟨_,_,h3,h4⟩:=zIO hu (h x hx)
  exact zUm h3 h4 h0
theorem zSP{n:Int}(J:g28 n js L=false)(hN:min (max n 0) 131072=(N:Int)){v:WD}{W:WB}(h:(SF.row 3 (qxs L)).p v W):GrB N js (qvs L):=by
 obtain⟨h1,h2,_,I⟩:=zR5 J
 refine⟨oA,oA,fun i=>?_⟩
 obtain⟨j,O,g2⟩:=zRi (zOV I h).2 i
 exact⟨j,O,oA⟩
theorem zLq{x:QX}(O:QXp x.n x.n' x.k x.d u W):Calls prog 43 #[u] W (Ret W (fB (tnB x)).tS):=by
 refine y2 [(fQX x.n x.n' x.k x.d).tS] func43 rfl kA ⟨O,trivial⟩ fun a s=>fK<|rgK 0 [] s
  zC fun a w1 s=>zAZ (wE x) rfl s kA (fun v W h=>zRI h) fun b1 a w s=>yN (uB false) rfl s kA iiz fun a w s=>zF rfl<|fK ?_
 rcases(show(decide ((x.n:Int)<=1)&&decide ((x.n':Int)<=1))=false∨(decide ((x.n:Int)<=1)&&decide ((x.n':Int)<=1))=true/\(((x.n:Int)==0)||decide ((x.k.natAbs:Int)<=999))=false∨(decide ((x.n:Int)<=1)&&decide ((x.n':Int)<=1))=true/\(((x.n:Int)==0)||decide ((x.k.natAbs:Int)<=999))=true by cases(decide ((x.n:Int)<=1)&&decide ((x.n':Int)<=1))<;>cases(((x.n:Int)==0)||decide ((x.k.natAbs:Int)<=999))<;>simp)with h1|⟨h1,h2⟩|⟨h1,h2⟩
 .replace s:=s.drop [2]
  refine rgE ((3,.s (wB ((wE x).cf.at 0)))::(4,.s (wB ((wE x).cf.at 1)))::(5,.Z (zC7 x.n x.k.natAbs))::(6,.Z (uI (x.n:Int)))::(7,.Z (uB (decide ((x.n:Int)<=1))))::(8,.Z (uB (decide ((x.n:Int)<=1))))::(9,.s (SF.imp ((decide ((x.n:Int)<=1))=true) (wB ((wE x).cf.at 2))))::(10,.s (SF.imp ((decide ((x.n:Int)<=1))=true) ((zC7 x.n' x.d).tS)))::(11,.s (SF.imp ((decide ((x.n:Int)<=1))=true) ((uI (x.n':Int)).tS)))::(12,.s (SF.imp ((decide ((x.n:Int)<=1))=true) ((uB (decide ((x.n':Int)<=1))).tS)))::(13,.Z (uB false))::(14,.Z (uB false))::(20,.Z (UF.eq undef))::(28,.Z (uB false))::(29,.Z (uB false))::(34,.Z (UF.eq undef))::(41,.Z (uB false))::(2,.u (uB false))::[]) s
   (oc (zO (C:=(wE x).cf) 0 kA)<|oc (q7 (C:=(wE x).cf) 0 1 kA)<|oc (yK (C:=(wE x).cf) (k:=1) kA (h:=zEA))<|oc (zAd kA (fun v W ⟨A,c,l,e,_⟩=>⟨A,x.n,c,e,rfl⟩))<|oc (zJ .i64 (x.n:Int) 1 (decide ((x.n:Int)<=1)) iiz iiz rfl rfl)<|oc zA<|oc (zB 8 (decide ((x.n:Int)<=1)) kA iiz (fun e=>zI [] (wB ((wE x).cf.at 2)) fnz (fun _ _ h _=>h) kA (zO (C:=(wE x).cf) 2 kA)) (fun e W h=>absurd h e))<|oc (zB 8 (decide ((x.n:Int)<=1)) kA iiz (fun e=>zI [(9,wB ((wE x).cf.at 2))] ((zC7 x.n' x.d).tS) (sH (fun v W h=>zG (c:=(decide ((x.n:Int)<=1))=true) (f:=wB ((wE x).cf.at 2)) e h) fnz) (fun _ _ h _=>h) kA (yK (C:=(wE x).cf) (k:=2) kA (h:=zGT))) (fun e W h=>absurd h e))<|oc (zB 8 (decide ((x.n:Int)<=1)) kA iiz (fun e=>zI [(10,(zC7 x.n' x.d).tS)] ((uI (x.n':Int)).tS) (sH (fun v W h=>zG (c:=(decide ((x.n:Int)<=1))=true) (f:=(zC7 x.n' x.d).tS) e h) fnz) (fun _ _ h _=>h) kA (zAd kA (fun v W ⟨A,c,l,e,_⟩=>⟨A,x.n',c,e,rfl⟩))) (fun e W h=>absurd h e))<|oc (zB 8 (decide ((x.n:Int)<=1)) kA iiz (fun e=>zI [(11,(uI (x.n':Int)).tS)] ((uB (decide ((x.n':Int)<=1))).tS) (sH (fun v W h=>zG (c:=(decide ((x.n:Int)<=1))=true) (f:=(uI (x.n':Int)).tS) e h) fnz) (fun _ _ h _=>h) kA (zJ .i64 (x.n':Int) 1 (decide ((x.n':Int)<=1)) iiz iiz rfl rfl)) (fun e W h=>absurd h e))<|oc (zT (decide ((x.n:Int)<=1)) iiz (fun e v W h=>(zG e h).trans (vX Value.bool (by first|rfl|(have I:=h1;rw[e,mN]at I;exact I)))) (fun e v W h=>h.trans (vX Value.bool (by first|rfl|(have I:=h1;rw[e,mS]at I;exact I)))))<|oc zA<|oc (zB 14 false kA iiz sF (fun _ _=>trivial))<|oc (zB 14 false kA iiz sF (fun _ _=>trivial))<|oc (zB 14 false kA iiz sF (fun _ _=>trivial))<|oc (zB 14 false kA iiz sF (fun _ _=>trivial))<|oc (zB 14 false kA iiz sF (fun _ _=>trivial))<|oc (zB 14 false kA iiz sF (fun _ _=>rfl))<|oc (yH 20 undef kA iiz sF (fun _=>trivial))<|oc (yH 20 undef kA iiz sF (fun _=>trivial))<|oc (yH 20 undef kA iiz sF (fun _=>trivial))<|oc (yH 20 undef kA iiz sF (fun _=>trivial))<|oc (yH 20 undef kA iiz sF (fun _=>trivial))<|oc (yH 20 undef kA iiz sF (fun _=>trivial))<|oc (zB 14 false kA iiz sF (fun _ _=>trivial))<|oc (zT false iiz sF (fun _ _ _ h=>h))<|oc zA<|oc (zB 29 false kA iiz sF (fun _ _=>trivial))<|oc (zB 29 false kA iiz sF (fun _ _=>trivial))<|oc (zB 29 false kA iiz sF (fun _ _=>trivial))<|oc (zB 29 false kA iiz sF (fun _ _=>trivial))<|oc (zB 29 false kA iiz sF (fun _ _=>rfl))<|oc (yH 34 undef kA iiz sF (fun _=>trivial))<|oc (yH 34 undef kA iiz sF (fun _=>trivial))<|oc (yH 34 undef kA iiz sF (fun _=>trivial))<|oc (yH 34 undef kA iiz sF (fun _=>trivial))<|oc (yH 34 undef kA iiz sF (fun _=>trivial))<|oc (zB 29 false kA iiz sF (fun _ _=>trivial))<|oc (zT false iiz sF (fun _ _ _ h=>h))<|oc zE<|zC) fun a w2 s=>nR ?_
  have J:tnB x=false:=by unfold tnB;rw[pF];simp only[xU,bZ,rN,bL,bE,rH,bH,mF,xI,iff_false]at h1 ⊢;omega
  exact wG s (t:=2) rfl (fun _ _ h=>by rw[J];exact h)
 .replace s:=s.drop [2]
  refine rgE ((3,.s (wB ((wE x).cf.at 0)))::(4,.s (wB ((wE x).cf.at 1)))::(5,.Z (zC7 x.n x.k.natAbs))::(6,.Z (uI (x.n:Int)))::(7,.Z (uB (decide ((x.n:Int)<=1))))::(8,.Z (uB (decide ((x.n:Int)<=1))))::(9,.s (SF.imp ((decide ((x.n:Int)<=1))=true) (wB ((wE x).cf.at 2))))::(10,.s (SF.imp ((decide ((x.n:Int)<=1))=true) ((zC7 x.n' x.d).tS)))::(11,.s (SF.imp ((decide ((x.n:Int)<=1))=true) ((uI (x.n':Int)).tS)))::(12,.s (SF.imp ((decide ((x.n:Int)<=1))=true) ((uB (decide ((x.n':Int)<=1))).tS)))::(13,.Z (uB true))::(14,.Z (uB true))::(15,.s (wB ((wE x).cf.at 0)))::(16,.s (wB ((wE x).cf.at 1)))::(17,.Z (zC7 x.n x.k.natAbs))::(18,.Z (uI (x.n:Int)))::(19,.Z (uB ((x.n:Int)==0)))::(20,.Z (uB ((x.n:Int)==0)))::(21,.s (SF.imp (((x.n:Int)==0)=false) (wB ((wE x).cf.at 0))))::(22,.s (SF.imp (((x.n:Int)==0)=false) (wB ((wE x).cf.at 1))))::(23,.s (SF.imp (((x.n:Int)==0)=false) ((zC7 x.n x.k.natAbs).tS)))::(24,.s (SF.imp (((x.n:Int)==0)=false) (wB (wC [.int .u32 (x.k.natAbs:Int)]).cf)))::(25,.s (SF.imp (((x.n:Int)==0)=false) ((UF.eq (.int .u32 (x.k.natAbs:Int))).tS)))::(26,.s (SF.imp (((x.n:Int)==0)=false) ((uB (decide ((x.k.natAbs:Int)<=999))).tS)))::(27,.Z (uB (((x.n:Int)==0)||(decide ((x.k.natAbs:Int)<=999)))))::(28,.Z (uB false))::(29,.Z (uB false))::(34,.Z (UF.eq undef))::(41,.Z (uB false))::(2,.u (uB false))::[]) s
   (oc (zO (C:=(wE x).cf) 0 kA)<|oc (q7 (C:=(wE x).cf) 0 1 kA)<|oc (yK (C:=(wE x).cf) (k:=1) kA (h:=zEA))<|oc (zAd kA (fun v W ⟨A,c,l,e,_⟩=>⟨A,x.n,c,e,rfl⟩))<|oc (zJ .i64 (x.n:Int) 1 (decide ((x.n:Int)<=1)) iiz iiz rfl rfl)<|oc zA<|oc (zB 8 (decide ((x.n:Int)<=1)) kA iiz (fun e=>zI [] (wB ((wE x).cf.at 2)) fnz (fun _ _ h _=>h) kA (zO (C:=(wE x).cf) 2 kA)) (fun e W h=>absurd h e))<|oc (zB 8 (decide ((x.n:Int)<=1)) kA iiz (fun e=>zI [(9,wB ((wE x).cf.at 2))] ((zC7 x.n' x.d).tS) (sH (fun v W h=>zG (c:=(decide ((x.n:Int)<=1))=true) (f:=wB ((wE x).cf.at 2)) e h) fnz) (fun _ _ h _=>h) kA (yK (C:=(wE x).cf) (k:=2) kA (h:=zGT))) (fun e W h=>absurd h e))<|oc (zB 8 (decide ((x.n:Int)<=1)) kA iiz (fun e=>zI [(10,(zC7 x.n' x.d).tS)] ((uI (x.n':Int)).tS) (sH (fun v W h=>zG (c:=(decide ((x.n:Int)<=1))=true) (f:=(zC7 x.n' x.d).tS) e h) fnz) (fun _ _ h _=>h) kA (zAd kA (fun v W ⟨A,c,l,e,_⟩=>⟨A,x.n',c,e,rfl⟩))) (fun e W h=>absurd h e))<|oc (zB 8 (decide ((x.n:Int)<=1)) kA iiz (fun e=>zI [(11,(uI (x.n':Int)).tS)] ((uB (decide ((x.n':Int)<=1))).tS) (sH (fun v W h=>zG (c:=(decide ((x.n:Int)<=1))=true) (f:=(uI (x.n':Int)).tS) e h) fnz) (fun _ _ h _=>h) kA (zJ .i64 (x.n':Int) 1 (decide ((x.n':Int)<=1)) iiz iiz rfl rfl)) (fun e W h=>absurd h e))<|oc (zT (decide ((x.n:Int)<=1)) iiz (fun e v W h=>(zG e h).trans (vX Value.bool (by first|rfl|(have I:=h1;rw[e,mN]at I;exact I)))) (fun e v W h=>h.trans (vX Value.bool (by first|rfl|(have I:=h1;rw[e,mS]at I;exact I)))))<|oc zA<|oc (zB 14 true kA iiz (fun _=>zO (C:=(wE x).cf) 0 kA) arf)<|oc (zB 14 true kA iiz (fun _=>q7 (C:=(wE x).cf) 0 1 kA) arf)<|oc (zB 14 true kA iiz (fun _=>yK (C:=(wE x).cf) (k:=1) kA (h:=zEA)) arf)<|oc (zB 14 true kA iiz (fun _=>zAd kA (fun v W ⟨A,c,l,e,_⟩=>⟨A,x.n,c,e,rfl⟩)) arf)<|oc (zB 14 true kA iiz (fun _=>zJ .i64 (x.n:Int) 0 ((x.n:Int)==0) iiz iiz rfl rfl) arf)<|oc (zB 14 true kA iiz (fun _=>zA) arf)<|oc (zB 20 ((x.n:Int)==0) kA iiz (fun e=>zI [] (wB ((wE x).cf.at 0)) fnz (fun _ _ h _=>h) kA (zO (C:=(wE x).cf) 0 kA)) (fun e W h=>absurd h e))<|oc (zB 20 ((x.n:Int)==0) kA iiz (fun e=>zI [(21,wB ((wE x).cf.at 0))] (wB ((wE x).cf.at 1)) (sH (fun v W h=>zG (c:=((x.n:Int)==0)=false) (f:=wB ((wE x).cf.at 0)) e h) fnz) (fun _ _ h _=>h) kA (q7 (C:=(wE x).cf) 0 1 kA)) (fun e W h=>absurd h e))<|oc (zB 20 ((x.n:Int)==0) kA iiz (fun e=>zI [(22,wB ((wE x).cf.at 1))] ((zC7 x.n x.k.natAbs).tS) (sH (fun v W h=>zG (c:=((x.n:Int)==0)=false) (f:=wB ((wE x).cf.at 1)) e h) fnz) (fun _ _ h _=>h) kA (yK (C:=(wE x).cf) (k:=1) kA (h:=zEA))) (fun e W h=>absurd h e))<|oc (zB 20 ((x.n:Int)==0) kA iiz (fun e=>zI [(23,(zC7 x.n x.k.natAbs).tS)] (wB (wC [.int .u32 (x.k.natAbs:Int)]).cf) (sH (fun v W h=>zG (c:=((x.n:Int)==0)=false) (f:=(zC7 x.n x.k.natAbs).tS) e h) fnz) (fun _ _ h _=>h) kA (zCE (z:=1) (Cs:=[wC [.int .u32 (x.k.natAbs:Int)]]) (i:=0) (C:=wC [.int .u32 (x.k.natAbs:Int)]) kA rfl (fun v W h=>zLQ (by have I:=h1;simp at e I;omega) h) iiz)) (fun e W h=>absurd h e))<|oc (zB 20 ((x.n:Int)==0) kA iiz (fun e=>zI [(24,wB (wC [.int .u32 (x.k.natAbs:Int)]).cf)] ((UF.eq (.int .u32 (x.k.natAbs:Int))).tS) (sH (fun v W h=>zG (c:=((x.n:Int)==0)=false) (f:=wB (wC [.int .u32 (x.k.natAbs:Int)]).cf) e h) fnz) (fun _ _ h _=>h) kA (z5 (C:=(wC [.int .u32 (x.k.natAbs:Int)]).cf) kA iiz yT)) (fun e W h=>absurd h e))<|oc (zB 20 ((x.n:Int)==0) kA iiz (fun e=>zI [(25,(UF.eq (.int .u32 (x.k.natAbs:Int))).tS)] ((uB (decide ((x.k.natAbs:Int)<=999))).tS) (sH (fun v W h=>zG (c:=((x.n:Int)==0)=false) (f:=(UF.eq (.int .u32 (x.k.natAbs:Int))).tS) e h) fnz) (fun _ _ h _=>h) kA (zJ .u32 (x.k.natAbs:Int) 999 (decide ((x.k.natAbs:Int)<=999)) iiz iiz rfl rfl)) (fun e W h=>absurd h e))<|oc (zB 14 true kA iiz (fun _=>zT ((x.n:Int)==0) iiz (fun e v W h=>qH h e) (fun e v W h=>yX (zG e h) e)) arf)<|oc (zT true iiz (fun _ v W h=>h.trans (vX Value.bool h2)) sF)<|oc zA<|oc (zB 29 false kA iiz sF (fun _ _=>trivial))<|oc (zB 29 false kA iiz sF (fun _ _=>trivial))<|oc (zB 29 false kA iiz sF (fun _ _=>trivial))<|oc (zB 29 false kA iiz sF (fun _ _=>trivial))<|oc (zB 29 false kA iiz sF (fun _ _=>rfl))<|oc (yH 34 undef kA iiz sF (fun _=>trivial))<|oc (yH 34 undef kA iiz sF (fun _=>trivial))<|oc (yH 34 undef kA iiz sF (fun _=>trivial))<|oc (yH 34 undef kA iiz sF (fun _=>trivial))<|oc (yH 34 undef kA iiz sF (fun _=>trivial))<|oc (zB 29 false kA iiz sF (fun _ _=>trivial))<|oc (zT false iiz sF (fun _ _ _ h=>h))<|oc zE<|zC) fun a w3 s=>nR ?_
  have J:tnB x=false:=by unfold tnB;rw[pF];simp only[xU,bZ,rN,bL,bE,rH,bH,mF,xI,iff_false]at h1 h2 ⊢;omega
  exact wG s (t:=2) rfl (fun _ _ h=>by rw[J];exact h)
 .replace s:=s.drop [2]
  refine rgE ((3,.s (wB ((wE x).cf.at 0)))::(4,.s (wB ((wE x).cf.at 1)))::(5,.Z (zC7 x.n x.k.natAbs))::(6,.Z (uI (x.n:Int)))::(7,.Z (uB (decide ((x.n:Int)<=1))))::(8,.Z (uB (decide ((x.n:Int)<=1))))::(9,.s (SF.imp ((decide ((x.n:Int)<=1))=true) (wB ((wE x).cf.at 2))))::(10,.s (SF.imp ((decide ((x.n:Int)<=1))=true) ((zC7 x.n' x.d).tS)))::(11,.s (SF.imp ((decide ((x.n:Int)<=1))=true) ((uI (x.n':Int)).tS)))::(12,.s (SF.imp ((decide ((x.n:Int)<=1))=true) ((uB (decide ((x.n':Int)<=1))).tS)))::(13,.Z (uB true))::(14,.Z (uB true))::(15,.s (wB ((wE x).cf.at 0)))::(16,.s (wB ((wE x).cf.at 1)))::(17,.Z (zC7 x.n x.k.natAbs))::(18,.Z (uI (x.n:Int)))::(19,.Z (uB ((x.n:Int)==0)))::(20,.Z (uB ((x.n:Int)==0)))::(21,.s (SF.imp (((x.n:Int)==0)=false) (wB ((wE x).cf.at 0))))::(22,.s (SF.imp (((x.n:Int)==0)=false) (wB ((wE x).cf.at 1))))::(23,.s (SF.imp (((x.n:Int)==0)=false) ((zC7 x.n x.k.natAbs).tS)))::(24,.s (SF.imp (((x.n:Int)==0)=false) (wB (wC [.int .u32 (x.k.natAbs:Int)]).cf)))::(25,.s (SF.imp (((x.n:Int)==0)=false) ((UF.eq (.int .u32 (x.k.natAbs:Int))).tS)))::(26,.s (SF.imp (((x.n:Int)==0)=false) ((uB (decide ((x.k.natAbs:Int)<=999))).tS)))::(27,.Z (uB (((x.n:Int)==0)||(decide ((x.k.natAbs:Int)<=999)))))::(28,.Z (uB true))::(29,.Z (uB true))::(30,.s (wB ((wE x).cf.at 2)))::(31,.Z (zC7 x.n' x.d))::(32,.Z (uI (x.n':Int)))::(33,.Z (uB ((x.n':Int)==0)))::(34,.Z (uB ((x.n':Int)==0)))::(35,.s (SF.imp (((x.n':Int)==0)=false) (wB ((wE x).cf.at 2))))::(36,.s (SF.imp (((x.n':Int)==0)=false) ((zC7 x.n' x.d).tS)))::(37,.s (SF.imp (((x.n':Int)==0)=false) (wB (wC [.int .u32 (x.d:Int)]).cf)))::(38,.s (SF.imp (((x.n':Int)==0)=false) ((UF.eq (.int .u32 (x.d:Int))).tS)))::(39,.s (SF.imp (((x.n':Int)==0)=false) ((uB (decide ((x.d:Int)<=12))).tS)))::(40,.Z (uB (((x.n':Int)==0)||(decide ((x.d:Int)<=12)))))::(41,.Z (uB (((x.n':Int)==0)||(decide ((x.d:Int)<=12)))))::(2,.u (uB (((x.n':Int)==0)||(decide ((x.d:Int)<=12)))))::[]) s
   (oc (zO (C:=(wE x).cf) 0 kA)<|oc (q7 (C:=(wE x).cf) 0 1 kA)<|oc (yK (C:=(wE x).cf) (k:=1) kA (h:=zEA))<|oc (zAd kA (fun v W ⟨A,c,l,e,_⟩=>⟨A,x.n,c,e,rfl⟩))<|oc (zJ .i64 (x.n:Int) 1 (decide ((x.n:Int)<=1)) iiz iiz rfl rfl)<|oc zA<|oc (zB 8 (decide ((x.n:Int)<=1)) kA iiz (fun e=>zI [] (wB ((wE x).cf.at 2)) fnz (fun _ _ h _=>h) kA (zO (C:=(wE x).cf) 2 kA)) (fun e W h=>absurd h e))<|oc (zB 8 (decide ((x.n:Int)<=1)) kA iiz (fun e=>zI [(9,wB ((wE x).cf.at 2))] ((zC7 x.n' x.d).tS) (sH (fun v W h=>zG (c:=(decide ((x.n:Int)<=1))=true) (f:=wB ((wE x).cf.at 2)) e h) fnz) (fun _ _ h _=>h) kA (yK (C:=(wE x).cf) (k:=2) kA (h:=zGT))) (fun e W h=>absurd h e))<|oc (zB 8 (decide ((x.n:Int)<=1)) kA iiz (fun e=>zI [(10,(zC7 x.n' x.d).tS)] ((uI (x.n':Int)).tS) (sH (fun v W h=>zG (c:=(decide ((x.n:Int)<=1))=true) (f:=(zC7 x.n' x.d).tS) e h) fnz) (fun _ _ h _=>h) kA (zAd kA (fun v W ⟨A,c,l,e,_⟩=>⟨A,x.n',c,e,rfl⟩))) (fun e W h=>absurd h e))<|oc (zB 8 (decide ((x.n:Int)<=1)) kA iiz (fun e=>zI [(11,(uI (x.n':Int)).tS)] ((uB (decide ((x.n':Int)<=1))).tS) (sH (fun v W h=>zG (c:=(decide ((x.n:Int)<=1))=true) (f:=(uI (x.n':Int)).tS) e h) fnz) (fun _ _ h _=>h) kA (zJ .i64 (x.n':Int) 1 (decide ((x.n':Int)<=1)) iiz iiz rfl rfl)) (fun e W h=>absurd h e))<|oc (zT (decide ((x.n:Int)<=1)) iiz (fun e v W h=>(zG e h).trans (vX Value.bool (by first|rfl|(have I:=h1;rw[e,mN]at I;exact I)))) (fun e v W h=>h.trans (vX Value.bool (by first|rfl|(have I:=h1;rw[e,mS]at I;exact I)))))<|oc zA<|oc (zB 14 true kA iiz (fun _=>zO (C:=(wE x).cf) 0 kA) arf)<|oc (zB 14 true kA iiz (fun _=>q7 (C:=(wE x).cf) 0 1 kA) arf)<|oc (zB 14 true kA iiz (fun _=>yK (C:=(wE x).cf) (k:=1) kA (h:=zEA)) arf)<|oc (zB 14 true kA iiz (fun _=>zAd kA (fun v W ⟨A,c,l,e,_⟩=>⟨A,x.n,c,e,rfl⟩)) arf)<|oc (zB 14 true kA iiz (fun _=>zJ .i64 (x.n:Int) 0 ((x.n:Int)==0) iiz iiz rfl rfl) arf)<|oc (zB 14 true kA iiz (fun _=>zA) arf)<|oc (zB 20 ((x.n:Int)==0) kA iiz (fun e=>zI [] (wB ((wE x).cf.at 0)) fnz (fun _ _ h _=>h) kA (zO (C:=(wE x).cf) 0 kA)) (fun e W h=>absurd h e))<|oc (zB 20 ((x.n:Int)==0) kA iiz (fun e=>zI [(21,wB ((wE x).cf.at 0))] (wB ((wE x).cf.at 1)) (sH (fun v W h=>zG (c:=((x.n:Int)==0)=false) (f:=wB ((wE x).cf.at 0)) e h) fnz) (fun _ _ h _=>h) kA (q7 (C:=(wE x).cf) 0 1 kA)) (fun e W h=>absurd h e))<|oc (zB 20 ((x.n:Int)==0) kA iiz (fun e=>zI [(22,wB ((wE x).cf.at 1))] ((zC7 x.n x.k.natAbs).tS) (sH (fun v W h=>zG (c:=((x.n:Int)==0)=false) (f:=wB ((wE x).cf.at 1)) e h) fnz) (fun _ _ h _=>h) kA (yK (C:=(wE x).cf) (k:=1) kA (h:=zEA))) (fun e W h=>absurd h e))<|oc (zB 20 ((x.n:Int)==0) kA iiz (fun e=>zI [(23,(zC7 x.n x.k.natAbs).tS)] (wB (wC [.int .u32 (x.k.natAbs:Int)]).cf) (sH (fun v W h=>zG (c:=((x.n:Int)==0)=false) (f:=(zC7 x.n x.k.natAbs).tS) e h) fnz) (fun _ _ h _=>h) kA (zCE (z:=1) (Cs:=[wC [.int .u32 (x.k.natAbs:Int)]]) (i:=0) (C:=wC [.int .u32 (x.k.natAbs:Int)]) kA rfl (fun v W h=>zLQ (by have I:=h1;simp at e I;omega) h) iiz)) (fun e W h=>absurd h e))<|oc (zB 20 ((x.n:Int)==0) kA iiz (fun e=>zI [(24,wB (wC [.int .u32 (x.k.natAbs:Int)]).cf)] ((UF.eq (.int .u32 (x.k.natAbs:Int))).tS) (sH (fun v W h=>zG (c:=((x.n:Int)==0)=false) (f:=wB (wC [.int .u32 (x.k.natAbs:Int)]).cf) e h) fnz) (fun _ _ h _=>h) kA (z5 (C:=(wC [.int .u32 (x.k.natAbs:Int)]).cf) kA iiz yT)) (fun e W h=>absurd h e))<|oc (zB 20 ((x.n:Int)==0) kA iiz (fun e=>zI [(25,(UF.eq (.int .u32 (x.k.natAbs:Int))).tS)] ((uB (decide ((x.k.natAbs:Int)<=999))).tS) (sH (fun v W h=>zG (c:=((x.n:Int)==0)=false) (f:=(UF.eq (.int .u32 (x.k.natAbs:Int))).tS) e h) fnz) (fun _ _ h _=>h) kA (zJ .u32 (x.k.natAbs:Int) 999 (decide ((x.k.natAbs:Int)<=999)) iiz iiz rfl rfl)) (fun e W h=>absurd h e))<|oc (zB 14 true kA iiz (fun _=>zT ((x.n:Int)==0) iiz (fun e v W h=>qH h e) (fun e v W h=>yX (zG e h) e)) arf)<|oc (zT true iiz (fun _ v W h=>h.trans (vX Value.bool h2)) sF)<|oc zA<|oc (zB 29 true kA iiz (fun _=>zO (C:=(wE x).cf) 2 kA) arf)<|oc (zB 29 true kA iiz (fun _=>yK (C:=(wE x).cf) (k:=2) kA (h:=zGT)) arf)<|oc (zB 29 true kA iiz (fun _=>zAd kA (fun v W ⟨A,c,l,e,_⟩=>⟨A,x.n',c,e,rfl⟩)) arf)<|oc (zB 29 true kA iiz (fun _=>zJ .i64 (x.n':Int) 0 ((x.n':Int)==0) iiz iiz rfl rfl) arf)<|oc (zB 29 true kA iiz (fun _=>zA) arf)<|oc (zB 34 ((x.n':Int)==0) kA iiz (fun e=>zI [] (wB ((wE x).cf.at 2)) fnz (fun _ _ h _=>h) kA (zO (C:=(wE x).cf) 2 kA)) (fun e W h=>absurd h e))<|oc (zB 34 ((x.n':Int)==0) kA iiz (fun e=>zI [(35,wB ((wE x).cf.at 2))] ((zC7 x.n' x.d).tS) (sH (fun v W h=>zG (c:=((x.n':Int)==0)=false) (f:=wB ((wE x).cf.at 2)) e h) fnz) (fun _ _ h _=>h) kA (yK (C:=(wE x).cf) (k:=2) kA (h:=zGT))) (fun e W h=>absurd h e))<|oc (zB 34 ((x.n':Int)==0) kA iiz (fun e=>zI [(36,(zC7 x.n' x.d).tS)] (wB (wC [.int .u32 (x.d:Int)]).cf) (sH (fun v W h=>zG (c:=((x.n':Int)==0)=false) (f:=(zC7 x.n' x.d).tS) e h) fnz) (fun _ _ h _=>h) kA (zCE (z:=1) (Cs:=[wC [.int .u32 (x.d:Int)]]) (i:=0) (C:=wC [.int .u32 (x.d:Int)]) kA rfl (fun v W h=>zLQ (by have I:=h1;simp at e I;omega) h) iiz)) (fun e W h=>absurd h e))<|oc (zB 34 ((x.n':Int)==0) kA iiz (fun e=>zI [(37,wB (wC [.int .u32 (x.d:Int)]).cf)] ((UF.eq (.int .u32 (x.d:Int))).tS) (sH (fun v W h=>zG (c:=((x.n':Int)==0)=false) (f:=wB (wC [.int .u32 (x.d:Int)]).cf) e h) fnz) (fun _ _ h _=>h) kA (z5 (C:=(wC [.int .u32 (x.d:Int)]).cf) kA iiz yT)) (fun e W h=>absurd h e))<|oc (zB 34 ((x.n':Int)==0) kA iiz (fun e=>zI [(38,(UF.eq (.int .u32 (x.d:Int))).tS)] ((uB (decide ((x.d:Int)<=12))).tS) (sH (fun v W h=>zG (c:=((x.n':Int)==0)=false) (f:=(UF.eq (.int .u32 (x.d:Int))).tS) e h) fnz) (fun _ _ h _=>h) kA (zJ .u32 (x.d:Int) 12 (decide ((x.d:Int)<=12)) iiz iiz rfl rfl)) (fun e W h=>absurd h e))<|oc (zB 29 true kA iiz (fun _=>zT ((x.n':Int)==0) iiz (fun e v W h=>qH h e) (fun e v W h=>yX (zG e h) e)) arf)<|oc (zT true iiz (fun _ _ _ h=>h) sF)<|oc zE<|zC) fun a w4 s=>nR ?_
  have J:tnB x=(((x.n':Int)==0)||decide ((x.d:Int)<=12)):=by unfold tnB;rw[pF];simp only[xU,bZ,rN,bL,bE,rH,bH,mF,xI,iff_false]at h1 h2 ⊢;omega
  exact wG s (t:=2) rfl (fun _ _ h=>by rw[J];exact h)
theorem zLr{l:WD}(O:(SF.row 3 (qxs L)).p l W)(hL:L.length<=1000):Calls prog 17 #[l] W (Ret W (fB (L.all tnB)).tS):=by
 refine y2 [(UF.eq l).tS] func17 rfl kA ⟨rfl,trivial⟩ fun a s=>rgQ ((2,.u (uB false))::[]) s
  (oc zE<|zC) fun a w1 s=>fK<|rgQ ((3,.u (uI 0))::[]) s
  (oc zE<|zC) fun a w2 s=>rF<|zKT (fun i=>i<=L.length/\∀(j:Nat) (y:QX),j<i->L[j]?=some y->tnB y=true) (fun i=> [(0,.o ((UF.eq l).tS)),(3,.u (uI ((i:Nat):Int)))]) (fun i=>L.length-i) (0:Nat) (⟨vS _,fun j y hj=>absurd hj (pC _)⟩) (s.keepK _ (sH mz2<|sH (.head _) fnz)) fun i a w hx s=>?_
 have J:=hx
 refine fK<|rgQ ((4,.Z (uI (i:Int)))::(5,.Z (UF.eq l))::(6,.Z (uI ((qxs L).length:Int)))::(7,.u (uB (decide ((i:Int)<((qxs L).length:Int)))))::[]) s
  (oc zA<|oc zA<|oc (qZ (z:=3) (Cs:=qxs L) kA (y7 O s) (fun _=>rfl))<|oc (zJ .i64 (i:Int) ((qxs L).length:Int) (decide ((i:Int)<((qxs L).length:Int))) iiz iiz rfl rfl)<|zC) fun a w3 s=>StS.cond s (decide ((i:Int)<((qxs L).length:Int))) iiz (fun e=>?_) (fun e=>?_)
 .have hi:i<L.length:=by have:=xW e;simp at this;omega
  obtain⟨y,hyl⟩:∃y,L[i]?=some y:=⟨_,mD hi⟩
  have h3:(qxs L)[i]?=some (wE y):=by rw[rJ,hyl];rfl
  have hl20:=hL
  refine nQ<|fK<|rF<|rgQ ((10,.Z (UF.eq l))::(11,.Z (uI (i:Int)))::(12,.s (wB (wE y).cf))::(13,.Z (fQX y.n y.n' y.k y.d))::(14,.Z (uB (tnB y)))::(15,.u (uB (!(tnB y))))::[]) s
   (oc zA<|oc zA<|oc (zL (z:=3) (Cs:=qxs L) (i:=i) (C:=wE y) kA h3 (y7 O s) iiz)<|oc (yJ (f:=fQX y.n y.n' y.k y.d) 3 kA (hz:=zRJ _ _ _ _))<|oc (zK zD zTG (fun u0 W hb (h0:QXp y.n y.n' y.k y.d u0 W)=>zLq (x:=y) h0))<|oc (zAv (tnB y) iiz (fun _=>rfl))<|zC) fun a w4 s=>StS.cond s (!(tnB y)) iiz (fun e=>?_) (fun e=>?_)
  .have I:L.all tnB=false:=by
    rw[Bool.eq_false_iff]
    intro h
    have h8:=xR.1 h y (lJ hyl)
    rw[h8]at e
    cases e
   exact rgQ ((2,.u (uB false))::[]) s
    (oc zE<|zC) fun a w5 s=>nR<|wG s (t:=2) rfl (fun _ _ h=>by rw[I];exact h)
  .refine nQ ?_
   refine zP 2 ((8,.Z (uI (i:Int)))::(9,.u (uI ((i+1:Nat):Int)))::[]) s kA
    (oc zA<|oc (yL .i64 (i:Int) 1 ((i+1:Nat):Int) iiz iiz (wrap64 _ _ oA oA))<|zC) fun a w6 s=>?_
   replace s:=s.drop [3]
   exact yN (uI ((i+1:Nat):Int)) rfl s kA iiz fun a w s=>zF rfl<|⟨i+1,⟨hi,fun j y' hj hy=>by rcases Nat.lt_or_eq_of_le (Nat.le_of_lt_succ hj)with h|h;exact J.2 j y' h hy;rw[h,hyl]at hy;cases hy;exact by simpa using e⟩,(by show L.length-(i+1)<L.length-i;omega),s.keepK _ (sH mz4<|sH (.head _) fnz)⟩
 .have hi:i=L.length:=by have h7:=mB e;have h8:=J.1;simp at h7;omega
  have I:L.all tnB=true:=xR.2 fun y hy=>by
   obtain⟨j,hj⟩:=lI hy
   exact J.2 j y (by rw[hi];exact(cD.1 hj).1) hj
  exact rG<|rgQ ((2,.u (uB true))::[]) s
   (oc zE<|zC) fun a w7 s=>nR<|wG s (t:=2) rfl (fun _ _ h=>by rw[I];exact h)
theorem zKa{n:Int}{l:WD}(hu:u=.int .i64 n)(hj:(SF.row 2 (jns js)).p lj W)(hl:(SF.row 3 (qxs L)).p l W):Calls prog 7 #[u,lj,l] W (Ret W (fB (g28 n js L)).tS):=by
 refine y2 [(uI n).tS,SF.row 2 (jns js),SF.row 3 (qxs L)] func7 rfl kA ⟨hu,hj,hl,trivial⟩ fun a s=>rgQ ((6,.u (uB false))::[]) s
  (oc zE<|zC) fun a w1 s=>fK ?_
 rcases rS ((decide (n>20)||decide (((jns js).length:Int)>60))||decide (((qxs L).length:Int)>60))with O|O
 .replace s:=s.drop [6]
  refine rgE ((7,.Z (uI n))::(8,.Z (uB (decide (n>20))))::(9,.Z (uB (decide (n>20))))::(10,.s (SF.imp ((decide (n>20))=false) (SF.row 2 (jns js))))::(11,.s (SF.imp ((decide (n>20))=false) ((uI ((jns js).length:Int)).tS)))::(12,.s (SF.imp ((decide (n>20))=false) ((uB (decide (((jns js).length:Int)>60))).tS)))::(13,.Z (uB ((decide (n>20))||(decide (((jns js).length:Int)>60)))))::(14,.Z (uB ((decide (n>20))||(decide (((jns js).length:Int)>60)))))::(15,.s (SF.imp (((decide (n>20))||(decide (((jns js).length:Int)>60)))=false) (SF.row 3 (qxs L))))::(16,.s (SF.imp (((decide (n>20))||(decide (((jns js).length:Int)>60)))=false) ((uI ((qxs L).length:Int)).tS)))::(17,.s (SF.imp (((decide (n>20))||(decide (((jns js).length:Int)>60)))=false) ((uB (decide (((qxs L).length:Int)>60))).tS)))::(18,.Z (uB true))::(19,.Z (uB true))::(23,.Z (uB true))::(6,.u (uB true))::[]) s
   (oc zA<|oc (zJ .i64 n 20 (decide (n>20)) iiz iiz rfl rfl)<|oc zA<|oc (zB 9 (decide (n>20)) kA iiz (fun e=>zI [] (SF.row 2 (jns js)) fnz (fun _ _ h _=>h) kA zA) (fun e W h=>absurd h e))<|oc (zB 9 (decide (n>20)) kA iiz (fun e=>zI [(10,SF.row 2 (jns js))] ((uI ((jns js).length:Int)).tS) (sH (fun v W h=>zG (c:=(decide (n>20))=false) (f:=SF.row 2 (jns js)) e h) fnz) (fun _ _ h _=>h) kA (zCm (z:=2) (Cs:=jns js) kA iiz (fun _=>rfl))) (fun e W h=>absurd h e))<|oc (zB 9 (decide (n>20)) kA iiz (fun e=>zI [(11,(uI ((jns js).length:Int)).tS)] ((uB (decide (((jns js).length:Int)>60))).tS) (sH (fun v W h=>zG (c:=(decide (n>20))=false) (f:=(uI ((jns js).length:Int)).tS) e h) fnz) (fun _ _ h _=>h) kA (zJ .i64 ((jns js).length:Int) 60 (decide (((jns js).length:Int)>60)) iiz iiz rfl rfl)) (fun e W h=>absurd h e))<|oc (zT (decide (n>20)) iiz (fun e v W h=>qH h e) (fun e v W h=>yX (zG e h) e))<|oc zA<|oc (zB 14 ((decide (n>20))||(decide (((jns js).length:Int)>60))) kA iiz (fun e=>zI [] (SF.row 3 (qxs L)) fnz (fun _ _ h _=>h) kA zA) (fun e W h=>absurd h e))<|oc (zB 14 ((decide (n>20))||(decide (((jns js).length:Int)>60))) kA iiz (fun e=>zI [(15,SF.row 3 (qxs L))] ((uI ((qxs L).length:Int)).tS) (sH (fun v W h=>zG (c:=((decide (n>20))||(decide (((jns js).length:Int)>60)))=false) (f:=SF.row 3 (qxs L)) e h) fnz) (fun _ _ h _=>h) kA (zCm (z:=3) (Cs:=qxs L) kA iiz (fun _=>rfl))) (fun e W h=>absurd h e))<|oc (zB 14 ((decide (n>20))||(decide (((jns js).length:Int)>60))) kA iiz (fun e=>zI [(16,(uI ((qxs L).length:Int)).tS)] ((uB (decide (((qxs L).length:Int)>60))).tS) (sH (fun v W h=>zG (c:=((decide (n>20))||(decide (((jns js).length:Int)>60)))=false) (f:=(uI ((qxs L).length:Int)).tS) e h) fnz) (fun _ _ h _=>h) kA (zJ .i64 ((qxs L).length:Int) 60 (decide (((qxs L).length:Int)>60)) iiz iiz rfl rfl)) (fun e W h=>absurd h e))<|oc (zT ((decide (n>20))||(decide (((jns js).length:Int)>60))) iiz (fun e v W h=>h.trans (vX Value.bool (by first|rfl|(have I:=O;rw[e,pY]at I;exact I)))) (fun e v W h=>(zG e h).trans (vX Value.bool (by first|rfl|(have I:=O;rw[e,cM]at I;exact I)))))<|oc zA<|oc (zB 19 true kA iiz sF (fun _ _=>trivial))<|oc (zB 19 true kA iiz sF (fun _ _=>trivial))<|oc (zB 19 true kA iiz sF (fun _ _=>trivial))<|oc (zT true iiz (fun _ _ _ h=>h) sF)<|oc zE<|zC) fun a w2 s=>nR ?_
  have J:g28 n js L=true:=by unfold g28;rw[O,pY]
  exact wG s (t:=6) rfl (fun _ _ h=>by rw[J];exact h)
 .have h1:L.length<=1000:=by have I:=O;rw[bL]at I;have h8:=mB I.2;rw[xT]at h8;omega
  replace s:=s.drop [6]
  refine rgE ((7,.Z (uI n))::(8,.Z (uB (decide (n>20))))::(9,.Z (uB (decide (n>20))))::(10,.s (SF.imp ((decide (n>20))=false) (SF.row 2 (jns js))))::(11,.s (SF.imp ((decide (n>20))=false) ((uI ((jns js).length:Int)).tS)))::(12,.s (SF.imp ((decide (n>20))=false) ((uB (decide (((jns js).length:Int)>60))).tS)))::(13,.Z (uB ((decide (n>20))||(decide (((jns js).length:Int)>60)))))::(14,.Z (uB ((decide (n>20))||(decide (((jns js).length:Int)>60)))))::(15,.s (SF.imp (((decide (n>20))||(decide (((jns js).length:Int)>60)))=false) (SF.row 3 (qxs L))))::(16,.s (SF.imp (((decide (n>20))||(decide (((jns js).length:Int)>60)))=false) ((uI ((qxs L).length:Int)).tS)))::(17,.s (SF.imp (((decide (n>20))||(decide (((jns js).length:Int)>60)))=false) ((uB (decide (((qxs L).length:Int)>60))).tS)))::(18,.Z (uB false))::(19,.Z (uB false))::(20,.s (SF.row 3 (qxs L)))::(21,.Z (uB (L.all tnB)))::(22,.Z (uB (!(L.all tnB))))::(23,.Z (uB (!(L.all tnB))))::(6,.u (uB (!(L.all tnB))))::[]) s
   (oc zA<|oc (zJ .i64 n 20 (decide (n>20)) iiz iiz rfl rfl)<|oc zA<|oc (zB 9 (decide (n>20)) kA iiz (fun e=>zI [] (SF.row 2 (jns js)) fnz (fun _ _ h _=>h) kA zA) (fun e W h=>absurd h e))<|oc (zB 9 (decide (n>20)) kA iiz (fun e=>zI [(10,SF.row 2 (jns js))] ((uI ((jns js).length:Int)).tS) (sH (fun v W h=>zG (c:=(decide (n>20))=false) (f:=SF.row 2 (jns js)) e h) fnz) (fun _ _ h _=>h) kA (zCm (z:=2) (Cs:=jns js) kA iiz (fun _=>rfl))) (fun e W h=>absurd h e))<|oc (zB 9 (decide (n>20)) kA iiz (fun e=>zI [(11,(uI ((jns js).length:Int)).tS)] ((uB (decide (((jns js).length:Int)>60))).tS) (sH (fun v W h=>zG (c:=(decide (n>20))=false) (f:=(uI ((jns js).length:Int)).tS) e h) fnz) (fun _ _ h _=>h) kA (zJ .i64 ((jns js).length:Int) 60 (decide (((jns js).length:Int)>60)) iiz iiz rfl rfl)) (fun e W h=>absurd h e))<|oc (zT (decide (n>20)) iiz (fun e v W h=>qH h e) (fun e v W h=>yX (zG e h) e))<|oc zA<|oc (zB 14 ((decide (n>20))||(decide (((jns js).length:Int)>60))) kA iiz (fun e=>zI [] (SF.row 3 (qxs L)) fnz (fun _ _ h _=>h) kA zA) (fun e W h=>absurd h e))<|oc (zB 14 ((decide (n>20))||(decide (((jns js).length:Int)>60))) kA iiz (fun e=>zI [(15,SF.row 3 (qxs L))] ((uI ((qxs L).length:Int)).tS) (sH (fun v W h=>zG (c:=((decide (n>20))||(decide (((jns js).length:Int)>60)))=false) (f:=SF.row 3 (qxs L)) e h) fnz) (fun _ _ h _=>h) kA (zCm (z:=3) (Cs:=qxs L) kA iiz (fun _=>rfl))) (fun e W h=>absurd h e))<|oc (zB 14 ((decide (n>20))||(decide (((jns js).length:Int)>60))) kA iiz (fun e=>zI [(16,(uI ((qxs L).length:Int)).tS)] ((uB (decide (((qxs L).length:Int)>60))).tS) (sH (fun v W h=>zG (c:=((decide (n>20))||(decide (((jns js).length:Int)>60)))=false) (f:=(uI ((qxs L).length:Int)).tS) e h) fnz) (fun _ _ h _=>h) kA (zJ .i64 ((qxs L).length:Int) 60 (decide (((qxs L).length:Int)>60)) iiz iiz rfl rfl)) (fun e W h=>absurd h e))<|oc (zT ((decide (n>20))||(decide (((jns js).length:Int)>60))) iiz (fun e v W h=>h.trans (vX Value.bool (by first|rfl|(have I:=O;rw[e,pY]at I;exact I)))) (fun e v W h=>(zG e h).trans (vX Value.bool (by first|rfl|(have I:=O;rw[e,cM]at I;exact I)))))<|oc zA<|oc (zB 19 false kA iiz (fun _=>zA) arf)<|oc (zB 19 false kA iiz (fun _=>zK zD zTN (fun u0 W hb (h0:(SF.row 3 (qxs L)).p u0 W)=>zLr h0 h1)) arf)<|oc (zB 19 false kA iiz (fun _=>zAv (L.all tnB) iiz (fun _=>rfl)) arf)<|oc (zT false iiz sF (fun _ _ _ h=>h))<|oc zE<|zC) fun a w3 s=>nR ?_
  have J:g28 n js L= !(L.all tnB):=by unfold g28;rw[O,cM]
  exact wG s (t:=6) rfl (fun _ _ h=>by rw[J];exact h)
def zC6(N k:Nat):List Int:=List.replicate k (-1)++List.replicate (N-k) 0
theorem zHI(h:k<=N):(zC6 N k).length=N:=by simp[zC6];omega
theorem zHH(h:k<N):(zC6 N k).set k (-1)=zC6 N (k+1):=by
 unfold zC6
 have e:N-k=(N-(k+1))+1:=oA
 rw[e,pK,lC _ _ eN]
 simp[rP]
theorem zHJ(N:Nat):zC6 N N=List.replicate N (-1):=by simp[zC6]
theorem zRj(td:List Nat)(a:Nat):(ins (jI (td++ [a])))[td.length]?=some (wC [.int .i64 (a:Int)]):=by simp[jI]
theorem zPI(td:List Nat)(a:Nat):(ins (jI (td++ [a]))).take td.length=ins (jI td):=by simp[jI]
theorem zR2(td:List Nat)(a:Nat):ins (jI td)++ [wC [.int .i64 (a:Int)]]=ins (jI (td++ [a])):=by simp[jI]
def fLb(W:WB)(E:Adj)(N:Nat):SF:=⟨fun v w=>∃lab,Labd E N lab/\y9 w W.heap.size 3 1 v (ins lab),fun _ _ _ ⟨lab,h,hr⟩ hb=>⟨lab,h,hr.below hb⟩⟩
theorem zHe{n:Int}(hu:u=.int .i64 n)(hj:(SF.row 2 (jns js)).p lj W)(qu:min (max n 0) 131072=(N:Int))(qh:N<=20)(qw:js.length<=61)(hT:Tab W):Calls prog 14 #[u,lj] W (Ret W (fLb W (grE N js []) N)):=by
 have I:Below W.heap.size W W:=xF _ _
 have hK:Gok (grE N js []) N:=zGB _ _ _
 have hS:∀a b f,(b,f)∈(grE N js []) a->(a,f)∈(grE N js []) b:=fun a b f h=>zFa h
 refine y2 [(uI n).tS,SF.row 2 (jns js)] func14 rfl kA ⟨hu,hj,trivial⟩ fun a s=>rgQ ((4,.u (UF.eq (.slice none 0 0)))::[]) s
  (oc zE<|zC) fun a w1 s=>fK<|rgN ((13,.Z (uI n))::(14,.s (SF.row 2 (jns js)))::(15,.s (fG (glN N (rds N js []))))::(5,.s (fG (glN N (rds N js []))))::[]) s
  (oc zA<|oc zA<|oc (zBn zD zOq (fun u0 u1 u2 W J (h0:u0=.int .i64 n) (h1:(SF.row 2 (jns js)).p u1 W) (h2:u2=.slice none 0 0)=>zGK (fs:=[]) h0 h1 (by rw[h2];exact y9.row (y9.nil _ W.heap.size 32 3)) qu qh qw (hT.below (s.up J))))<|oc zE<|zC) fun a w2 s hr=>?_
 obtain⟨gg,cap,vs,e5,hG⟩:=(hr (_,_) mz3)
 rw[jO]at e5
 replace s:=s.learn 5 _ e5
 have J:=s.below
 replace I:=I.trans (J.mono I.size)
 replace hG:=hG.below (xF _ _)
 replace s:=s.keepK [(5,.u (UF.eq (.slice (some ⟨gg,0,none⟩) N cap)))] (sH (.head _) fnz)
 replace s:=s.anewB rfl rfl
 refine fK<|rgK 2 ((16,.Z (UF.eq (.slice (some ⟨gg,0,none⟩) N cap)))::(17,.u (uI (N:Int)))::[]) s
  (oc zA<|oc (zAd kA (fun v W h=>⟨_,_,_,h,rfl⟩))<|zC) fun a w3 s=>?_
 have J:=s.below
 replace I:=I.trans (J.mono I.size)
 replace hG:=hG.below J
 refine zJW (nn:=N) (z:=1) (e:=3) (zs:=[.int .i64 0]) (wC [.int .i64 0]) s rfl kA kA kA rfl rfl oA (fun W=>rfl) (s.fct (.tmp 17)) (s.fct (.tmp 17)) fun gl a w qf J hD s=>?_
 have hv:W.heap.size<=gl:=by rw[qf];exact I.size
 replace I:=I.trans (J.mono I.size)
 replace hG:=hG.below J
 replace hD:q9 w gl 3 1 N (ins (zC6 N 0)):=by unfold ins zC6;simpa using hD
 refine yN (UF.eq (.slice (some ⟨gl,0,none⟩) N N)) rfl s kA iiz fun a w s=>zF rfl ?_
 have J:=s.below
 replace I:=I.trans (J.mono I.size)
 replace hG:=hG.below J
 replace hD:=hD.below J
 replace s:=s.anewB rfl rfl
 refine fK<|rgQ ((19,.Z (UF.eq (.slice (some ⟨gl,0,none⟩) N N)))::(20,.u (uI (N:Int)))::(21,.u (uI 0))::[]) s
  (oc zA<|oc (zAd kA (fun v W h=>⟨_,_,_,h,rfl⟩))<|oc zA<|zC) fun a w4 s=>?_
 have J:=s.below
 replace I:=I.trans (J.mono I.size)
 replace hG:=hG.below J
 replace hD:=hD.below J
 replace s:=s.anewB rfl rfl
 refine rF<|yC (fun(y:Nat) a w=>y<=N/\Below W.heap.size W w/\GM w gg cap vs (glN N (rds N js []))/\q9 w gl 3 1 N (ins (zC6 N y))/\St w [(5,.u (UF.eq (.slice (some ⟨gg,0,none⟩) N cap))),(6,.u (UF.eq (.slice (some ⟨gl,0,none⟩) N N))),(20,.u (uI (N:Int))),(21,.u (uI ((y:Nat):Int)))] [] f14.ntmps [] a w) (fun y=>N-y) 0 ⟨vS _,I,hG,hD,s.keepK _ (sH mz5<|sH mz2<|sH (.head _)<|sH mz1 fnz)⟩ fun y a w hx=>?_
 clear I hG hD
 obtain⟨hk,I,hG,hD,s⟩:=hx
 refine rgQ ((22,.u (uB (decide ((y:Int)<(N:Int)))))::[]) s
  (oc (zJ .i64 (y:Int) (N:Int) (decide ((y:Int)<(N:Int))) iiz iiz rfl rfl)<|zC) fun a w5 s=>?_
 have J:=s.below
 replace I:=I.trans (J.mono I.size)
 replace hG:=hG.below J
 replace hD:=hD.below J
 replace s:=s.anewB rfl rfl
 refine fK<|StS.cond s (decide ((y:Int)<(N:Int))) iiz (fun e=>?_) (fun e=>?_)
 .have h8:y<N:=by have:=xW e;omega
  have qx:y<(zC6 N y).length:=by rw[zHI hk];exact h8
  refine nQ<|fK<|rF<|rgQ ((23,.Z (uI (y:Int)))::(7,.u (uI (y:Int)))::[]) s
   (oc zA<|oc zE<|zC) fun a w6 s=>?_
  have J:=s.below
  replace I:=I.trans (J.mono I.size)
  replace hG:=hG.below J
  replace hD:=hD.below J
  replace s:=s.anewB rfl rfl
  refine rgK 2 ((24,.u (UF.eq (.slice (some ⟨gl,0,none⟩) N N)))::(25,.u (uI (y:Int)))::[]) s
   (oc zA<|oc zA<|zC) fun a w7 s=>zBD (UF.eq (.pointer (some ⟨gl,y*1,none⟩))) rfl s kA (qQ (z:=1) (g:=gl) (nn:=N) (cap:=N) (i:=y) kA h8 iiz iiz) kA fun a w s=>?_
  have J:=s.below
  replace I:=I.trans (J.mono I.size)
  replace hG:=hG.below J
  replace hD:=hD.below J
  refine zAF (g:=gl) (i:=y) (cap:=N) (z:=1) (e:=3) (wC [.int .i64 (-1)]) rfl s rfl rfl hD (by simpa using qx) kA (s.fct (.tmp 26)) (jY rfl rfl rfl rfl) (fun q hq=>by cases hq) fun w hd he hs s=>?_
  replace I:=yD I hd (fun q hq=>by rw[hq];exact hv)
  replace hG:=hG.keep (fun q hq=>hd.block q (hG.lt hq) (hG.no hq hD.at.choose_spec dA dA)) he
  replace hD:=hs
  rw[zBA]at hD
  refine zF rfl ?_
  have J:=s.below
  replace I:=I.trans (J.mono I.size)
  replace hG:=hG.below J
  replace hD:=hD.below J
  replace s:=s.anewB rfl rfl
  refine zP 1 ((27,.u (uI ((y+1:Nat):Int)))::[]) s kA
   (oc (yL .i64 (y:Int) 1 ((y+1:Nat):Int) iiz iiz (wrap64 _ _ oA oA))<|zC) fun a w8 s=>?_
  replace s:=s.drop [21]
  refine zBD (uI ((y+1:Nat):Int)) rfl s kA zA kA fun a w s=>zF rfl ?_
  have J:=s.below
  replace I:=I.trans (J.mono I.size)
  replace hG:=hG.below J
  replace hD:=hD.below J
  replace s:=s.anewB rfl rfl
  exact⟨y+1,(by show N-(y+1)<N-y;omega),h8,I,hG,(by rw[<-zHH h8];exact hD),s.keepK _ (sH mz7<|sH mz8<|sH mz9<|sH (.head _) fnz)⟩
 .have h8:y=N:=by have:=mB e;omega
  refine rG<|fK<|rgQ ((28,.Z (UF.eq (.slice (some ⟨gg,0,none⟩) N cap)))::(29,.u (uI (N:Int)))::(30,.u (uI 0))::[]) s
   (oc zA<|oc (zAd kA (fun v W h=>⟨_,_,_,h,rfl⟩))<|oc zA<|zC) fun a w9 s=>?_
  have J:=s.below
  replace I:=I.trans (J.mono I.size)
  replace hG:=hG.below J
  replace hD:=hD.below J
  replace s:=s.anewB rfl rfl
  refine rF ?_
  rw[h8,zHJ]at hD
  refine yC (fun(y:Nat×List Int) a w=>y.1<=N/\OI (grE N js []) N y.1 y.2/\Below W.heap.size W w/\GM w gg cap vs (glN N (rds N js []))/\q9 w gl 3 1 N (ins y.2)/\St w [(5,.u (UF.eq (.slice (some ⟨gg,0,none⟩) N cap))),(6,.u (UF.eq (.slice (some ⟨gl,0,none⟩) N N))),(29,.u (uI (N:Int))),(30,.u (uI (y.1:Int)))] [] f14.ntmps [] a w) (fun y=>N-y.1) (0,List.replicate N (-1)) ⟨vS _,OI.begin _ _,I,hG,hD,s.keepK _ (sH mz3<|sH mz4<|sH (.head _)<|sH mz1 fnz)⟩ fun y a w hx=>?_
  clear I hG hD
  obtain⟨hk,hO,I,hG,hD,s⟩:=hx
  refine rgQ ((31,.u (uB (decide ((y.1:Int)<(N:Int)))))::[]) s
   (oc (zJ .i64 (y.1:Int) (N:Int) (decide ((y.1:Int)<(N:Int))) iiz iiz rfl rfl)<|zC) fun a w10 s=>?_
  have J:=s.below
  replace I:=I.trans (J.mono I.size)
  replace hG:=hG.below J
  replace hD:=hD.below J
  replace s:=s.anewB rfl rfl
  refine fK<|StS.cond s (decide ((y.1:Int)<(N:Int))) iiz (fun e=>?_) (fun e=>?_)
  .have h8:y.1<N:=by have:=xW e;omega
   have hF:y.1<y.2.length:=by rw[hO.ln];exact h8
   have hw:=hD.row (n:=N) (by simp[hO.ln])
   refine nQ<|fK<|rF<|rgQ ((32,.Z (uI (y.1:Int)))::(8,.u (uI (y.1:Int)))::[]) s
    (oc zA<|oc zE<|zC) fun a w11 s=>?_
   have J:=s.below
   replace I:=I.trans (J.mono I.size)
   replace hG:=hG.below J
   replace hD:=hD.below J
   replace s:=s.anewB rfl rfl
   refine fK<|fK ?_
   have hw:=hD.row (n:=N) (by simp[hO.ln])
   refine rgE ((33,.Z (UF.eq (.slice (some ⟨gl,0,none⟩) N N)))::(34,.Z (uI (y.1:Int)))::(35,.s (wB (wC [.int .i64 (y.2.getD y.1 0)]).cf))::(36,.Z (uI (y.2.getD y.1 0)))::(37,.u (uB (decide ((y.2.getD y.1 0)≥0))))::[]) s
    (oc zA<|oc zA<|oc (zL (z:=1) (Cs:=ins y.2) (i:=y.1) (C:=wC [.int .i64 (y.2.getD y.1 0)]) kA (qC hF) (fun v W J h=>(by rw[show v=(Value.slice (some ⟨gl,0,none⟩) N N)from h];exact(SF.row 1 (ins y.2)).st _ _ _ hw (s.up J))) iiz)<|oc (z5 (C:=(wC [.int .i64 (y.2.getD y.1 0)]).cf) kA iiz yT)<|oc (zJ .i64 (y.2.getD y.1 0) 0 (decide ((y.2.getD y.1 0)≥0)) iiz iiz rfl rfl)<|zC) fun a w12 s=>?_
   have J:=s.below
   replace I:=I.trans (J.mono I.size)
   replace hG:=hG.below J
   replace hD:=hD.below J
   replace s:=s.anewB rfl rfl
   refine StS.cond s (decide ((y.2.getD y.1 0)≥0)) iiz (fun e=>?_) (fun e=>?_)
   .have qm:=xW e
    refine rG<|zP 1 ((84,.u (uI ((y.1+1:Nat):Int)))::[]) s kA
     (oc (yL .i64 (y.1:Int) 1 ((y.1+1:Nat):Int) iiz iiz (wrap64 _ _ oA oA))<|zC) fun a w13 s=>?_
    replace s:=s.drop [30]
    refine zBD (uI ((y.1+1:Nat):Int)) rfl s kA zA kA fun a w s=>zF rfl ?_
    have J:=s.below
    replace I:=I.trans (J.mono I.size)
    replace hG:=hG.below J
    replace hD:=hD.below J
    replace s:=s.anewB rfl rfl
    exact⟨(y.1+1,y.2),(by show N-(y.1+1)<N-y.1;omega),h8,hO.skip h8 oA hS,I,hG,hD,s.keepK _ (sH mz5<|sH mz6<|sH mz7<|sH (.head _) fnz)⟩
   .have qm:=mB e
    refine nQ<|fK<|rgK 3 ((38,.u (UF.eq (.slice (some ⟨gl,0,none⟩) N N)))::(39,.u (uI (y.1:Int)))::(40,.u (uI (y.1:Int)))::[]) s
     (oc zA<|oc zA<|oc zA<|zC) fun a w14 s=>zBD (UF.eq (.pointer (some ⟨gl,y.1*1,none⟩))) rfl s kA (qQ (z:=1) (g:=gl) (nn:=N) (cap:=N) (i:=y.1) kA h8 iiz iiz) kA fun a w s=>?_
    have J:=s.below
    replace I:=I.trans (J.mono I.size)
    replace hG:=hG.below J
    replace hD:=hD.below J
    refine zAF (g:=gl) (i:=y.1) (cap:=N) (z:=1) (e:=3) (wC [.int .i64 (y.1:Int)]) rfl s rfl rfl hD (by simpa using hF) kA (s.fct (.tmp 41)) (jY (s.fct (.tmp 40)) rfl rfl rfl) (fun q hq=>by cases hq) fun w hd he hs s=>?_
    replace I:=yD I hd (fun q hq=>by rw[hq];exact hv)
    replace hG:=hG.keep (fun q hq=>hd.block q (hG.lt hq) (hG.no hq hD.at.choose_spec dA dA)) he
    replace hD:=hs
    rw[zBA]at hD
    refine zF rfl ?_
    have J:=s.below
    replace I:=I.trans (J.mono I.size)
    replace hG:=hG.below J
    replace hD:=hD.below J
    replace s:=s.anewB rfl rfl
    refine fK<|rgN ((42,.Z (uI (y.1:Int)))::(43,.s (wD w 3 1 [wC [.int .i64 (y.1:Int)]]))::(9,.s (wD w 3 1 [wC [.int .i64 (y.1:Int)]]))::[]) s
     (oc zA<|oc (zBd (fun u W J (hu:u=.int .i64 (y.1:Int))=>by subst hu;exact⟨_,_,zPR _,(zIb _ _).toN J.size rfl⟩))<|oc zE<|zC) fun a w15 s hr=>?_
    obtain⟨tv,e9⟩:∃v,a.tmps.getD 9 undef=v:=⟨_,rfl⟩
    have O:=(hr (_,_) mz2)
    rw[show a.tmps.getD _ undef=tv from e9]at O
    replace s:=s.learn 9 _ e9
    have ha:∀q_,tv.ownBlock=some q_->q_≠gl:=fun q_ hq=>by have h1:=(O.lt q_ hq).1;have h2:=hD.lt;omega
    replace O:y9 _ W.heap.size 3 1 tv (ins (jI [y.1])):=O.mono I.size
    have J:=s.below
    replace I:=I.trans (J.mono I.size)
    replace hG:=hG.below J
    replace hD:=hD.below J
    replace s:=s.anewB rfl rfl
    refine rF<|yC (fun(z:List Int×WD×List Nat) a w=>II (grE N js []) N y.1 z.1 z.2.2/\zKk z.1+z.2.2.length<=N/\Below W.heap.size W w/\GM w gg cap vs (glN N (rds N js []))/\q9 w gl 3 1 N (ins z.1)/\y9 w W.heap.size 3 1 z.2.1 (ins (jI z.2.2))/\(∀q_,z.2.1.ownBlock=some q_->q_≠gl)/\St w [(5,.u (UF.eq (.slice (some ⟨gg,0,none⟩) N cap))),(6,.u (UF.eq (.slice (some ⟨gl,0,none⟩) N N))),(8,.u (uI (y.1:Int))),(9,.u (UF.eq (z.2.1))),(29,.u (uI (N:Int))),(30,.u (uI (y.1:Int)))] [] f14.ntmps [] a w) (fun z=>zKk z.1+z.2.2.length) (y.2.set y.1 (y.1:Int),tv, [y.1]) ⟨hO.enter h8 oA,(by show zKk (y.2.set y.1 (y.1:Int))+1<=N;rw[zJu hF oA oA,<-hO.ln];exact List.countP_le_length),I,hG,hD,O,ha,s.keepK _ (sH mz8<|sH mz9<|sH mz6<|sH (.head _)<|sH zC1<|sH zDW fnz)⟩ fun z a w hx=>?_
    clear I hG hD O ha
    obtain⟨hI,q6,I,hG,hD,O,ha,s⟩:=hx
    refine fK<|fK ?_
    have hM:=O.row
    refine rgE ((44,.Z (UF.eq z.2.1))::(45,.Z (uI ((ins (jI z.2.2)).length:Int)))::(46,.u (uB (decide (((ins (jI z.2.2)).length:Int)>0))))::[]) s
     (oc zA<|oc (qZ (z:=1) (Cs:=ins (jI z.2.2)) kA (fun v W J h=>(by rw[show v=(z.2.1)from h];exact(SF.row 1 (ins (jI z.2.2))).st _ _ _ hM (s.up J))) (fun _=>rfl))<|oc (zJ .i64 ((ins (jI z.2.2)).length:Int) 0 (decide (((ins (jI z.2.2)).length:Int)>0)) iiz iiz rfl rfl)<|zC) fun a w16 s=>?_
    have J:=s.below
    replace I:=I.trans (J.mono I.size)
    replace hG:=hG.below J
    replace hD:=hD.below J
    replace O:=O.below J
    replace s:=s.anewB rfl rfl
    refine StS.cond s (decide (((ins (jI z.2.2)).length:Int)>0)) iiz (fun e=>?_) (fun e=>?_)
    .have qq:z.2.2≠ []:=fun h0=>by rw[h0]at e;simp[jI]at e
     obtain⟨td',at_,etd⟩:∃t x,z.2.2=t++ [x]:=⟨_,_,(List.dropLast_concat_getLast qq).symm⟩
     have qa:=q6
     rw[etd,uD,rI]at qa
     rw[etd]at O
     obtain⟨g,cp,ev,qn,hl⟩:=zDR O (by simp[jI])
     rw[show(ins (jI (td'++ [at_]))).length=td'.length+1 by simp[jI]]at ev
     obtain⟨hg,hB⟩:=hI.td at_ (by rw[etd];simp)
     have hY:=hl.cap
     rw[show(ins (jI (td'++ [at_]))).length=td'.length+1 by simp[jI]]at hY
     have hnl:=hI.ln
     have ql:=s.val mz4
     replace s:=s.learn 9 _ (ql.trans ev)
     replace s:=s.keepK [(9,.u (UF.eq (.slice (some ⟨g,0,none⟩) (td'.length+1) cp))),(46,.u (uB (decide (((ins (jI z.2.2)).length:Int)>0)))),(5,.u (UF.eq (.slice (some ⟨gg,0,none⟩) N cap))),(6,.u (UF.eq (.slice (some ⟨gl,0,none⟩) N N))),(8,.u (uI (y.1:Int))),(29,.u (uI (N:Int))),(30,.u (uI (y.1:Int)))] (sH (.head _)<|sH mz1<|sH mz2<|sH mz3<|sH mz4<|sH mz6<|sH mz7 fnz)
     skip
     rw[ev]at O ha
     refine nQ<|rF<|fK ?_
     have hM:=O.row
     refine rgE ((47,.Z (UF.eq (.slice (some ⟨g,0,none⟩) (td'.length+1) cp)))::(48,.Z (UF.eq (.slice (some ⟨g,0,none⟩) (td'.length+1) cp)))::(49,.Z (uI ((td'.length+1:Nat):Int)))::(50,.Z (uI (td'.length:Int)))::(51,.s (wB (wC [.int .i64 (at_:Int)]).cf))::(52,.Z (uI (at_:Int)))::(10,.u (uI (at_:Int)))::[]) s
      (oc zA<|oc zA<|oc (zAd kA (fun v W h=>⟨_,_,_,h,rfl⟩))<|oc (zAR .i64 ((td'.length+1:Nat):Int) 1 (td'.length:Int) iiz iiz (wrap64 _ _ oA oA))<|oc (zL (z:=1) (Cs:=ins (jI (td'++ [at_]))) (i:=td'.length) (C:=wC [.int .i64 (at_:Int)]) kA (zRj td' at_) (fun v W J h=>(by rw[show v=(Value.slice (some ⟨g,0,none⟩) (td'.length+1) cp)from h];exact(SF.row 1 (ins (jI (td'++ [at_])))).st _ _ _ hM (s.up J))) iiz)<|oc (z5 (C:=(wC [.int .i64 (at_:Int)]).cf) kA iiz yT)<|oc zE<|zC) fun a w17 s=>?_
     have J:=s.below
     replace I:=I.trans (J.mono I.size)
     replace hG:=hG.below J
     replace hD:=hD.below J
     replace O:=O.below J
     replace hl:=hl.below J
     replace s:=s.anewB rfl rfl
     refine fK<|zP 5 ((53,.Z (UF.eq (.slice (some ⟨g,0,none⟩) (td'.length+1) cp)))::(54,.Z (UF.eq (.slice (some ⟨g,0,none⟩) (td'.length+1) cp)))::(55,.Z (uI ((td'.length+1:Nat):Int)))::(56,.Z (uI (td'.length:Int)))::(57,.u (UF.eq (.slice (some ⟨g,0,none⟩) td'.length cp)))::[]) s kA
      (oc zA<|oc zA<|oc (zAd kA (fun v W h=>⟨_,_,_,h,rfl⟩))<|oc (zAR .i64 ((td'.length+1:Nat):Int) 1 (td'.length:Int) iiz iiz (wrap64 _ _ oA oA))<|oc (zPc (g:=g) (n:=td'.length+1) (c:=cp) (k:=td'.length) (z:=1) kA oA iiz iiz)<|zC) fun a w18 s=>?_
     replace s:=s.drop [9]
     refine yN (UF.eq (.slice (some ⟨g,0,none⟩) td'.length cp)) rfl s kA iiz fun a w s=>zF rfl ?_
     have J:=s.below
     replace I:=I.trans (J.mono I.size)
     replace hG:=hG.below J
     replace hD:=hD.below J
     replace O:=O.below J
     replace hl:=hl.below J
     replace s:=s.anewB rfl rfl
     replace O:y9 w W.heap.size 3 1 (.slice (some ⟨g,0,none⟩) td'.length cp) (ins (jI td')):=by have:=hl.take td'.length;rw[zPI]at this;exact this.toN qn (by simp[jI])
     replace ha:∀q_,(Value.slice (some ⟨g,0,none⟩) td'.length cp).ownBlock=some q_->q_≠gl:=fun q_ hq=>ha q_ hq
     refine fK ?_
     have hdeg:(zH (rds N js []) at_).length<=122:=by have h1:=zDN (rds N js []) at_;have h2:=zBN N js [] js.length;unfold rds at h1 ⊢;omega
     have hX:=hG.row (n:=N) (jO _ _).symm
     have qe:at_<vs.length:=by rw[hG.ln,jO];exact hg
     have hn:=hG.at (i:=at_) (by rw[jO];exact hg)
     rw[zC5 _ hg]at hn
     refine rgE ((58,.Z (UF.eq (.slice (some ⟨gg,0,none⟩) N cap)))::(59,.Z (uI (at_:Int)))::(60,.s (wB (wC [(vs.getD at_ (.slice none 0 0))]).cf))::(61,.u (UF.eq (vs.getD at_ (.slice none 0 0))))::(62,.u (uI (((ros (zH (rds N js []) at_)).length:Nat):Int)))::(63,.u (uI 0))::[]) s
      (oc zA<|oc zA<|oc (zL (z:=1) (Cs:=sls vs) (i:=at_) (C:=wC [(vs.getD at_ (.slice none 0 0))]) kA (zDy qe) (fun v W J h=>(by rw[show v=(Value.slice (some ⟨gg,0,none⟩) N cap)from h];exact(SF.row 1 (sls vs)).st _ _ _ hX (s.up J))) iiz)<|oc (z5 (C:=(wC [(vs.getD at_ (.slice none 0 0))]).cf) kA iiz yT)<|oc (qZ (z:=4) (Cs:=ros (zH (rds N js []) at_)) kA (fun v W J h=>(by rw[show v=(vs.getD at_ (.slice none 0 0))from h];exact(SF.row 4 (ros (zH (rds N js []) at_))).st _ _ _ hn (s.up J))) (fun _=>rfl))<|oc zA<|zC) fun a w19 s=>?_
     have J:=s.below
     replace I:=I.trans (J.mono I.size)
     replace hG:=hG.below J
     replace hD:=hD.below J
     replace O:=O.below J
     replace s:=s.anewB rfl rfl
     refine rF<|yC (fun(q:Nat×List Int×WD×List Nat) a w=>q.1<=(zH (rds N js []) at_).length/\II (grE N js []) N y.1 q.2.1 (at_::q.2.2.2)/\(∀k,k<q.1-> ¬q.2.1.getD ((zH (rds N js []) at_).getD k (0,0)).1 0<0)/\zKk q.2.1+q.2.2.2.length=zKk z.1+td'.length/\Below W.heap.size W w/\GM w gg cap vs (glN N (rds N js []))/\q9 w gl 3 1 N (ins q.2.1)/\y9 w W.heap.size 3 1 q.2.2.1 (ins (jI q.2.2.2))/\(∀q_,q.2.2.1.ownBlock=some q_->q_≠gl)/\St w [(5,.u (UF.eq (.slice (some ⟨gg,0,none⟩) N cap))),(6,.u (UF.eq (.slice (some ⟨gl,0,none⟩) N N))),(8,.u (uI (y.1:Int))),(9,.u (UF.eq (q.2.2.1))),(29,.u (uI (N:Int))),(30,.u (uI (y.1:Int))),(61,.u (UF.eq (vs.getD at_ (.slice none 0 0)))),(62,.u (uI (((ros (zH (rds N js []) at_)).length:Nat):Int))),(63,.u (uI (q.1:Int)))] [] f14.ntmps [] a w) (fun q=>(zH (rds N js []) at_).length-q.1) (0,z.1,.slice (some ⟨g,0,none⟩) td'.length cp,td') ⟨vS _,hI.perm (fun x=>by rw[etd];simp[or_comm]),fun k hk=>absurd hk (pC _),rfl,I,hG,hD,O,ha,s.keepK _ (sH mz7<|sH mz8<|sH mz9<|sH mz3<|sH zC1<|sH zDW<|sH (.head _)<|sH mz1<|sH mz2 fnz)⟩ fun q a w hx=>?_
     clear I hG hD O ha
     obtain⟨hk,hm,hP,hW,I,hG,hD,O,ha,s⟩:=hx
     have q4:=ha
     refine rgQ ((64,.u (uB (decide ((q.1:Int)<(((ros (zH (rds N js []) at_)).length:Nat):Int)))))::[]) s
      (oc (zJ .i64 (q.1:Int) (((ros (zH (rds N js []) at_)).length:Nat):Int) (decide ((q.1:Int)<(((ros (zH (rds N js []) at_)).length:Nat):Int))) iiz iiz rfl rfl)<|zC) fun a w20 s=>?_
     have J:=s.below
     replace I:=I.trans (J.mono I.size)
     replace hG:=hG.below J
     replace hD:=hD.below J
     replace O:=O.below J
     replace s:=s.anewB rfl rfl
     refine fK<|StS.cond s (decide ((q.1:Int)<(((ros (zH (rds N js []) at_)).length:Nat):Int))) iiz (fun e=>?_) (fun e=>?_)
     .have h8:q.1<(zH (rds N js []) at_).length:=by have h7:=xW e;simp only[xT]at h7;omega
      have hU:((zH (rds N js []) at_).getD q.1 (0,0))∈grE N js [] at_:=by show((zH (rds N js []) at_).getD q.1 (0,0))∈(zH (rds N js []) at_);rw[nX,mD h8];exact uO h8
      have q1:((zH (rds N js []) at_).getD q.1 (0,0)).1<N:=(hK _ hg _ hU).1
      have hi:((zH (rds N js []) at_).getD q.1 (0,0)).1<q.2.1.length:=by rw[hm.ln];exact q1
      have hB:=(hm.td at_ (.head _)).2
      have hqb:True:=trivial
      refine nQ<|fK<|rF<|fK ?_
      have hn:=hG.at (i:=at_) (by rw[jO];exact hg)
      rw[zC5 _ hg]at hn
      refine rgK 2 ((65,.Y (fRo ((zH (rds N js []) at_).getD q.1 (0,0))))::(66,.u (fRo ((zH (rds N js []) at_).getD q.1 (0,0))))::[]) s
       (oc (zL (z:=4) (Cs:=ros (zH (rds N js []) at_)) (i:=q.1) (C:=CU.agg (fRo ((zH (rds N js []) at_).getD q.1 (0,0)))) kA (zF7 h8) (fun v W J h=>(by rw[show v=(vs.getD at_ (.slice none 0 0))from h];exact(SF.row 4 (ros (zH (rds N js []) at_))).st _ _ _ hn (s.up J))) iiz)<|oc (yJ (f:=fRo ((zH (rds N js []) at_).getD q.1 (0,0))) 4 kA (hz:=zI7 _))<|zC) fun a w21 s=>yP (CU.len 4) (cs:=[.int .i64 0,.bool false,.slice none 0 0,.slice none 0 0]) kA rfl s kA (fun W=>rfl) rfl fun hy a w s=>yI (fRo ((zH (rds N js []) at_).getD q.1 (0,0))) rfl s zEh fun a w s=>zF rfl ?_
      have hn12_:=s.inB_new (q:=hy) ⟨_,.head _,rfl,rfl⟩
      have q2:hy≠gl:=by have:=hD.lt;omega
      have hE: ¬q.2.2.1.ownBlock=some hy:=fun hh=>by have:=(O.lt _ hh).2;omega
      have J:=s.below
      replace I:=I.trans (J.mono I.size)
      replace hG:=hG.below J
      replace hD:=hD.below J
      replace O:=O.below J
      replace s:StS _ _ _ [⟨12,67,CU.agg (fRo ((zH (rds N js []) at_).getD q.1 (0,0))),hy,true⟩] _ _ _ _:=s.freeze
      replace s:=s.anewB rfl rfl
      refine fK ?_
      have hw:=hD.row (n:=N) (by simp[hm.ln])
      refine rgE ((67,.Z (UF.eq (.slice (some ⟨gl,0,none⟩) N N)))::(68,.X (fRo ((zH (rds N js []) at_).getD q.1 (0,0))) 0)::(69,.Z (uI ((((zH (rds N js []) at_).getD q.1 (0,0)).1:Nat):Int)))::(70,.s (wB (wC [.int .i64 (q.2.1.getD ((zH (rds N js []) at_).getD q.1 (0,0)).1 0)]).cf))::(71,.Z (uI (q.2.1.getD ((zH (rds N js []) at_).getD q.1 (0,0)).1 0)))::(72,.u (uB (decide ((q.2.1.getD ((zH (rds N js []) at_).getD q.1 (0,0)).1 0)<0))))::[]) s
       (oc zA<|oc (zO (C:=cg (fRo ((zH (rds N js []) at_).getD q.1 (0,0)))) 0 kA)<|oc (yK (C:=cg (fRo ((zH (rds N js []) at_).getD q.1 (0,0)))) (k:=0) kA (h:=zEO))<|oc (zL (z:=1) (Cs:=ins q.2.1) (i:=((zH (rds N js []) at_).getD q.1 (0,0)).1) (C:=wC [.int .i64 (q.2.1.getD ((zH (rds N js []) at_).getD q.1 (0,0)).1 0)]) kA (qC hi) (fun v W J h=>(by rw[show v=(Value.slice (some ⟨gl,0,none⟩) N N)from h];exact(SF.row 1 (ins q.2.1)).st _ _ _ hw (s.up J))) iiz)<|oc (z5 (C:=(wC [.int .i64 (q.2.1.getD ((zH (rds N js []) at_).getD q.1 (0,0)).1 0)]).cf) kA iiz yT)<|oc (zJ .i64 (q.2.1.getD ((zH (rds N js []) at_).getD q.1 (0,0)).1 0) 0 (decide ((q.2.1.getD ((zH (rds N js []) at_).getD q.1 (0,0)).1 0)<0)) iiz iiz rfl rfl)<|zC) fun a w22 s=>?_
      have J:=s.below
      replace I:=I.trans (J.mono I.size)
      replace hG:=hG.below J
      replace hD:=hD.below J
      replace O:=O.below J
      replace s:=s.anewB rfl rfl
      refine StS.cond s (decide ((q.2.1.getD ((zH (rds N js []) at_).getD q.1 (0,0)).1 0)<0)) iiz (fun e=>?_) (fun e=>?_)
      .have ho:=xW e
       have ho:=xW e
       refine fK<|rgK 4 ((73,.u (UF.eq (.slice (some ⟨gl,0,none⟩) N N)))::(74,.X (fRo ((zH (rds N js []) at_).getD q.1 (0,0))) 0)::(75,.u (uI ((((zH (rds N js []) at_).getD q.1 (0,0)).1:Nat):Int)))::(76,.u (uI (y.1:Int)))::[]) s
        (oc zA<|oc (zO (C:=cg (fRo ((zH (rds N js []) at_).getD q.1 (0,0)))) 0 kA)<|oc (yK (C:=cg (fRo ((zH (rds N js []) at_).getD q.1 (0,0)))) (k:=0) kA (h:=zEO))<|oc zA<|zC) fun a w23 s=>zBD (UF.eq (.pointer (some ⟨gl,((zH (rds N js []) at_).getD q.1 (0,0)).1*1,none⟩))) rfl s kA (qQ (z:=1) (g:=gl) (nn:=N) (cap:=N) (i:=((zH (rds N js []) at_).getD q.1 (0,0)).1) kA q1 iiz iiz) kA fun a w s=>?_
       have J:=s.below
       replace I:=I.trans (J.mono I.size)
       replace hG:=hG.below J
       replace hD:=hD.below J
       replace O:=O.below J
       refine zAF (g:=gl) (i:=((zH (rds N js []) at_).getD q.1 (0,0)).1) (cap:=N) (z:=1) (e:=3) (wC [.int .i64 (y.1:Int)]) rfl s rfl rfl hD (by simpa using hi) kA (s.fct (.tmp 77)) (jY (s.fct (.tmp 76)) rfl rfl rfl) (sH q2 fnz) fun w hd he hs s=>?_
       replace I:=yD I hd (fun q hq=>by rw[hq];exact hv)
       replace hG:=hG.keep (fun q hq=>hd.block q (hG.lt hq) (hG.no hq hD.at.choose_spec dA dA)) he
       replace O:=O.keep (fun q hq=>hd.block q (O.lt q hq).2 (ha q hq)) he
       replace hD:=hs
       rw[zBA]at hD
       refine zF rfl ?_
       have J:=s.below
       replace I:=I.trans (J.mono I.size)
       replace hG:=hG.below J
       replace hD:=hD.below J
       replace O:=O.below J
       replace s:=s.anewB rfl rfl
       refine zA1 4 ((78,.u (UF.eq (q.2.2.1)))::(79,.X (fRo ((zH (rds N js []) at_).getD q.1 (0,0))) 0)::(80,.Z (uI ((((zH (rds N js []) at_).getD q.1 (0,0)).1:Nat):Int)))::(81,.s (wD w 3 1 [wC [.int .i64 ((((zH (rds N js []) at_).getD q.1 (0,0)).1:Nat):Int)]]))::[]) s kA
        (oc zA<|oc (zO (C:=cg (fRo ((zH (rds N js []) at_).getD q.1 (0,0)))) 0 kA)<|oc (yK (C:=cg (fRo ((zH (rds N js []) at_).getD q.1 (0,0)))) (k:=0) kA (h:=zEO))<|oc (zBd (fun u W J (hu:u=.int .i64 ((((zH (rds N js []) at_).getD q.1 (0,0)).1:Nat):Int))=>by subst hu;exact⟨_,_,zPR _,(zIb _ _).toN J.size rfl⟩))<|zC) fun a w24 s hr=>?_
       have J:=s.below
       replace I:=I.trans (J.mono I.size)
       replace hG:=hG.below J
       replace hD:=hD.below J
       replace O:=O.below J
       have qi:∀q_,q.2.2.1.ownBlock=some q_->∀q',zFr gg vs q'->q'≠q_:=fun q_ hh q' qp=>hG.no qp (qP O hh).2.choose_spec.1 dA dA
       refine zFw (base:=W.heap.size) (z:=1) (e:=3) (v:=q.2.2.1) (Cs:=ins (jI q.2.2.2)) [wC [.int .i64 ((((zH (rds N js []) at_).getD q.1 (0,0)).1:Nat):Int)]] s O I.size rfl kA kA rfl rfl (s.fct (.tmp 78)) (y9.row (hr (_,_) mz3)) (fun C hC=>by obtain rfl:=nY.1 hC;exact zJE rfl rfl) (by simp only[xT,jI,rI];omega) (sH (fun h=>hE h) fnz) fun hR a w q3 hd he qv s=>?_
       replace I:=yD I hd (fun q_ hq=>(O.lt q_ hq).1)
       replace hG:=hG.keep (fun q_ hq=>hd.block q_ (hG.lt hq) (fun hh=>qi _ hh _ hq rfl)) he
       replace ha:∀q_,hR.ownBlock=some q_->q_≠gl:=fun q_ hq=>by
        rcases qv with e|e
        .exact ha q_ (e▸hq)
        .rw[e]at hq;cases hq;have:=hD.lt;omega
       replace hD:=hD.keep (hd.block gl hD.lt (fun hh=>q4 _ hh rfl)) he
       replace O:=q3
       rw[zR2]at O
       replace s:=s.drop [9]
       refine yN (UF.eq hR) rfl s kA iiz fun a w s=>zF rfl ?_
       have J:=s.below
       replace I:=I.trans (J.mono I.size)
       replace hG:=hG.below J
       replace hD:=hD.below J
       replace O:=O.below J
       replace s:=s.anewB rfl rfl
       refine zP 1 ((83,.u (uI ((q.1+1:Nat):Int)))::[]) s kA
        (oc (yL .i64 (q.1:Int) 1 ((q.1+1:Nat):Int) iiz iiz (wrap64 _ _ oA oA))<|zC) fun a w25 s=>?_
       replace s:=s.drop [63]
       refine zBD (uI ((q.1+1:Nat):Int)) rfl s kA zA kA fun a w s=>zF rfl ?_
       have J:=s.below
       replace I:=I.trans (J.mono I.size)
       replace hG:=hG.below J
       replace hD:=hD.below J
       replace O:=O.below J
       replace s:=s.anewB rfl rfl
       replace s:=s.popB
       exact⟨(q.1+1,q.2.1.set ((zH (rds N js []) at_).getD q.1 (0,0)).1 (y.1:Int),hR,q.2.2.2++ [((zH (rds N js []) at_).getD q.1 (0,0)).1]),(by show(zH (rds N js []) at_).length-(q.1+1)<(zH (rds N js []) at_).length-q.1;omega),h8,(II.more hm hK hg hB hU ho).perm (fun x=>by simp[or_comm,or_left_comm]),(fun k qy=>by
        show ¬(q.2.1.set ((zH (rds N js []) at_).getD q.1 (0,0)).1 (y.1:Int)).getD _ 0<0
        rw[qW _ _ _ hi]
        split
        .omega
        .rcases xZ k q.1 with h|h
         .exact hP k h
         .rename_i hh;exact absurd (by
          have:k=q.1:=oA
          rw[this]) hh),(by
        show zKk (q.2.1.set ((zH (rds N js []) at_).getD q.1 (0,0)).1 (y.1:Int))+(q.2.2.2++ [((zH (rds N js []) at_).getD q.1 (0,0)).1]).length=_
        have h1:=zJu (z:=(y.1:Int)) hi ho oA
        rw[uD,rI];omega),I,hG,hD,O,ha,s.keepK _ (sH zFl<|sH zGN<|sH zMU<|sH mz2<|sH zFL<|sH (.tail _ zFL)<|sH (.tail _ (.tail _ zFL))<|sH (.tail _ (.tail _ (.tail _ zFL)))<|sH (.head _) fnz)⟩
      .have ho:=mB e
       refine nQ<|zP 1 ((83,.u (uI ((q.1+1:Nat):Int)))::[]) s kA
        (oc (yL .i64 (q.1:Int) 1 ((q.1+1:Nat):Int) iiz iiz (wrap64 _ _ oA oA))<|zC) fun a w26 s=>?_
       replace s:=s.drop [63]
       refine zBD (uI ((q.1+1:Nat):Int)) rfl s kA zA kA fun a w s=>zF rfl ?_
       have J:=s.below
       replace I:=I.trans (J.mono I.size)
       replace hG:=hG.below J
       replace hD:=hD.below J
       replace O:=O.below J
       replace s:=s.anewB rfl rfl
       replace s:=s.popB
       exact⟨(q.1+1,q.2.1,q.2.2.1,q.2.2.2),(by show(zH (rds N js []) at_).length-(q.1+1)<(zH (rds N js []) at_).length-q.1;omega),h8,hm,(fun k qy=>by
        rcases xZ k q.1 with h|h
        .exact hP k h
        .have e9:k=q.1:=oA
         rw[e9];exact ho),hW,I,hG,hD,O,ha,s.keepK _ (sH mz5<|sH mz6<|sH mz7<|sH mz8<|sH mz9<|sH zC1<|sH zDW<|sH zFl<|sH (.head _) fnz)⟩
     .have qg:=e
      refine rG ?_
      have hqd:q.1=(zH (rds N js []) at_).length:=by have h7:=mB qg;simp only[xT]at h7;omega
      have qk:=vQ hm (fun r hr=>by
       obtain⟨k,h1,h2⟩:=mY (show r∈(zH (rds N js []) at_)from hr)
       have h3:=hP k oA
       have h4:(zH (rds N js []) at_).getD k (0,0)=r:=by(rw[nX,mD h1];exact h2)
       rw[h4]at h3;exact h3)
      exact⟨(q.2.1,q.2.2.1,q.2.2.2),(by show zKk q.2.1+q.2.2.2.length<zKk z.1+z.2.2.length;rw[hW,etd,uD,rI];omega),qk,(by show zKk q.2.1+q.2.2.2.length<=N;rw[etd,uD,rI]at q6;omega),I,hG,hD,O,ha,s.keepK _ (sH mz1<|sH mz2<|sH mz3<|sH mz4<|sH mz5<|sH mz6 fnz)⟩
    .have qo:z.2.2=[]:=by have h7:=mB e;simp only[xT,jI]at h7;exact xL oA
     refine rG<|zP 1 ((84,.u (uI ((y.1+1:Nat):Int)))::[]) s kA
      (oc (yL .i64 (y.1:Int) 1 ((y.1+1:Nat):Int) iiz iiz (wrap64 _ _ oA oA))<|zC) fun a w27 s=>?_
     replace s:=s.drop [30]
     refine zBD (uI ((y.1+1:Nat):Int)) rfl s kA zA kA fun a w s=>zF rfl ?_
     have J:=s.below
     replace I:=I.trans (J.mono I.size)
     replace hG:=hG.below J
     replace hD:=hD.below J
     replace O:=O.below J
     replace s:=s.anewB rfl rfl
     exact⟨(y.1+1,z.1),(by show N-(y.1+1)<N-y.1;omega),h8,(II.done (qo▸hI) hK hS h8),I,hG,hD,s.keepK _ (sH mz3<|sH mz4<|sH mz7<|sH (.head _) fnz)⟩
  .have h8:y.1=N:=by have:=mB e;omega
   refine rG<|rgQ ((85,.Z (UF.eq (.slice (some ⟨gl,0,none⟩) N N)))::(4,.u (UF.eq (.slice (some ⟨gl,0,none⟩) N N)))::[]) s
    (oc zA<|oc zE<|zC) fun a w28 s=>?_
   have J:=s.below
   replace I:=I.trans (J.mono I.size)
   replace hG:=hG.below J
   replace hD:=hD.below J
   replace s:=s.anewB rfl rfl
   refine nR ?_
   rw[h8]at hO
   exact StS.resN s I rfl ⟨y.2,hO.labd,by rw[show a.tmps.getD _ undef=_ from s.fct (.tmp 4)];exact hD.toN hv (by simp[hO.ln])⟩
end Go.Proofs.Wd
