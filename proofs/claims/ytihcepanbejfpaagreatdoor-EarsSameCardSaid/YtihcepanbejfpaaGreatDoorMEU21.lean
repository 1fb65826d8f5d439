/- Walks of slices: AppendSeq, Collect; of package hull: Edges; slices.De and what it needs. -/
import Derived.Test.YtihcepanbejfpaaGreatDoorMEU20
abbrev zHS:=@List.length_eraseIdx_of_lt
abbrev zY8:=@Nat.mod_self
abbrev zY9:=@List.getElem?_range
abbrev zZa:=@List.eraseIdx_eq_take_drop_succ
abbrev zZb:=@decide_eq_true_iff
abbrev zZc:=@List.countP_cons
abbrev zZd:=@Nat.mod_add_mod
abbrev zZe:=@Nat.add_mod_right
abbrev zZf:=@Int.tmod_lt_of_pos
namespace Go.Proofs.Wd
open Tryz
open Go.RowKit Lb
variable {C S':Nat->Prop}{N base c c1 c2 c3 cap g gf i j k n o z:Nat}{W w w' w0 w00 w_:WB}{e e' ty:WF}{u v:WE}{Cs Ds:List CU}{A:Option Addr}{hi lo x y:Operand}{t:V6}{f f' g':UF}{ops:Array Oper}{a b ca cb cc cd d p q:V2}{pos:String}{aft:Array Edge}{P:Program}{zs:List WE}{ie:TypeInfo}{L l l' ps:List V2}{ts:List V6}{idx:Nat->Nat}{lb:Array WE}{Ef:Nat->List UF}{FF SS:Int}
section
variable {S:Nat->Prop}{w0:WB}{K:List (Nat×KF)}{B:List Bx}{n:Nat}{ds:List Deferred}{a:Act}{w:WB}
theorem StS.wider(h:StS S w0 K B n [] a w)(J:Nat->Prop)(O:∀q,S q->J q)(I:(K.all fun q=>zJg q.2)=true):StS J w0 K B n [] a w:=by
 have I:=yX I
 refine⟨h.gr.sub O,h.size,h.nd,fun q U=>?_,wR (a:=a) B (fun x hx=>?_) (fun _ _=>rfl) h.bx,⟨[],Marks.nil _ _⟩,.inl I⟩
 .obtain⟨f,e⟩:=I q U
  have:=h.sl q U
  rw[e]at this ⊢
  exact this
 .obtain⟨cs,_,h2,_⟩:=h.bx.mem x hx
  rcases h2 with e|e|e
  .exact .inl e
  .exact .inr (.inl e)
  .exact .inr (.inr (O _ e))
theorem wN{w1:WB}{K0:List (Nat×KF)}{B0:List Bx}{n0:Nat}{ds0:List Deferred}{a0:Act}(h0:StS S w0 K0 B0 n0 ds0 a0 w1)(h:StS S' w1 K B n [] a w)(U:∀q,S' q->S q∨w0.heap.size<=q)(I:(K.all fun q=>zJg q.2)=true):StS S w0 K B n [] a w:=by
 have I:=yX I
 refine⟨⟨h.gr.os.trans h0.gr.os,h.gr.tape.trans h0.gr.tape,h.gr.output.trans h0.gr.output,xQ h0.gr.size h.gr.size,fun k J O=>(h.gr.block k (vU J h0.gr.size) fun hh=>by
  rcases U k hh with e|e
  .exact O e
  .omega).trans (h0.gr.block k J O)⟩,h.size,h.nd,fun q hq=>?_,wR (a:=a) B (fun x hx=>?_) (fun _ _=>rfl) h.bx,⟨[],Marks.nil _ _⟩,.inl I⟩
 .obtain⟨f,e⟩:=I q hq
  have:=h.sl q hq
  rw[e]at this ⊢
  exact this
 .obtain⟨cs,_,h2,_⟩:=h.bx.mem x hx
  rcases h2 with e|e|e
  .exact .inl e
  .exact .inr (.inl (xQ h0.gr.size e))
  .rcases U _ e with e|e
   .exact .inr (.inr e)
   .exact .inr (.inl e)
end
theorem zEg(h:Oth N w w'):zDQ w w':=⟨by rw[h.size];exact vP _,fun q o I J=>by
 rcases h.block q with e|⟨_,⟨o2,h2,h3⟩,_⟩
 .exact e.trans I
 .rw[I]at h2
  cases h2
  rw[J]at h3
  cases h3⟩
theorem zCY(h:zAk w base e z v Cs):∃A n c,v=.slice A n c:=by
 rcases h with⟨rfl,_⟩|⟨g,cap,cur,rfl,_⟩<;>exact⟨_,_,_,rfl⟩
theorem zDo(h:zAk w base e z v Cs){q:Nat}(I:v.ownBlock=some q):q<w.heap.size/\∃(cs:Array WE) (t:WF) (y:Nat×Nat),w.heap[q]?=some (.cells cs t y)/\cs.toList.all zX=true:=by
 refine⟨(h.lt q I).2,?_⟩
 rcases h with⟨rfl,_⟩|⟨g,cap,J,rfl,h2,h3,h4,h5,h6,O,h8⟩
 .simp[Value.ownBlock]at I
 .simp[Value.ownBlock]at I
  subst I
  exact⟨J,_,_,h3,O⟩
theorem zGd{C:CU}(O:∀cs W,C.p cs W->cs.length=1)(v:WE)(W:WB)(h:(UF.eq (.slice A n c)).p v W):v.cells.size=1/\(∀u,u∈v.cells.toList->u.oneCell'=true)/\v.cells.toList.all zX=true/\∀cs,C.p cs W->0+1<=cs.length/\(wC [.slice A n c]).p (jH cs 0 v.cells.toList) W:=by
 obtain rfl:v=_:=h
 refine⟨rfl,fun u I=>by simp[Value.cells]at I;rw[I];rfl,rfl,fun cs J=>?_⟩
 obtain⟨c,rfl⟩:=List.length_eq_one_iff.1 (O cs W J)
 exact⟨by simp,rfl⟩
section
variable {F:Fence}{m:Nat}{P:Program}{w0:WB}{ops:Array Oper}{G:Nat->SF}{d:Tmp}{ty:WF}{pos:String}{aft:Array Edge}
theorem zCr{t:WF}{f:SF}(O:zDM P t=true)(U:∀u W,(fct G x).p u W->(wD (wC [v]).cf).p u W)(I:f.p v w0)(hd:∀u W,f.p u W->(G d).p u W:=by exact fun _ _ h=>h):qO F m P w0 ops G ⟨some d,.load t x,ty,pos,aft,none⟩:=
 qG (fun _ e=>by cases e) (fun _ e=>by cases e) fun b W hb J=>by
  obtain⟨a,q,cs,e,h2,h3⟩:=U _ _ (J x (by simp[Op.operands]))
  obtain rfl:cs=[v]:=h2
  exact⟨_,by simp[execOp,Instr.loadAt,e,Instr.sureAddr,zBq O h3 (u:=v) rfl],hd _ _ (f.st _ _ _ I hb)⟩
end
section
variable {S:Nat->Prop}{F:Fence}{m:Nat}{P:Program}{Q:Exit->Act->WB->Prop}{w0:WB}{K:List (Nat×KF)}{B:List Bx}{n:Nat}{ds:List Deferred}{a:Act}{w:WB}
theorem zG2{d:Nat}(C:CU){cs:List WE}(hz:zeroCells P e=some cs)(ho:ops[k]?=some ⟨some d,.alloc e,ty,pos,aft,none⟩)(h:StS S w0 K B n ds a w)(J:j9 K B n d=true)(O:∀W,C.p cs W)(U:cs.all zX=true)
  (fin:∀b a w',w.heap.size<=b->StS S w0 K (⟨d,e,C,b,false⟩::B) n ds a w'->zAW F m P ops Q (k+1) a w'):zAW F m P ops Q k a w:=by
 have I:(Instr.alloc e true (.tuple #[])).run P w=.ok (pO w.heap.size 0) (w.alloc (.cells cs.toArray e (0,0))):=by
  unfold zeroCells at hz
  cases hi:P.info? e with
  |none=>rw[hi]at hz;cases hz
  | some i=>
   rw[hi]at hz
   simp only[mF]at hz
   cases hzz:i.zero with
   |none=>rw[hzz]at hz;cases hz
   |some z=>
    rw[hzz]at hz
    simp only[mB,lY]at hz
    subst hz
    simp[Instr.alloc,zeroValue,typeInfo,hi,hzz,newVar,newRow]
 exact zAl ho rfl (zCd (fun _ e=>by cases e) (fun _ e=>by cases e) (W':=w.alloc (.cells cs.toArray e (0,0))) (v:= pO w.heap.size 0) (by simp[execOp,I]) (fin _ _ _ lr (h.lay J (O _) U)))
end
set_option maxRecDepth 100000
set_option maxHeartbeats 1000000
def zDU(w:WB)(g:Nat)(e:WF)(z cap:Nat)(Cs:List CU):Prop:=
 ∃cur:Array WE,w.heap[g]?=some (.cells cur e (0,0))/\Cs.length<=cap/\cap<=maxLen/\cur.size=cap*z/\cur.toList.all zX=true/\∀(i:Nat) (C:CU),Cs[i]?=some C->C.p ((cur.toList.drop (i*z)).take z) w
theorem zDU.toN(h:zDU w g e z cap Cs){base:Nat}(hb:base<=g){n:Nat}(U:n=Cs.length):zAk w base e z (.slice (some ⟨g,0,none⟩) n cap) Cs:=by
 subst U
 obtain⟨I,J,h2,h3,O,h5,h6⟩:=h
 exact .inr ⟨g,cap,I,rfl,hb,J,h2,h3,O,h5,h6⟩
theorem zDU.take(h:zDU w g e z cap Cs)(i:Nat):zDU w g e z cap (Cs.take i):=by
 obtain⟨J,O,h2,h3,U,h5,h6⟩:=h
 refine⟨J,O,by rw[uD];omega,h3,U,h5,fun j C I=>?_⟩
 rw[uT]at I
 split at I
 .exact h6 j C I
 .cases I
theorem zU2(h:zAk w base e z v Cs)(h0:0<Cs.length):∃g cap,v=.slice (some ⟨g,0,none⟩) Cs.length cap/\base<=g/\zDU w g e z cap Cs:=by
 rcases h with⟨_,rfl⟩|⟨g,cap,I,rfl,hb,J,h2,h3,O,h5,U⟩
 .simp at h0
 .exact⟨g,cap,rfl,hb,I,J,h2,h3,O,h5,U⟩
theorem zDU.keepU(h:zDU w g e z cap Cs)(I:w.grownBy w' (some g)):y9 w w':=zAk.keepU (h.toN lr rfl) I
theorem zPL{t:WF}{v2:WE}(h5:zEO P t=some (e,z,true))(hr:zDU w g e z cap Cs)(h2:(SF.row z Ds).p v2 w)(hD:∀C,C∈Ds->CU.ok z C)(O:Cs.length+Ds.length<=cap):
  ∃w',(Builtin.append_ #[t,t] ty #[.slice (some ⟨g,0,none⟩) Cs.length cap,v2]).run P w=.ok (.slice (some ⟨g,0,none⟩) (Cs.length+Ds.length) cap) w'/\zDU w' g e z cap (Cs++Ds)/\w.grownBy w' (some g):=by
 obtain⟨ht,i,zv,hi,hz,hs,hby0,hzs,hzn,hz0⟩:=zCx h5
 obtain⟨J,g3,g4,g5,g6,g7,g8⟩:=id hr
 obtain⟨A,c,rfl,hlc,hcm,ho,h4⟩:=h2
 cases A with
 | none=>
  have hp:Ds=[]:=by
   cases Ds with
   |nil=>rfl
   |cons D Ds=>obtain⟨b,o,cs,e1,_⟩:=h4 0 D rfl;cases e1
  subst hp
  have hc:=ho rfl
  subst hc
  refine⟨w,?_,by simpa using hr,⟨rfl,rfl,rfl,vP _,fun _ _ _=>rfl⟩⟩
  simp[Builtin.append_,bK ht,sizeOf,typeInfo,hi,Builtin.lenOf,Builtin.firstCells,g4,storeCells]
 | some ad=>
  obtain⟨I,n1,n2,n3,n4,n5⟩:∃I:List WE,I.length=Ds.length*z/\(∀j u,I[j]?=some u->w.cell? (ad.add j)=some u)/\(∀u,u∈I->u.oneCell'=true)/\I.all zX=true/\∀(i:Nat) (C:CU),Ds[i]?=some C->C.p ((I.drop (i*z)).take z) w:=by
   cases Ds with
   |nil=>exact⟨[],by simp,by simp,by simp,rfl,by simp⟩
   | cons D Ds=>
    obtain⟨b,o,cs,e1,_⟩:=h4 0 D rfl
    cases e1
    obtain⟨I,k1,k2,k3⟩:=zD3 (W:=w) (b:=b) (z:=z) (D::Ds) o hD fun i C he=>by
     obtain⟨b',o',cs',e',m1,m2⟩:=h4 i C he
     cases e'
     exact⟨cs',m1,m2⟩
    exact⟨I,k1,fun j u hj=>by rw[xH];exact k2 j u hj,k3⟩
  have U:Cs.length*i.size+I.length<=J.size:=by rw[n1,g6,hs,<-vT];exact uE _ O
  have h8:=run_append_room (P:=P) w t ty e i ht hi g Cs.length cap J g3 ad Ds.length c I (by rw[hs];exact n1) n2 n3 O U
  rw[hs]at h8 U
  have h7:w.grownBy (w.setRow g (J.toList.take (Cs.length*z)++I++J.toList.drop (Cs.length*z+I.length)).toArray) (some g):=zBB w g _
  have hk:y9 w (w.setRow g (J.toList.take (Cs.length*z)++I++J.toList.drop (Cs.length*z+I.length)).toArray):=hr.keepU h7
  have hg:J.toList.length=cap*z:=g6
  have hh:Cs.length*z<=J.toList.length:=by rw[hg];exact uE _ g4
  have h6:(J.toList.take (Cs.length*z)).length=Cs.length*z:=by rw[uD,uQ hh]
  have h0:∀u,u∈J.toList->zX u=true:=xR.1 g7
  refine⟨_,h8,⟨_,sZ w g J _ e _ g3,by rw[uF];exact O,g5,?_,?_,?_⟩,h7⟩
  .simp only[bP,uF,uD,uJ,tA]
   rw[<-g6]
   omega
  .exact zDP (xR.2 fun u hu=>h0 u (uV hu)) n4 (xR.2 fun u hu=>h0 u (uZ hu))
  .refine zDr h6 n1 (fun j C hj=>?_) n5 hk
   have hf:j<Cs.length:=(bE.1 hj).1
   have h1:=g8 j C hj
   rw[<-gA (Cs.length*z) J.toList,zCV h6 hf]at h1
   exact h1
theorem zGP{I:Array WE}(h:∀u,u∈I.toList->u.oneCell'=true)(n:Nat):∀u,u∈(Builtin.zeroCells I n).toList->u.oneCell'=true:=by
 intro u O
 simp only[Builtin.zeroCells,Array.toList_map,xG,Array.toList_range,xT]at O
 obtain⟨i,hi,rfl⟩:=O
 have U:0<I.size:=by
  rcases uH I.size with h|h
  .rw[h]at hi;omega
  .exact h
 have J:i%I.size<I.size:=vW _ U
 rw[getElem!_pos I _ J]
 exact h _ (Array.getElem_mem_toList J)
theorem zPK{t:WF}(h7:zEO P t=some (e,z,true))(J:zeroCells P e=some zs)(ha:∀u,u∈zs->u.oneCell'=true)(hr:zDU w g e z cap Cs)(ho:Cs.length<=o)(hn0:0<n)(hn:o+n<=cap):
  ∃w',(Builtin.clear_ #[t] ty #[.slice (some ⟨g,o*z,none⟩) n c]).run P w=.ok (.tuple #[]) w'/\zDU w' g e z cap Cs/\w.grownBy w' (some g):=by
 obtain⟨ht,i,O,hi,hz,hs,hby0,h6,hc,hz0⟩:=zCx h7
 obtain⟨I,g3,g4,g5,g6,g7,g8⟩:=id hr
 have ez:zs=O.cells.toList:=by
  unfold zeroCells at J
  rw[hi]at J
  simp only[mF,hz,mB,lY]at J
  exact J.symm
 subst ez
 have h8:(Builtin.zeroCells O.cells n).toList.length=n*z:=by rw[tA,tC,h6]
 have h4:I.toList.length=cap*z:=g6
 have h5:o*z+n*z<=cap*z:=by rw[<-vT];exact uE _ hn
 have hg:=zAp (P:=P) (b:=g) (t:=e) (Builtin.zeroCells O.cells n).toList (o*z) I.toList w (by simpa using g3) (by rw[h8,h4];exact h5) (zGP ha n)
 have U:=zBw (b:=g) (Builtin.zeroCells O.cells n).toList (o*z) 0
 rw[uM]at U
 obtain⟨n',rfl⟩:∃n',n=n'+1:=⟨n-1,by omega⟩
 have h9:w.grownBy (w.setRow g (jH I.toList (o*z) (Builtin.zeroCells O.cells (n'+1)).toList).toArray) (some g):=zBB w g _
 refine⟨w.setRow g (jH I.toList (o*z) (Builtin.zeroCells O.cells (n'+1)).toList).toArray,?_,⟨_,sZ w g I _ e _ g3,g4,g5,?_,?_,fun j C hj=>?_⟩,h9⟩
 .have hf:(zeroValue e).run P w=.ok O w:=by simp[zeroValue,typeInfo,hi,hz]
  simp only[Builtin.clear_]
  simp[bK ht,hf,U,hg,Result.andThen]
 .unfold jH
  simp only[bP,uF,uD,uJ]
  rw[h8,h4]
  omega
 .unfold jH
  have h0:∀u,u∈I.toList->zX u=true:=xR.1 g7
  exact zDP (xR.2 fun u hu=>h0 u (uV hu)) (zBE hc _) (xR.2 fun u hu=>h0 u (uZ hu))
 .have hlt:j<Cs.length:=(bE.1 hj).1
  have h1:=g8 j C hj
  have hjz:j*z+z<=o*z:=by
   have:=uE z (show j+1<=o by omega)
   rw[vT,uU]at this
   exact this
  have hd:(I.toList.take (o*z)).length=o*z:=by rw[uD,h4];omega
  have e1:((jH I.toList (o*z) (Builtin.zeroCells O.cells (n'+1)).toList).drop (j*z)).take z=(I.toList.drop (j*z)).take z:=by
   refine List.ext_getElem? fun q=>?_
   unfold jH
   rw[uT,uT]
   split
   .rename_i hq
    rw[uW,uW,sY,gB (by rw[hd];omega),uT,if_pos oA]
   .rfl
  show C.p (((jH I.toList (o*z) (Builtin.zeroCells O.cells (n'+1)).toList).toArray.toList.drop (j*z)).take z) _
  rw[zCK,e1]
  exact C.us _ _ _ h1 (hr.keepU h9)
section
variable {S:Nat->Prop}{F:Fence}{m:Nat}{P:Program}{Q:Exit->Act->WB->Prop}{w0:WB}{K:List (Nat×KF)}{B:List Bx}{n:Nat}{ds:List Deferred}{a:Act}{w:WB}{ops:Array Oper}
theorem StS.turnR(h:StS S w0 K [] n [] a w){g:Nat}{w':WB}(hS:S g)(hg:w.grownBy w' (some g))(hk:y9 w w')(J:(K.all fun q=>zJg q.2)=true):StS S w0 K [] n [] a w':=
 ⟨h.gr.grown hg (.inr hS),h.size,h.nd,fun q O=>by
  obtain⟨f,U⟩:=yX J q O
  have I:=h.sl q O
  rw[U]at I ⊢
  exact f.us _ _ _ I hk,trivial,⟨[],Marks.nil _ _⟩,.inl (yX J)⟩
theorem zUQ{d:Nat}{t:WF}(h:StS S w0 K [] n [] a w)(hS:S g)(hr:zDU w g e z cap Cs)
  (ho:ops[k]?=some ⟨some d,.call ⟨.builtin .append,#[x,y],#[t,t]⟩,ty,pos,aft,none⟩)(happ:zEO P t=some (e,z,true))(hf:j9 K [] n d=true)(hu:(K.all fun q=>zJg q.2)=true)
  (hx:a.eval x=.slice (some ⟨g,0,none⟩) Cs.length cap)(hy:(SF.row z Ds).p (a.eval y) w)(hD:∀C,C∈Ds->CU.ok z C)(hroom:Cs.length+Ds.length<=cap)
  (fin:∀a' w',w.heap.size<=w'.heap.size->w.grownBy w' (some g)->zDU w' g e z cap (Cs++Ds)->StS S w0 ((d,.u (UF.eq (.slice (some ⟨g,0,none⟩) (Cs.length+Ds.length) cap)))::K) [] n [] a' w'->zAW F m P ops Q (k+1) a' w'):zAW F m P ops Q k a w:=by
 obtain⟨w',hrun,g1,g2⟩:=zPL (P:=P) (ty:=ty) happ hr hy hD hroom
 have hrun2:(execOp a.eval ⟨some d,.call ⟨.builtin .append,#[x,y],#[t,t]⟩,ty,pos,aft,none⟩).run P w=.ok (.value (.slice (some ⟨g,0,none⟩) (Cs.length+Ds.length) cap)) w':=by
  simp only[execOp,resolve,invoke,builtin,cD,cF,cL,cP,xX,bV,hx,hrun]
 refine zAl ho rfl ⟨fun f hf=>(by
  unfold Oper.about at hf
  simp[resolve,go_sem]at hf),?_⟩
 rw[bI _ _ _ (fun _ e=>by cases e),hrun2]
 exact fin _ w' g2.size g2 g1 ((h.turnR hS g2 (hr.keepU g2) hu).set hf (xF _ _) rfl)
theorem zUP{t:WF}{n':Nat}(h:StS S w0 K [] n [] a w)(hS:S g)(hr:zDU w g e z cap Cs)
  (ho:ops[k]?=some ⟨none,.call ⟨.builtin .clear,#[x],#[t]⟩,ty,pos,aft,none⟩)(happ:zEO P t=some (e,z,true))(hzs:zeroCells P e=some zs)(hone:∀u,u∈zs->u.oneCell'=true)(hu:(K.all fun q=>zJg q.2)=true)
  (hx:a.eval x=.slice (some ⟨g,o*z,none⟩) n' c)(hoc:Cs.length<=o)(hn0:0<n')(hn:o+n'<=cap)
  (fin:∀w',w.grownBy w' (some g)->zDU w' g e z cap Cs->StS S w0 K [] n [] a w'->zAW F m P ops Q (k+1) a w'):zAW F m P ops Q k a w:=by
 obtain⟨w',hrun,g1,g2⟩:=zPK (P:=P) (ty:=ty) (c:=c) happ hzs hone hr hoc hn0 hn
 have hrun2:(execOp a.eval ⟨none,.call ⟨.builtin .clear,#[x],#[t]⟩,ty,pos,aft,none⟩).run P w=.ok (.value (.tuple #[])) w':=by
  simp only[execOp,resolve,invoke,builtin,cD,cF,cL,cP,xX,bV,hx,hrun]
 refine zAl ho rfl ⟨fun f hf=>(by
  unfold Oper.about at hf
  simp[resolve,go_sem]at hf),?_⟩
 rw[bI _ _ _ (fun _ e=>by cases e),hrun2]
 exact fin w' g2 g1 (h.turnR hS g2 (hr.keepU g2) hu)
end
section
variable {F:Fence}{m:Nat}{P:Program}{w0:WB}{ops:Array Oper}{G:Nat->SF}{d:Tmp}{ty:WF}{pos:String}{aft:Array Edge}
theorem zPI{t:WF}(hu:P.underlying t=some (.slice e'))(hie:P.info? e'=some ie)(A:Option Addr)(n c lo hi mx:Nat)(h1:lo<=hi)(h2:hi<=mx)(h3:mx<=c)(w:WB):∃v,(Instr.sliceAt t (.slice A n c) (some (.int .i64 (lo:Int))) (some (.int .i64 (hi:Int))) (some (.int .i64 (mx:Int)))).run P w=.ok v w:=by
 exact⟨_,by simp[Instr.sliceAt,Instr.slice,Instr.sliceBounds,bK hu,sizeOf,typeInfo,hie,go_sem,h1,h2,h3];rfl⟩
theorem zTE{J:Operand}{t:WF}(hz:qS P t=some z)(h1:i<=j)(h2:j<=k)(h3:k<=c)(hx:∀v W,(fct G x).p v W->v=.slice A n c)(hl:∀v W,(fct G lo).p v W->v=.int .i64 (i:Int))(hh:∀v W,(fct G hi).p v W->v=.int .i64 (j:Int))(hm:∀v W,(fct G J).p v W->v=.int .i64 (k:Int))(hd:∀v W,(G d).p v W:=by exact fun _ _=>trivial):qO F m P w0 ops G ⟨some d,.slice t x (some lo) (some hi) (some J),ty,pos,aft,none⟩:=
 qG (fun _ e=>by cases e) (fun _ e=>by cases e) fun b W hb I=>by
  have e1:=hx _ _ (I x (by simp[Op.operands]))
  have e2:=hl _ _ (I lo (by simp[Op.operands]))
  have e3:=hh _ _ (I hi (by simp[Op.operands]))
  have U:=hm _ _ (I J (by simp[Op.operands]))
  unfold qS at hz
  split at hz<;>try cases hz
  rename_i e' hu
  obtain⟨ie,O,hsz⟩:=lZ.1 hz
  obtain⟨v,hv⟩:=zPI (P:=P) hu O A n c i j k h1 h2 h3 W
  exact⟨v,by simp[execOp,e1,e2,e3,U,hv],hd _ _⟩
theorem zLI{t:WF}(hu:P.underlying t=some (.slice e'))(hie:P.info? e'=some ie)(hsz:ie.size=z)(g n c k h:Nat)(hk:k<=h)(hh:h<=c)(hkc:c≠k)(w:WB):(Instr.sliceAt t (.slice (some ⟨g,0,none⟩) n c) (some (.int .i64 (k:Int))) (some (.int .i64 (h:Int))) none).run P w=.ok (.slice (some ⟨g,k*z,none⟩) (h-k) (c-k)) w:=by
 simp[Instr.sliceAt,Instr.slice,Instr.sliceBounds,bK hu,sizeOf,typeInfo,hie,hsz,go_sem,hk,hh,hkc,xH]
theorem zNJ{t:WF}{h:Nat}(hz:qS P t=some z)(hk:k<=h)(hh:h<=c)(U:c≠k)(hx:∀v W,(fct G x).p v W->v=.slice (some ⟨g,0,none⟩) n c)(hl:∀v W,(fct G lo).p v W->v=.int .i64 (k:Int))(O:∀v W,(fct G hi).p v W->v=.int .i64 (h:Int))(hd:∀W,(G d).p (.slice (some ⟨g,k*z,none⟩) (h-k) (c-k)) W:=by exact fun _=>rfl):qO F m P w0 ops G ⟨some d,.slice t x (some lo) (some hi) none,ty,pos,aft,none⟩:=
 qG (fun _ e=>by cases e) (fun _ e=>by cases e) fun b W hb J=>by
  have e1:=hx _ _ (J x (by simp[Op.operands]))
  have e2:=hl _ _ (J lo (by simp[Op.operands]))
  have e3:=O _ _ (J hi (by simp[Op.operands]))
  unfold qS at hz
  split at hz<;>try cases hz
  rename_i e' hu
  obtain⟨ie,I,h0⟩:=lZ.1 hz
  exact⟨_,by simp[execOp,e1,e2,e3,zLI (P:=P) hu I h0 g n c k h hk hh U W],hd _⟩
end
theorem StS.anew{S:Nat->Prop}{K:List (Nat×KF)}{a:Act}(h:StS S w0 K [] n [] a w)(I:(K.all fun q=>zJg q.2)=true):StS S' w K [] n [] a w:=
 ⟨BlS.refl _ _,h.size,h.nd,fun q O=>by
  obtain⟨f,U⟩:=yX I q O
  have J:=h.sl q O
  rw[U]at J ⊢
  exact J,trivial,⟨[],Marks.nil _ _⟩,.inl (yX I)⟩
theorem zEi(h:bW w w')(g:Option Nat):w.grownBy w' g:=⟨h.os,h.tape,h.output,h.size,fun k I _=>h.block k I⟩
theorem zDv{a b c:WB}{g:Option Nat}(h:a.grownBy b g)(k:b.grownBy c g):a.grownBy c g:=⟨k.os.trans h.os,k.tape.trans h.tape,k.output.trans h.output,xQ h.size k.size,fun q J I=>(k.block q (vU J h.size) I).trans (h.block q J I)⟩
theorem zDU.below(h:zDU w g e z cap Cs)(hb:bW w w'):zDU w' g e z cap Cs:=by
 obtain⟨I,J,h2,h3,O,h5,U⟩:=h
 exact⟨I,(hb.block g (xP.1 J).1).trans J,h2,h3,O,h5,fun i C hi=>C.us _ _ _ (U i C hi) (zO hb)⟩
theorem zOx{α:Type}(l:List α)(i:Nat):l.take i++l.drop (i+1)=l.eraseIdx i:=(zZa l i).symm
theorem zRx{x:WE}(hr:zDU W g 30 6 cap Cs)(hC:∀C,C∈Cs->CU.ok 6 C)(hi:i<Cs.length)(hn:Cs.length<=1000000)(hv:v=.slice (some ⟨g,0,none⟩) Cs.length cap)(hu:u=.int .i64 (i:Int))(hx:x=.int .i64 ((i+1:Nat):Int)):
  Calls prog 37 #[v,u,x] W fun e W'=>e=.returned (.slice (some ⟨g,0,none⟩) (Cs.length-1) cap)/\zDU W' g 30 6 cap (Cs.eraseIdx i)/\W.grownBy W' (some g):=by
 subst hv hu hx
 have I:Cs.length<=cap:=by obtain⟨_,_,h,_⟩:=hr;exact h
 refine zHL func37 rfl ?_
 have s:=zG5 (w:=W) (fn:=f37) (args:=#[.slice (some ⟨g,0,none⟩) Cs.length cap,.int .i64 (i:Int),.int .i64 ((i+1:Nat):Int)]) noS [(0,UF.eq (.slice (some ⟨g,0,none⟩) Cs.length cap)),(1,uI (i:Int)),(2,uI ((i+1:Nat):Int))] [] kA (fun q hq=>by
  simp only[xS,rO,rN]at hq
  rcases hq with rfl|rfl|rfl
  .exact⟨by simp,rfl⟩
  .exact⟨by simp,rfl⟩
  .exact⟨by simp,rfl⟩) trivial (fun x hx=>by cases hx)
 generalize({ tmps:=#[.slice (some ⟨g,0,none⟩) Cs.length cap,.int .i64 (i:Int),.int .i64 ((i+1:Nat):Int)]++Array.replicate (f37.ntmps-(#[.slice (some ⟨g,0,none⟩) Cs.length cap,.int .i64 (i:Int),.int .i64 ((i+1:Nat):Int)]:Array WE).size) undef,defers:=[] }:Act)=a at s ⊢
 have hle:Cs.length<9223372036854775807:=by omega
 refine rgQ ((6,.u (UF.eq (sN)))::[]) s
  (oc zE<|zB) fun a w1 s=>rgQ ((8,.s (UF.eq (.slice (some ⟨g,0,none⟩) Cs.length cap)).tS)::(9,.s (uI (i:Int)).tS)::(10,.s (uI ((i+1:Nat):Int)).tS)::(11,.s (UF.eq (.slice (some ⟨g,0,none⟩) Cs.length cap)).tS)::(12,.s (uI (Cs.length:Int)).tS)::(13,.s SF.any)::[]) s
  (oc zA<|oc zA<|oc zA<|oc zA<|oc (zC3 kA (fun v W h=>⟨_,_,_,h,rfl⟩))<|oc (zTE (A:=some ⟨g,0,none⟩) (n:=Cs.length) (c:=cap) (i:=i) (j:=i+1) (k:=Cs.length) (z:=6) kA oA oA I iiz iiz iiz iiz)<|zB) fun a w2 s=>lQ<|rgQ ((14,.s (uI (i:Int)).tS)::(15,.s (uI ((i+1:Nat):Int)).tS)::(16,.u (uB false))::[]) s
  (oc zA<|oc zA<|oc (zM .i64 (i:Int) ((i+1:Nat):Int) false iiz iiz (nJ.2 oA) rfl)<|zB) fun a w3 s=>StS.cond s false iiz (fun e=>by cases e) (fun e=>?_)
 refine pV<|rgQ ((18,.s (UF.eq (.slice (some ⟨g,0,none⟩) Cs.length cap)).tS)::(19,.s (uI (Cs.length:Int)).tS)::(7,.u (uI (Cs.length:Int)))::[]) s
  (oc zA<|oc (zC3 kA (fun v W h=>⟨_,_,_,h,rfl⟩))<|oc zE<|zB) fun a w4 s=>lQ ?_
 have h7:=s.below
 have h0:=hr.below h7
 have U:(SF.row 6 Cs).p (.slice (some ⟨g,0,none⟩) Cs.length cap) w4:=(h0.toN lr rfl).row
 replace s:=(s.keepK [(0,.u (UF.eq (.slice (some ⟨g,0,none⟩) Cs.length cap))),(1,.u (uI (i:Int))),(2,.u (uI ((i+1:Nat):Int))),(7,.u (uI (Cs.length:Int)))] (fmz ⟨mz3,fmz ⟨mz4,fmz ⟨mz5,fmz ⟨.head _,fnz⟩⟩⟩⟩)).anew (S':=noS) kA
 refine zBy (K:=[(1,.u (uI (i:Int))),(2,.u (uI ((i+1:Nat):Int))),(7,.u (uI (Cs.length:Int)))]) [(0,.u (UF.eq (.slice (some ⟨g,0,none⟩) Cs.length cap)))] [0,3] 6 ((20,.u (UF.eq (.slice (some ⟨g,0,none⟩) Cs.length cap)))::(21,.s (uI (i:Int)).tS)::(22,.u (UF.eq (.slice (some ⟨g,0,none⟩) i cap)))::(23,.s (UF.eq (.slice (some ⟨g,0,none⟩) Cs.length cap)).tS)::(24,.s (uI ((i+1:Nat):Int)).tS)::(25,.s (SF.row 6 (Cs.drop (i+1))))::[]) hmix (s.keepK _ (fmz ⟨.head _,fmz ⟨mz1,fmz ⟨mz2,fmz ⟨mz3,fnz⟩⟩⟩⟩)) kA
  (oc zA<|oc zA<|oc (zVs (A:=some ⟨g,0,none⟩) (n:=Cs.length) (c:=cap) (k:=i) (z:=6) kA oA iiz iiz)<|oc zA<|oc zA<|oc (zGA (z:=6) (k:=i+1) (Cs:=Cs) kA oA (fun v W hb h=>by rw[show v=_ from h];exact(SF.row 6 Cs).st _ _ _ U (s.up hb)) iiz)<|zB) fun Q' hQ a w5 s hc=>?_
 have h5:=s.below
 have he:=h0.below h5
 have O:(Cs.take i).length=i:=by rw[uD];omega
 have h4:(Cs.drop (i+1)).length=Cs.length-(i+1):=uJ
 have e22:a.tmps.getD 22 undef=.slice (some ⟨g,0,none⟩) i cap:=s.val mz1
 refine zUQ (S:=fun q=>q=g) (g:=g) (e:=30) (z:=6) (cap:=cap) (Cs:=Cs.take i) (Ds:=Cs.drop (i+1)) ((s.keepK [(1,.u (uI (i:Int))),(2,.u (uI ((i+1:Nat):Int))),(7,.u (uI (Cs.length:Int)))] (fmz ⟨mz2,fmz ⟨mz3,fmz ⟨mz4,fnz⟩⟩⟩)).anew kA) rfl (he.take i) rfl kA kA kA (by rw[O];exact s.fct (.tmp 22)) (hc (_,_) mz5) (fun C hd=>hC C (uZ hd)) (by rw[O,h4];omega) fun a w6 hsz6 hm h9 s=>?_
 rw[zOx]at h9
 rw[O,h4]at s
 replace s:=s.anew (S':=noS) kA
 refine yO (UF.eq (.slice (some ⟨g,0,none⟩) (i+(Cs.length-(i+1))) cap)) rfl s kA iiz fun a w s=>zD rfl (hQ _ _ ?_)
 refine lQ ?_
 have h6:=s.below
 have hj:=h9.below h6
 have h8:=(zEi h5 (some g))
 replace s:=(s.keepK [(0,.u (UF.eq (.slice (some ⟨g,0,none⟩) (i+(Cs.length-(i+1))) cap))),(7,.u (uI (Cs.length:Int)))] (fmz ⟨.head _,fmz ⟨mz4,fnz⟩⟩)).anew (S':=noS) kA
 have hk:i+(Cs.length-(i+1))=Cs.length-1:=by omega
 refine rgK 5 ((27,.s (UF.eq (.slice (some ⟨g,0,none⟩) (i+(Cs.length-(i+1))) cap)).tS)::(28,.s (UF.eq (.slice (some ⟨g,0,none⟩) (i+(Cs.length-(i+1))) cap)).tS)::(29,.s (uI ((i+(Cs.length-(i+1)):Nat):Int)).tS)::(30,.s (uI (Cs.length:Int)).tS)::(31,.u (UF.eq (.slice (some ⟨g,(i+(Cs.length-(i+1)))*6,none⟩) (Cs.length-(i+(Cs.length-(i+1)))) (cap-(i+(Cs.length-(i+1)))))))::[]) s
  (oc zA<|oc zA<|oc (zC3 kA (fun v W h=>⟨_,_,_,h,rfl⟩))<|oc zA<|oc (zNJ (g:=g) (n:=i+(Cs.length-(i+1))) (c:=cap) (k:=i+(Cs.length-(i+1))) (h:=Cs.length) (z:=6) kA oA I oA iiz iiz iiz)<|zB) fun a w8 s=>?_
 have h1:=s.below
 have hl:=hj.below h1
 have el:(Cs.eraseIdx i).length=Cs.length-1:=zHS hi
 refine zUP (S:=fun q=>q=g) (g:=g) (e:=30) (z:=6) (cap:=cap) (o:=i+(Cs.length-(i+1))) (n':=Cs.length-(i+(Cs.length-(i+1)))) (c:=cap-(i+(Cs.length-(i+1)))) (Cs:=Cs.eraseIdx i) (zs:=[.bool false, sN, sN,.bool false, sN, sN]) (s.anew kA) rfl hl rfl kA kA (fun u hu=>by
  simp only[xS,rO,rN]at hu
  rcases hu with rfl|rfl|rfl|rfl|rfl|rfl<;>rfl) kA (s.fct (.tmp 31)) oA oA oA fun w9 hh hf s=>?_
 refine zD rfl ?_
 replace s:=s.anew (S':=noS) kA
 replace s:=s.keepK [(0,.u (UF.eq (.slice (some ⟨g,0,none⟩) (i+(Cs.length-(i+1))) cap)))] (fmz ⟨mz1,fnz⟩)
 refine rgQ ((32,.s (UF.eq (.slice (some ⟨g,0,none⟩) (i+(Cs.length-(i+1))) cap)).tS)::(6,.u (UF.eq (.slice (some ⟨g,0,none⟩) (i+(Cs.length-(i+1))) cap)))::[]) s
  (oc zA<|oc zE<|zB) fun a w10 s=>pU ?_
 have J:=s.below
 refine⟨s.nd,(.slice (some ⟨g,0,none⟩) (i+(Cs.length-(i+1))) cap),?_,?_,hf.below J,?_⟩
 .have e6:a.tmps.getD 6 undef=(.slice (some ⟨g,0,none⟩) (i+(Cs.length-(i+1))) cap):=s.val (.head _)
  simp[results,results37]
  rw[<-xU]
  exact e6
 .rw[hk]
 .exact zDv (zEi h7 _) (zDv h8 (zDv hm (zDv (zEi h6 _) (zDv (zEi h1 _) (zDv hh (zEi J _))))))
theorem zSU(z:Nat)(W:WB):(SF.row z []).p (sN) W:=⟨none,0,rfl,vP _,by decide,fun _=>rfl,fun i C hi=>by simp at hi⟩
def zAX(ps:List V2):List V2:=(List.range ps.length).map fun i=>at_ ps ((ps.length-i)%ps.length)
theorem qX(ps:List V2):(zAX ps).length=ps.length:=by simp[zAX]
theorem zDe(hi:i<ps.length):at_ (zAX ps) i=at_ ps ((ps.length-i)%ps.length):=by
 show(zAX ps).getD i (0,0)=_
 unfold zAX
 rw[rH,tJ,zY9 hi]
 rfl
theorem zPP(hi:i<ps.length):at_ (zAX ps) i=at_ ps ((ps.length-1-i+1)%ps.length)/\at_ (zAX ps) ((i+1)%(zAX ps).length)=at_ ps (ps.length-1-i):=by
 refine⟨by rw[zDe hi];congr 2;omega,?_⟩
 rw[qX,zDe (vW _ oA)]
 congr 1
 rcases tU (Nat.succ_le_of_lt hi)with h|h
 .rw[uC (show i+1<ps.length from h),uC oA];omega
 .rw[show i+1=ps.length from h,zY8,pI,zY8];omega
theorem zU1(z:Nat)(W:WB):(SF.row z []).p (sN) W:=⟨none,0,rfl,vP _,by decide,fun _=>rfl,fun i C hi=>by simp at hi⟩
theorem zHw{F:Fence}{m:Nat}{G:Nat->SF}{d:Tmp}{f:FuncId}{z q:Operand}{ats:Array WF}(hF:zJh F m P)(J:Enters P f)(h:∀u v r s W,bW w0 W->(fct G x).p u W->(fct G y).p v W->(fct G z).p r W->(fct G q).p s W->Calls P f #[u,v,r,s] W (Ret W (G d))):qO F m P w0 ops G ⟨some d,.call ⟨.value (.func f),#[x,y,z,q],ats⟩,ty,pos,aft,none⟩:=
 zD7 hF J fun b W hb I=>by simpa using h _ _ _ _ W hb (I x fC) (I y fC) (I z fC) (I q fC)
def zEY(p q:V2):Prop:=∃m n,PB p m/\PB q n/\m+n<=81
theorem zEY.sub(h:zEY p q):QB (q.1-p.1) 82/\QB (q.2-p.2) 82:=by
 obtain⟨m,n,I,h2,h3⟩:=h
 exact⟨(h2.1.sub I.1).mono oA,(h2.2.sub I.2).mono oA⟩
theorem zEY.one(h:zEY p q):QB p.1 80/\QB p.2 80:=by
 obtain⟨m,n,I,h2,h3⟩:=h
 exact⟨I.1.mono (by have:=h2.1.pos;omega),I.2.mono (by have:=h2.1.pos;omega)⟩
theorem zEY.two(h:zEY p q):QB q.1 80/\QB q.2 80:=by
 obtain⟨m,n,I,h2,h3⟩:=h
 exact⟨h2.1.mono (by have:=I.1.pos;omega),h2.2.mono (by have:=I.1.pos;omega)⟩
def dnm(a b c d:V2):Rat:=(b.1-a.1)*(d.2-c.2)-(b.2-a.2)*(d.1-c.1)
def tnm(a c d:V2):Rat:=(c.1-a.1)*(d.2-c.2)-(c.2-a.2)*(d.1-c.1)
def y6(a b c d:V2):V2:=if dnm a b c d=0 then(((0:Int):Rat),((0:Int):Rat))else seg a b (tnm a c d/dnm a b c d)
theorem zRP{m:Nat}(h:zEY a b)(hm:163<=m):∃l:Ln,l.bd m/\∃s:Rat,s≠0/\∀p:V2,(l.A:Rat)*p.1+(l.B:Rat)*p.2+(l.C:Rat)=s*crs a b p:=by
 obtain⟨k,n,I,hb,hkn⟩:=h
 refine⟨⟨-(b.2.num*a.2.den-a.2.num*b.2.den)*(a.1.den*b.1.den),(b.1.num*a.1.den-a.1.num*b.1.den)*(a.2.den*b.2.den),b.2.num*a.1.num*(b.1.den*a.2.den)-b.1.num*a.2.num*(a.1.den*b.2.den)⟩,?_,(a.1.den:Rat)*b.1.den*(a.2.den*b.2.den),?_,fun p=>?_⟩
 .have O:=jI I.1.2;have d2:=jI I.2.2;have U:=jI hb.1.2;have J:=jI hb.2.2
  refine⟨?_,?_,?_⟩
  .exact((((hb.2.1.mul d2).add ((I.2.1.mul J).neg.mono oA)).neg.mul (O.mul U)).mono oA)
  .exact((((hb.1.1.mul O).add ((I.1.1.mul U).neg.mono oA)).mul (d2.mul J)).mono oA)
  .exact(((hb.2.1.mul I.1.1).mul (U.mul d2)).add ((((hb.1.1.mul I.2.1).mul (O.mul J)).neg).mono oA)).mono oA
 .have:∀q:Rat,(q.den:Rat)≠0:=fun q h=>q.den_nz (by exact_mod_cast h)
  have h1:=this a.1;have h2:=this a.2;have h3:=this b.1;have h4:=this b.2
  intro h
  rcases rI.1 h with h|h<;>rcases rI.1 h with h|h<;>contradiction
 .simp only[rV,sF,Rat.intCast_neg,sL,zK4]
  unfold crs
  grind
theorem zQG{c:V2}(h4:zEY a b)(O:zEY c d):QB (y6 a b c d).1 327/\QB (y6 a b c d).2 327:=by
 unfold y6
 split
 .exact⟨QB.zero dA,QB.zero dA⟩
 .rename_i hd
  obtain⟨l,hl,s,hs,he⟩:=zRP h4 lr
  obtain⟨l',h0,s',hc,I⟩:=zRP O lr
  have U:a≠b:=fun e=>hd (by subst e;unfold dnm;grind)
  have h6:crs a b (seg a b (tnm a c d/dnm a b c d))=0:=by unfold crs seg;grind
  have h7:crs c d (seg a b (tnm a c d/dnm a b c d))=0:=by
   have e1:crs c d (seg a b (tnm a c d/dnm a b c d))=tnm a c d-tnm a c d/dnm a b c d*dnm a b c d:=by
    generalize tnm a c d/dnm a b c d=t
    unfold crs seg tnm dnm
    grind
   rw[e1,rK hd]
   grind
  have J:∀q:V2,crs a b q=0->crs c d q≠0->PB (seg a b (tnm a c d/dnm a b c d)) 327:=fun q h1 h2=>
   zQ7 (l:=l) (l':=l') (q:=q) (m:=163) dA hl h0 (by unfold Ln.on;rw[he,h6];grind) (by unfold Ln.on;rw[he,h1];grind) (by unfold Ln.on;rw[I,h7];grind) (fun h=>by
    unfold Ln.on at h
    rw[I]at h
    rcases rI.1 h with h|h
    .exact hc h
    .exact h2 h) (zWq U l s hs he)
  by_cases h8:crs c d a=0
  .exact J b (by unfold crs;grind) fun h9=>hd (by unfold crs at h8 h9;unfold dnm;grind)
  .exact J a (by unfold crs;grind) h8
theorem zSa{c:V2}(J:zEY a b)(I:zEY c d):QB (dnm a b c d) 329:=((J.sub.1.mul I.sub.2).sub (J.sub.2.mul I.sub.1)).mono dA
theorem zRr{c:V2}(I:zEY a c)(J:zEY c d):QB (tnm a c d) 329:=((I.sub.1.mul J.sub.2).sub (I.sub.2.mul J.sub.1)).mono dA
def zBG(a b c d:V2):Int:=if(((pns (yM a b c d 4)).length:Int)≥2)then 2 else if(((pns (yM a b c d 4)).length:Int)==1)=true then 1 else if((!(decide (dnm a b c d=0))&&onS a b (y6 a b c d))&&onS c d (y6 a b c d))=true then 1 else 0
section
variable {S:Nat->Prop}{w0 w1:WB}{K K0:List (Nat×KF)}{n n0:Nat}{ds0:List Deferred}{a a0:Act}{w:WB}
theorem yP.thaw:∀(B:List Bx),yP S w0 a0 w1 B->yP noS w1 a w (frz B)->yP S w0 a w B
 | [],_,_=>trivial
 |_x::B,⟨⟨_,_,h2,_,_,_,h6⟩,h7⟩,⟨⟨cs,g1,_,g3,g4,g5,_⟩,g7⟩=>⟨⟨cs,g1,h2,g3,g4,g5,h6⟩,yP.thaw B h7 g7⟩
theorem StS.thaw{B:List Bx}(h0:StS S w0 K0 B n0 ds0 a0 w1)(h:St w1 K (frz B) n [] a w)(I:(K.all fun q=>zJg q.2)=true):StS S w0 K B n [] a w:=
 ⟨h0.gr.trans h.below,h.size,h.nd,fun q O=>by
  have J:=h.sl q O
  obtain⟨f,e⟩:=yX I q O
  rw[e]at J ⊢
  exact J,yP.thaw B h0.bx h.bx,⟨[],Marks.nil _ _⟩,.inl (yX I)⟩
end
def fMT(k:Int):UF:=⟨⟨fun v _=>∃vs:List WE,v=.agg (Value.int .i8 k::vs).toArray/\vs.length=12/\(∀u,u∈vs->u.oneCell'=true)/\vs.all zX=true,fun _ _ _ h _=>h⟩,fun _ _ _ h _=>h⟩
theorem zLa(k:Int)(cs:List WE)(W:WB)(h:(CU.agg (fMT k)).p cs W):cs.length=13:=by
 obtain⟨vs,e,I,_⟩:=h
 obtain rfl:cs=Value.int .i8 k::vs:=by simpa using j5 e
 simp[I]
theorem zEa(k:Int)(v:WE)(W:WB)(h:(fMT k).p v W):∃vs:List WE,v=.agg vs.toArray/\vs.length=13/\(∀u,u∈vs->u.oneCell'=true)/\vs.all zX=true/\(CU.agg (fMT k)).p vs W:=by
 obtain⟨vs,rfl,J,h2,h3⟩:=h
 exact⟨_,rfl,by simp[J],fun u I=>by rcases xS.1 I with rfl|I;rfl;exact h2 u I,by simpa[zX]using h3,vs,rfl,J,h2,h3⟩
theorem zHD(k:Int)(cs:List WE)(W:WB)(h:(CU.agg (fMT k)).p cs W):∃u,cs[0]?=some u/\(UF.eq (.int .i8 k)).p u W:=by
 obtain⟨vs,e,_⟩:=h
 obtain rfl:cs=Value.int .i8 k::vs:=by simpa using j5 e
 exact⟨_,rfl,rfl⟩
theorem zYL(k:Int)(a1 O a3 a4 a5 U b1 b2 I b4 J b6:WE):prog.built 86 [(0,.int .i8 k),(1,.agg #[a1,O,a3,a4,a5,U]),(2,.agg #[b1,b2,I,b4,J,b6])]=some #[.int .i8 k,a1,O,a3,a4,a5,U,b1,b2,I,b4,J,b6]:=by kernel_rfl
theorem zYM(a1 O a3 a4 a5 U b1 b2 I b4 J b6:WE):prog.built 86 [(1,.agg #[a1,O,a3,a4,a5,U]),(2,.agg #[b1,b2,I,b4,J,b6])]=some #[.int .i8 0,a1,O,a3,a4,a5,U,b1,b2,I,b4,J,b6]:=by kernel_rfl
theorem zE6{g:UF}(h:(fPT f g).p v W):∃u0 u1 u2 u3 u4 u5,v=.agg #[u0,u1,u2,u3,u4,u5]/\(∀u,u∈ [u0,u1,u2,u3,u4,u5]->u.oneCell'=true)/\ [u0,u1,u2,u3,u4,u5].all zX=true:=by
 obtain⟨vs,rfl,I,J,h2,_⟩:=y7 v W h
 obtain⟨u0,u1,u2,u3,u4,u5,rfl⟩:=zN4 I
 exact⟨u0,u1,u2,u3,u4,u5,rfl,J,h2⟩
theorem zUk{g:UF}{k:Int}(I:(fPT f g).p u W)(hv:(fPT f' g').p v W):∃cells,prog.built 86 [(0,.int .i8 k),(1,u),(2,v)]=some cells/\(fMT k).p (.agg cells) W:=by
 obtain⟨a1,a2,a3,a4,a5,a6,rfl,O,h2⟩:=zE6 I
 obtain⟨b1,b2,J,b4,U,b6,rfl,h3,h4⟩:=zE6 hv
 exact⟨_,zYL .., [a1,a2,a3,a4,a5,a6]++ [b1,b2,J,b4,U,b6],rfl,rfl,fun u I=>by rcases vV.1 I with h|h;exact O u h;exact h3 u h,by rw[mA,h2,h4];rfl⟩
theorem zX7{g:UF}(I:(fPT f g).p u W)(hv:(fPT f' g').p v W):∃cells,prog.built 86 [(1,u),(2,v)]=some cells/\(fMT 0).p (.agg cells) W:=by
 obtain⟨a1,a2,a3,a4,a5,a6,rfl,O,h2⟩:=zE6 I
 obtain⟨b1,b2,J,b4,U,b6,rfl,h3,h4⟩:=zE6 hv
 exact⟨_,zYM .., [a1,a2,a3,a4,a5,a6]++ [b1,b2,J,b4,U,b6],rfl,rfl,fun u I=>by rcases vV.1 I with h|h;exact O u h;exact h3 u h,by rw[mA,h2,h4];rfl⟩
theorem zNl{x y:WE}(h1:(fPV 80 ca).p u W)(h2:(fPV 80 cb).p v W)(h3:(fPV 80 cc).p x W)(h4:(fPV 80 cd).p y W):Calls prog 87 #[u,v,x,y] W (Ret W (SF.row 6 (pns (yM ca cb cc cd 4)))):=by
 have hj:∀p,p∈ [ca,cb,cc,cd]->QB p.1 80/\QB p.2 80:=fun p hp=>by
  simp only[xS,rO,rN]at hp
  rcases hp with rfl|rfl|rfl|rfl
  .exact zC1 dA h1
  .exact zC1 dA h2
  .exact zC1 dA h3
  .exact zC1 dA h4
 refine z5 [(fPV 80 ca).tS,(fPV 80 cb).tS,(fPV 80 cc).tS,(fPV 80 cd).tS] func87 rfl kA ⟨h1,h2,h3,h4,trivial⟩ fun a s=>?_
 replace s:=s.renew [(0,.u (fPV 80 ca)),(1,.u (fPV 80 cb)),(2,.u (fPV 80 cc)),(3,.u (fPV 80 cd))] (fmz ⟨.inr ⟨_,rfl,.head _⟩,fmz ⟨.inr ⟨_,rfl,mz1⟩,fmz ⟨.inr ⟨_,rfl,mz2⟩,fmz ⟨.inr ⟨_,rfl,mz3⟩,fnz⟩⟩⟩⟩)
 refine lQ<|rgK 0 [] s
  zB fun a w1 s=>yN (CU.agg (fPV 80 ca)) rfl s kA (fun v W h=>yY h) fun b4 a w s=>yN (CU.agg (fPV 80 cb)) rfl s kA (fun v W h=>yY h) fun b5 a w s=>yN (CU.agg (fPV 80 cc)) rfl s kA (fun v W h=>yY h) fun b6 a w s=>yN (CU.agg (fPV 80 cd)) rfl s kA (fun v W h=>yY h) fun b7 a w s=>yO (UF.eq (sN)) rfl s kA iiz fun a w s=>zD rfl<|rgQ ((9,.u (UF.eq (sN)))::[]) s
  (oc zE<|zB) fun a w2 s=>lQ<|rgL 5 ((12,.Z (fPV 80 ca))::(13,.Z (fPV 80 cb))::(14,.Z (fPV 80 cc))::(15,.Z (fPV 80 cd))::(16,.s (SF.row 6 (pvs 80 [ca,cb,cc,cd])))::[]) s
  (oc (zH (f:=fPV 80 ca) 6 kA (hz:=zL _ _))<|oc (zH (f:=fPV 80 cb) 6 kA (hz:=zL _ _))<|oc (zH (f:=fPV 80 cc) 6 kA (hz:=zL _ _))<|oc (zH (f:=fPV 80 cd) 6 kA (hz:=zL _ _))<|oc (zNH (fun u v r s W (hu:(fPV 80 ca).p u W) (hv:(fPV 80 cb).p v W) (hr:(fPV 80 cc).p r W) (hs:(fPV 80 cd).p s W)=>zUW hu hv hr hs))<|zB) fun a w3 s hr=>?_
 obtain⟨v16,e16⟩:∃v,a.tmps.getD 16 undef=v:=⟨_,rfl⟩
 have ha:(SF.row 6 (pvs 80 [ca,cb,cc,cd])).p v16 w3:=e16▸(hr (_,_) mz4)
 replace s:=s.learn 16 v16 e16
 have h5:=s.below
 replace s:StS _ _ _ [⟨7,30,CU.agg (fPV 80 cd),b7,true⟩,⟨6,30,CU.agg (fPV 80 cc),b6,true⟩,⟨5,30,CU.agg (fPV 80 cb),b5,true⟩,⟨4,30,CU.agg (fPV 80 ca),b4,true⟩] _ _ _ _:=s.freeze
 replace s:=s.reb rfl [(16,.u (UF.eq v16)),(9,.u (UF.eq (sN))),(8,.u (UF.eq (sN))),(0,.u (fPV 80 ca)),(1,.u (fPV 80 cb)),(2,.u (fPV 80 cc)),(3,.u (fPV 80 cd))] (fmz ⟨.inl (.head _),fmz ⟨.inl mz1,fmz ⟨.inl mz2,fmz ⟨.inl mz3,fmz ⟨.inl mz4,fmz ⟨.inl mz5,fmz ⟨.inl mz6,fnz⟩⟩⟩⟩⟩⟩⟩)
 refine yO (UF.eq v16) rfl s kA iiz fun a w s=>zD rfl<|lQ<|rgQ ((11,.u (uI 0))::[]) s
  (oc zE<|zB) fun a w4 s=>tQ ?_
 have hl:(SF.row 6 (pns (yM ca cb cc cd 0))).p (sN) w4:=zU1 6 _
 refine zDE (fun(p:Nat×WE) w=>p.1<=4/\(SF.row 6 (pns (yM ca cb cc cd p.1))).p p.2 w) (fun p=> [(10,.u (UF.eq v16)),(9,.u (UF.eq p.2)),(11,.u (uI (p.1:Int)))]) (fun p=>4-p.1) (0, sN) (⟨vR _,hl⟩) (s.keepK _ (fmz ⟨mz1,fmz ⟨mz3,fmz ⟨.head _,fnz⟩⟩⟩)) fun p a w hI s=>?_
 have s0:=s
 have I:=(SF.row 6 (pvs 80 [ca,cb,cc,cd])).st _ _ _ ha s0.below
 replace s:=s.reb rfl [(10,.u (UF.eq v16)),(9,.u (UF.eq p.2)),(11,.u (uI (p.1:Int)))] (fmz ⟨.inl (.head _),fmz ⟨.inl mz1,fmz ⟨.inl mz2,fnz⟩⟩⟩)
 refine lQ<|rgQ ((17,.Z (uI (p.1:Int)))::(18,.u (uB (decide ((p.1:Int)<4))))::[]) s
  (oc zA<|oc (zM .i64 (p.1:Int) 4 (decide ((p.1:Int)<4)) iiz iiz rfl rfl)<|zB) fun a w5 s=>StS.cond s (decide ((p.1:Int)<4)) iiz (fun e=>?_) (fun e=>?_)
 .have J:p.1<4:=by have:=xW e;omega
  have hk:p.1<([ca,cb,cc,cd]:List V2).length:=J
  refine pV<|lQ<|tQ<|rgQ ((21,.Z (fPV 80 ca))::(22,.Z (fPV 80 cb))::(23,.Z (UF.eq v16))::(24,.Z (uI (p.1:Int)))::(25,.Y (fPV 80 (at_ [ca,cb,cc,cd] p.1)))::(26,.Z (fPV 80 (at_ [ca,cb,cc,cd] p.1)))::(27,.Z (uB (onS ca cb (at_ [ca,cb,cc,cd] p.1))))::(28,.Z (uB (onS ca cb (at_ [ca,cb,cc,cd] p.1))))::(29,.s (SF.imp ((onS ca cb (at_ [ca,cb,cc,cd] p.1))=true) ((fPV 80 cc).tS)))::(30,.s (SF.imp ((onS ca cb (at_ [ca,cb,cc,cd] p.1))=true) ((fPV 80 cd).tS)))::(31,.s (SF.imp ((onS ca cb (at_ [ca,cb,cc,cd] p.1))=true) ((UF.eq v16).tS)))::(32,.s (SF.imp ((onS ca cb (at_ [ca,cb,cc,cd] p.1))=true) ((uI (p.1:Int)).tS)))::(33,.s (SF.imp ((onS ca cb (at_ [ca,cb,cc,cd] p.1))=true) (wD (cg (fPV 80 (at_ [ca,cb,cc,cd] p.1))))))::(34,.s (SF.imp ((onS ca cb (at_ [ca,cb,cc,cd] p.1))=true) ((fPV 80 (at_ [ca,cb,cc,cd] p.1)).tS)))::(35,.s (SF.imp ((onS ca cb (at_ [ca,cb,cc,cd] p.1))=true) ((uB (onS cc cd (at_ [ca,cb,cc,cd] p.1))).tS)))::(36,.u (uB ((onS ca cb (at_ [ca,cb,cc,cd] p.1))&&(onS cc cd (at_ [ca,cb,cc,cd] p.1)))))::[]) s
   (oc (zH (f:=fPV 80 ca) 6 kA (hz:=zL _ _))<|oc (zH (f:=fPV 80 cb) 6 kA (hz:=zL _ _))<|oc zA<|oc zA<|oc (zQ (z:=6) (Cs:=pvs 80 ([ca,cb,cc,cd])) (i:=p.1) (C:=CU.agg (fPV 80 (at_ [ca,cb,cc,cd] p.1))) kA (qI hk) (fun v W hb h=>(zU I h (s.up hb))) iiz)<|oc (zH (f:=fPV 80 (at_ [ca,cb,cc,cd] p.1)) 6 kA (hz:=zL _ _))<|oc (zBc zC zQU (fun u0 U u2 W hb (h0:(fPV 80 ca).p u0 W) (h1:(fPV 80 cb).p U W) (h2:(fPV 80 (at_ [ca,cb,cc,cd] p.1)).p u2 W)=>zHo (m:=80) (M:=80) h0 h1 h2 dA dA dA dA))<|oc zA<|oc (zF 28 (onS ca cb (at_ [ca,cb,cc,cd] p.1)) kA iiz (fun e=>yU [] ((fPV 80 cc).tS) fnz fO kA (zH (f:=fPV 80 cc) 6 kA (hz:=zL _ _))) fN)<|oc (zF 28 (onS ca cb (at_ [ca,cb,cc,cd] p.1)) kA iiz (fun e=>yU [] ((fPV 80 cd).tS) fnz fO kA (zH (f:=fPV 80 cd) 6 kA (hz:=zL _ _))) fN)<|oc (zF 28 (onS ca cb (at_ [ca,cb,cc,cd] p.1)) kA iiz (fun e=>yU [] ((UF.eq v16).tS) fnz fO kA zA) fN)<|oc (zF 28 (onS ca cb (at_ [ca,cb,cc,cd] p.1)) kA iiz (fun e=>yU [] ((uI (p.1:Int)).tS) fnz fO kA zA) fN)<|oc (zF 28 (onS ca cb (at_ [ca,cb,cc,cd] p.1)) kA iiz (fun e=>yU [(31,(UF.eq v16).tS),(32,(uI (p.1:Int)).tS)] (wD (cg (fPV 80 (at_ [ca,cb,cc,cd] p.1)))) (fmz ⟨fun v W h=>yE (c:=(onS ca cb (at_ [ca,cb,cc,cd] p.1))=true) (f:=(UF.eq v16).tS) e h,fmz ⟨fun v W h=>yE (c:=(onS ca cb (at_ [ca,cb,cc,cd] p.1))=true) (f:=(uI (p.1:Int)).tS) e h,fnz⟩⟩) fO kA (zQ (z:=6) (Cs:=pvs 80 ([ca,cb,cc,cd])) (i:=p.1) (C:=CU.agg (fPV 80 (at_ [ca,cb,cc,cd] p.1))) kA (qI hk) (fun v W hb h=>(zU I h (s.up hb))) iiz)) fN)<|oc (zF 28 (onS ca cb (at_ [ca,cb,cc,cd] p.1)) kA iiz (fun e=>yU [(33,wD (cg (fPV 80 (at_ [ca,cb,cc,cd] p.1))))] ((fPV 80 (at_ [ca,cb,cc,cd] p.1)).tS) (fmz ⟨fun v W h=>yE (c:=(onS ca cb (at_ [ca,cb,cc,cd] p.1))=true) (f:=wD (cg (fPV 80 (at_ [ca,cb,cc,cd] p.1)))) e h,fnz⟩) fO kA (zH (f:=fPV 80 (at_ [ca,cb,cc,cd] p.1)) 6 kA (hz:=zL _ _))) fN)<|oc (zF 28 (onS ca cb (at_ [ca,cb,cc,cd] p.1)) kA iiz (fun e=>yU [(29,(fPV 80 cc).tS),(30,(fPV 80 cd).tS),(34,(fPV 80 (at_ [ca,cb,cc,cd] p.1)).tS)] ((uB (onS cc cd (at_ [ca,cb,cc,cd] p.1))).tS) (fmz ⟨fun v W h=>yE (c:=(onS ca cb (at_ [ca,cb,cc,cd] p.1))=true) (f:=(fPV 80 cc).tS) e h,fmz ⟨fun v W h=>yE (c:=(onS ca cb (at_ [ca,cb,cc,cd] p.1))=true) (f:=(fPV 80 cd).tS) e h,fmz ⟨fun v W h=>yE (c:=(onS ca cb (at_ [ca,cb,cc,cd] p.1))=true) (f:=(fPV 80 (at_ [ca,cb,cc,cd] p.1)).tS) e h,fnz⟩⟩⟩) fO kA (zBc zC zQU (fun u0 U u2 W hb (h0:(fPV 80 cc).p u0 W) (h1:(fPV 80 cd).p U W) (h2:(fPV 80 (at_ [ca,cb,cc,cd] p.1)).p u2 W)=>zHo (m:=80) (M:=80) h0 h1 h2 dA dA dA dA))) fN)<|oc (yS (onS ca cb (at_ [ca,cb,cc,cd] p.1)) iiz (fun e v W h=>zCE (yE e h) e) (fun e v W h=>zBZ h e))<|zB) fun a w6 s=>StS.cond s ((onS ca cb (at_ [ca,cb,cc,cd] p.1))&&(onS cc cd (at_ [ca,cb,cc,cd] p.1))) iiz (fun e=>?_) (fun e=>?_)
  .refine zCB 6 ((37,.Z (UF.eq p.2))::(38,.Z (UF.eq v16))::(39,.Z (uI (p.1:Int)))::(40,.Y (fPV 80 (at_ [ca,cb,cc,cd] p.1)))::(41,.Z (fPV 80 (at_ [ca,cb,cc,cd] p.1)))::(42,.s (SF.row 6 (pns (zFL (yM ca cb cc cd p.1) (at_ [ca,cb,cc,cd] p.1)))))::[]) s kA
    (oc zA<|oc zA<|oc zA<|oc (zQ (z:=6) (Cs:=pvs 80 ([ca,cb,cc,cd])) (i:=p.1) (C:=CU.agg (fPV 80 (at_ [ca,cb,cc,cd] p.1))) kA (qI hk) (fun v W hb h=>(zU I h (s.up hb))) iiz)<|oc (zH (f:=fPV 80 (at_ [ca,cb,cc,cd] p.1)) 6 kA (hz:=zL _ _))<|oc (zI zC zWj (fun u0 U W hb (h0:u0=p.2) (h1:(fPV 80 (at_ [ca,cb,cc,cd] p.1)).p U W)=>zP9 (m:=80) (L:=yM ca cb cc cd p.1) (p:=(at_ [ca,cb,cc,cd] p.1)) (zU hI.2 h0 (s.up hb)) h1 (zLm hj p.1 oA) dA dA (by have:=zF3 ca cb cc cd p.1;omega)))<|zB) fun a w7 s hr=>?_
   obtain⟨v42,e42⟩:∃v,a.tmps.getD 42 undef=v:=⟨_,rfl⟩
   have h6:(SF.row 6 (pns (zFL (yM ca cb cc cd p.1) (at_ [ca,cb,cc,cd] p.1)))).p v42 w7:=e42▸(hr (_,_) mz5)
   replace s:=s.learn 42 v42 e42
   replace s:=s.keepK [(42,.u (UF.eq v42)),(36,.u (uB ((onS ca cb (at_ [ca,cb,cc,cd] p.1))&&(onS cc cd (at_ [ca,cb,cc,cd] p.1))))),(18,.u (uB (decide ((p.1:Int)<4)))),(10,.u (UF.eq v16)),(9,.u (UF.eq p.2)),(11,.u (uI (p.1:Int)))] (fmz ⟨.head _,fmz ⟨mz1,fmz ⟨mz2,fmz ⟨mz3,fmz ⟨mz4,fmz ⟨mz5,fnz⟩⟩⟩⟩⟩⟩)
   have s1:=s0.back s rfl
   replace s:StS _ _ _ [⟨7,30,CU.agg (fPV 80 cd),b7,true⟩,⟨6,30,CU.agg (fPV 80 cc),b6,true⟩,⟨5,30,CU.agg (fPV 80 cb),b5,true⟩,⟨4,30,CU.agg (fPV 80 ca),b4,true⟩] _ _ _ _:=s.freeze
   replace s:=s.reb rfl [(42,.u (UF.eq v42)),(36,.u (uB ((onS ca cb (at_ [ca,cb,cc,cd] p.1))&&(onS cc cd (at_ [ca,cb,cc,cd] p.1))))),(18,.u (uB (decide ((p.1:Int)<4)))),(10,.u (UF.eq v16)),(9,.u (UF.eq p.2)),(11,.u (uI (p.1:Int)))] (fmz ⟨.inl (.head _),fmz ⟨.inl mz1,fmz ⟨.inl mz2,fmz ⟨.inl mz3,fmz ⟨.inl mz4,fmz ⟨.inl mz5,fnz⟩⟩⟩⟩⟩⟩)
   replace s:=s.drop [9]
   refine yO (UF.eq v42) rfl s kA iiz fun a w s=>zD rfl<|zW 2 ((19,.Z (uI (p.1:Int)))::(20,.u (uI ((p.1+1:Nat):Int)))::[]) s kA
    (oc zA<|oc (yI .i64 (p.1:Int) 1 ((p.1+1:Nat):Int) iiz iiz (wrap64 _ _ oA oA))<|zB) fun a w8 s=>?_
   replace s:=s.drop [11]
   refine yO (uI ((p.1+1:Nat):Int)) rfl s kA iiz fun a w s=>zD rfl ?_
   have O:=s.below
   replace s:=s1.back (s.keepK [(11,.u (uI ((p.1+1:Nat):Int))),(20,.u (uI ((p.1+1:Nat):Int))),(9,.u (UF.eq v42)),(42,.u (UF.eq v42)),(36,.u (uB ((onS ca cb (at_ [ca,cb,cc,cd] p.1))&&(onS cc cd (at_ [ca,cb,cc,cd] p.1))))),(18,.u (uB (decide ((p.1:Int)<4)))),(10,.u (UF.eq v16))] (fmz ⟨.head _,fmz ⟨mz1,fmz ⟨mz2,fmz ⟨mz3,fmz ⟨mz4,fmz ⟨mz5,fmz ⟨mz6,fnz⟩⟩⟩⟩⟩⟩⟩)) rfl
   exact⟨(p.1+1,v42),(by show 4-(p.1+1)<4-p.1;omega),⟨J,by show(SF.row 6 (pns (yM ca cb cc cd (p.1+1)))).p v42 _;rw[zJY e];exact(SF.row 6 _).st _ _ _ h6 O⟩,s.keepK _ (fmz ⟨mz6,fmz ⟨mz2,fmz ⟨.head _,fnz⟩⟩⟩)⟩
  .refine pV ?_
   refine zW 2 ((19,.Z (uI (p.1:Int)))::(20,.u (uI ((p.1+1:Nat):Int)))::[]) s kA
    (oc zA<|oc (yI .i64 (p.1:Int) 1 ((p.1+1:Nat):Int) iiz iiz (wrap64 _ _ oA oA))<|zB) fun a w9 s=>?_
   replace s:=s.drop [11]
   refine yO (uI ((p.1+1:Nat):Int)) rfl s kA iiz fun a w s=>zD rfl ?_
   have O:=s.below
   replace s:=s0.back (s.keepK [(11,.u (uI ((p.1+1:Nat):Int))),(20,.u (uI ((p.1+1:Nat):Int))),(36,.u (uB ((onS ca cb (at_ [ca,cb,cc,cd] p.1))&&(onS cc cd (at_ [ca,cb,cc,cd] p.1))))),(18,.u (uB (decide ((p.1:Int)<4)))),(10,.u (UF.eq v16)),(9,.u (UF.eq p.2))] (fmz ⟨.head _,fmz ⟨mz1,fmz ⟨mz2,fmz ⟨mz3,fmz ⟨mz4,fmz ⟨mz5,fnz⟩⟩⟩⟩⟩⟩)) rfl
   exact⟨(p.1+1,p.2),(by show 4-(p.1+1)<4-p.1;omega),⟨J,by show(SF.row 6 (pns (yM ca cb cc cd (p.1+1)))).p p.2 _;rw[zOz e];exact(SF.row 6 _).st _ _ _ hI.2 O⟩,s.keepK _ (fmz ⟨mz4,fmz ⟨mz5,fmz ⟨.head _,fnz⟩⟩⟩)⟩
 .have hk:p.1=4:=by have h7:=nH e;have h8:=hI.1;omega
  exact tR<|rgQ ((43,.Z (UF.eq p.2))::(8,.u (UF.eq p.2))::[]) s
   (oc zA<|oc zE<|zB) fun a w10 s=>pU<|StS.resN s (h5.trans (s0.below.mono h5.size)) rfl (by rw[s.val (.head _)];have:=(SF.row 6 _).st _ _ _ hI.2 s.below;rw[hk]at this;exact this)
theorem zLU{x y:WE}(h1:(fPV 80 ca).p u W)(h2:(fPV 80 cb).p v W)(h3:(fPV 80 cc).p x W)(h4:(fPV 80 cd).p y W)(J:zEY ca cb)(I:zEY cc cd)(h6:zEY ca cc):Calls prog 88 #[u,v,x,y] W (Ret W (zBC (fPV 327 (y6 ca cb cc cd)) (fB (!(decide ((dnm ca cb cc cd)=0))))).tS):=by
 have h7:QB (y6 ca cb cc cd).1 327/\QB (y6 ca cb cc cd).2 327:=zQG J I
 have ha:QB ((tnm ca cc cd)/(dnm ca cb cc cd)) 658:=((zRr h6 I).div (zSa J I)).mono dA
 refine z5 [(fPV 80 ca).tS,(fPV 80 cb).tS,(fPV 80 cc).tS,(fPV 80 cd).tS] func88 rfl kA ⟨h1,h2,h3,h4,trivial⟩ fun a s=>lQ<|rgK 0 [] s
  zB fun a w1 s=>yN (CU.agg (fPV 80 ca)) rfl s kA (fun v W h=>yY h) fun b4 a w s=>yN (CU.agg (fPV 80 cb)) rfl s kA (fun v W h=>yY h) fun b5 a w s=>yN (CU.agg (fPV 80 cc)) rfl s kA (fun v W h=>yY h) fun b6 a w s=>yN (CU.agg (fPV 80 cd)) rfl s kA (fun v W h=>yY h) fun b7 a w s=>z9 (CU.len 6) (cs:=zP6) kA rfl s kA (fun W=>rfl) rfl fun b8 a w s=>yO (uB false) rfl s kA iiz fun a w s=>zD rfl<|lQ ?_
 have so:=s.old;have sg:=s.gr
 refine zBr (fun i=> [].contains i) [⟨6,10,30, [.bool false, sN, sN,.bool false, sN, sN],wK w 30 (CU.len 6)⟩,⟨7,11,30, [.bool false, sN, sN,.bool false, sN, sN],wK w 30 (CU.len 6)⟩] 8 ((15,.Z (fPV 80 cb))::(16,.Z (fPV 80 ca))::(17,.u (fPN ((cb).1-(ca).1,(cb).2-(ca).2)))::(18,.Z (fPV 80 cd))::(19,.Z (fPV 80 cc))::(20,.u (fPN ((cd).1-(cc).1,(cd).2-(cc).2)))::(10,.s (wK w 30 (CU.len 6)))::(11,.s (wK w 30 (CU.len 6)))::[]) hmix s (fmz ⟨⟨by show 6<8;decide,mz6,⟨_,_,_,rfl⟩,by kernel_rfl,zBH (fun _=>rfl) rfl⟩,fmz ⟨⟨by show 7<8;decide,mz7,⟨_,_,_,rfl⟩,by kernel_rfl,zBH (fun _=>rfl) rfl⟩,fnz⟩⟩) kA
  (oc (zH (f:=fPV 80 cb) 6 kA (hz:=zL _ _))<|oc (zH (f:=fPV 80 ca) 6 kA (hz:=zL _ _))<|oc (zI zC zGi (fun O U W hb (h0:(fPV 80 cb).p O W) (h1:(fPV 80 ca).p U W)=>zCj (m:=80) (p:=cb) (q:=ca) h0 h1 dA dA))<|oc (zH (f:=fPV 80 cd) 6 kA (hz:=zL _ _))<|oc (zH (f:=fPV 80 cc) 6 kA (hz:=zL _ _))<|oc (zI zC zGi (fun O U W hb (h0:(fPV 80 cd).p O W) (h1:(fPV 80 cc).p U W)=>zCj (m:=80) (p:=cd) (q:=cc) h0 h1 dA dA))<|oc (zCH (cs:=zP6) kA (zBH (fun _=>rfl) rfl))<|oc (zCH (cs:=zP6) kA (zBH (fun _=>rfl) rfl))<|zB) fun Q' hQ a w2 s hr hd=>?_
 obtain⟨b10,hB10,he,s⟩:=s.adoptA false 10 (hr (_,_) mz6) sg (fun y hy=>.inl (so y hy))
 obtain⟨b11,hB11,e11,s⟩:=s.adoptA false 11 (hr (_,_) mz7) sg (fun y hy=>by rcases xS.1 hy with rfl|hy;exact .inr (.inr fun b hb=>hd _ _ (.head _) mz1 (by show 6≠7;decide) _ _ he hb);exact .inl (so y hy))
 refine zR (CU.agg (fPN ((cb).1-(ca).1,(cb).2-(ca).2))) ((fPN ((cb).1-(ca).1,(cb).2-(ca).2)).tS) rfl s kA rfl rfl rfl iiz iiz y7 fun a w s=>zR (CU.agg (fPN ((cd).1-(cc).1,(cd).2-(cc).2))) ((fPN ((cd).1-(cc).1,(cd).2-(cc).2)).tS) rfl s kA rfl rfl rfl iiz iiz y7 fun a w s=>zD rfl (hQ _ _ ?_)
 refine lQ<|rgK 3 ((21,.Z (fPN ((cb).1-(ca).1,(cb).2-(ca).2)))::(22,.Z (fPN ((cd).1-(cc).1,(cd).2-(cc).2)))::(23,.u (fQN (dnm ca cb cc cd)))::[]) s
  (oc (zH (f:=fPN ((cb).1-(ca).1,(cb).2-(ca).2)) 6 kA (hz:=zL _ _))<|oc (zH (f:=fPN ((cd).1-(cc).1,(cd).2-(cc).2)) 6 kA (hz:=zL _ _))<|oc (zI zC zQZ (fun O U W hb (h0:(fPN ((cb).1-(ca).1,(cb).2-(ca).2)).p O W) (h1:(fPN ((cd).1-(cc).1,(cd).2-(cc).2)).p U W)=>zFI (m:=82) (p:=((cb).1-(ca).1,(cb).2-(ca).2)) (q:=((cd).1-(cc).1,(cd).2-(cc).2)) (zBz (p:=((cb).1-(ca).1,(cb).2-(ca).2)) (m:=82) (J.sub.1.mono (by first|omega|decide)) (J.sub.2.mono (by first|omega|decide)) h0) (zBz (p:=((cd).1-(cc).1,(cd).2-(cc).2)) (m:=82) (I.sub.1.mono (by first|omega|decide)) (I.sub.2.mono (by first|omega|decide)) h1) J.sub I.sub dA dA))<|zB) fun a w3 s=>z9 (CU.len 3) (cs:=zR3) kA rfl s kA (fun W=>rfl) rfl fun b12 a w s=>zR (CU.agg (fQN (dnm ca cb cc cd))) ((fQN (dnm ca cb cc cd)).tS) rfl s kA rfl rfl rfl iiz iiz yJ fun a w s=>zD rfl<|lQ ?_
 have so:=s.old;have sg:=s.gr
 refine zBr (fun i=> [9].contains i) [⟨10,13,28, [.bool false, sN, sN],wK w 28 (CU.len 3)⟩] 11 ((25,.Z (fPV 80 cc))::(26,.Z (fPV 80 ca))::(27,.Z (fPN ((cc).1-(ca).1,(cc).2-(ca).2)))::(28,.Z (fPN ((cd).1-(cc).1,(cd).2-(cc).2)))::(29,.Z (fQN (tnm ca cc cd)))::(30,.Z (fQN (dnm ca cb cc cd)))::(31,.Z (zBC (fQN ((tnm ca cc cd)/(dnm ca cb cc cd))) (uI (if(dnm ca cb cc cd)=0 then 30 else 0))))::(24,.Z (zBC (fQN ((tnm ca cc cd)/(dnm ca cb cc cd))) (uI (if(dnm ca cb cc cd)=0 then 30 else 0))))::(32,.u (fQN ((tnm ca cc cd)/(dnm ca cb cc cd))))::(33,.u (uI (if(dnm ca cb cc cd)=0 then 30 else 0)))::(13,.s (wK w 28 (CU.len 3)))::[]) hmix s (fmz ⟨⟨by show 10<11;decide,zMe,⟨_,_,_,rfl⟩,by kernel_rfl,zBH (fun _=>rfl) rfl⟩,fnz⟩) kA
  (oc (zH (f:=fPV 80 cc) 6 kA (hz:=zL _ _))<|oc (zH (f:=fPV 80 ca) 6 kA (hz:=zL _ _))<|oc (zI zC zGi (fun O U W hb (h0:(fPV 80 cc).p O W) (h1:(fPV 80 ca).p U W)=>zCj (m:=80) (p:=cc) (q:=ca) h0 h1 dA dA))<|oc (zH (f:=fPN ((cd).1-(cc).1,(cd).2-(cc).2)) 6 kA (hz:=zL _ _))<|oc (zI zC zQZ (fun O U W hb (h0:(fPN ((cc).1-(ca).1,(cc).2-(ca).2)).p O W) (h1:(fPN ((cd).1-(cc).1,(cd).2-(cc).2)).p U W)=>zFI (m:=82) (p:=((cc).1-(ca).1,(cc).2-(ca).2)) (q:=((cd).1-(cc).1,(cd).2-(cc).2)) (zBz (p:=((cc).1-(ca).1,(cc).2-(ca).2)) (m:=82) (h6.sub.1.mono (by first|omega|decide)) (h6.sub.2.mono (by first|omega|decide)) h0) (zBz (p:=((cd).1-(cc).1,(cd).2-(cc).2)) (m:=82) (I.sub.1.mono (by first|omega|decide)) (I.sub.2.mono (by first|omega|decide)) h1) h6.sub I.sub dA dA))<|oc (zH (f:=fQN (dnm ca cb cc cd)) 3 kA (hz:=qW _))<|oc (zI zC zXY (fun O U W hb (h0:QNp (tnm ca cc cd) O W) (h1:QNp (dnm ca cb cc cd) U W)=>zTe (m:=329) (wL h0 (zRr h6 I)) (wL h1 (zSa J I)) dA dA))<|oc zA<|oc (zBR (A:=(fQN ((tnm ca cc cd)/(dnm ca cb cc cd))).tS) (B:=(uI (if(dnm ca cb cc cd)=0 then 30 else 0)).tS) iiz)<|oc (zBQ (A:=(fQN ((tnm ca cc cd)/(dnm ca cb cc cd))).tS) (B:=(uI (if(dnm ca cb cc cd)=0 then 30 else 0)).tS) iiz)<|oc (zCH (cs:=zR3) kA (zBH (fun _=>rfl) rfl))<|zB) fun Q' hQ a w4 s hr hd=>?_
 obtain⟨b13,hB13,e13,s⟩:=s.adoptA false 13 (hr (_,_) zMe) sg (fun y hy=>.inl (so y hy))
 refine zR (CU.agg (fQN ((tnm ca cc cd)/(dnm ca cb cc cd)))) ((fQN ((tnm ca cc cd)/(dnm ca cb cc cd))).tS) rfl s kA rfl rfl rfl iiz iiz yJ fun a w s=>yO (uI (if(dnm ca cb cc cd)=0 then 30 else 0)) rfl s kA iiz fun a w s=>zD rfl (hQ _ _ ?_)
 refine lQ<|rgQ ((34,.Z (uI (if(dnm ca cb cc cd)=0 then 30 else 0)))::(35,.u (uB (decide ((dnm ca cb cc cd)=0))))::[]) s
  (oc zA<|oc (zM .i64 (if(dnm ca cb cc cd)=0 then 30 else 0) 0 (decide ((dnm ca cb cc cd)=0)) iiz iiz (by show((if(dnm ca cb cc cd)=0 then(30:Int)else 0) !=0)=_;by_cases h:(dnm ca cb cc cd)=0;(rw[if_pos h,lI h];rfl);(rw[if_neg h,xY h];rfl)) rfl)<|zB) fun a w5 s=>StS.cond s (decide ((dnm ca cb cc cd)=0)) iiz (fun e=>?_) (fun e=>?_)
 .have h8:=xW e
  refine lQ ?_
  replace s:=s.drop [9]
  exact rgK 1 ((36,.u (fPV 327 (y6 ca cb cc cd)))::[]) s
   (oc (zI zC zOA (fun O U W hb (h0:O=.int .i64 0) (h1:U=.int .i64 0)=>(zIw h0 h1 dA dA).mono (wH (fun v W h=>zBz (p:=(y6 ca cb cc cd)) (m:=327) h7.1 h7.2 (by unfold y6;rw[if_pos h8];exact h)))))<|zB) fun a w6 s=>zR (CU.agg (fPV 327 (y6 ca cb cc cd))) ((fPV 327 (y6 ca cb cc cd)).tS) rfl s kA rfl rfl rfl iiz iiz y7 fun a w s=>yO (uB false) rfl s kA iiz fun a w s=>zD rfl<|pU<|wW s (CU.agg (fPV 327 (y6 ca cb cc cd))) rfl kA rfl rfl (zL _ _) (fun cs v W h1 h2=>⟨_,_,rfl,h1,by rw[e];exact h2⟩)
 .have h8:=nH e
  refine pV<|lQ ?_
  replace s:=s.drop [9]
  exact rgK 4 ((37,.Z (fPV 80 ca))::(38,.Z (fPV 80 cb))::(39,.Z (fQN ((tnm ca cc cd)/(dnm ca cb cc cd))))::(40,.u (fPV 327 (y6 ca cb cc cd)))::[]) s
   (oc (zH (f:=fPV 80 ca) 6 kA (hz:=zL _ _))<|oc (zH (f:=fPV 80 cb) 6 kA (hz:=zL _ _))<|oc (zH (f:=fQN ((tnm ca cc cd)/(dnm ca cb cc cd))) 3 kA (hz:=qW _))<|oc (zBc zC zWi (fun O U u2 W hb (h0:(fPV 80 ca).p O W) (h1:(fPV 80 cb).p U W) (h2:QNp ((tnm ca cc cd)/(dnm ca cb cc cd)) u2 W)=>(zVa (m:=80) (k:=658) 821 (p:=ca) (q:=cb) (t:=(tnm ca cc cd)/(dnm ca cb cc cd)) h0 h1 (wL h2 ha) J.one J.two ha dA dA dA).mono (wH (fun v W h=>zBz (p:=(y6 ca cb cc cd)) (m:=327) h7.1 h7.2 (by unfold y6;rw[if_neg h8];exact h)))))<|zB) fun a w7 s=>zR (CU.agg (fPV 327 (y6 ca cb cc cd))) ((fPV 327 (y6 ca cb cc cd)).tS) rfl s kA rfl rfl rfl iiz iiz y7 fun a w s=>yO (uB true) rfl s kA iiz fun a w s=>zD rfl<|pU<|wW s (CU.agg (fPV 327 (y6 ca cb cc cd))) rfl kA rfl rfl (zL _ _) (fun cs v W h1 h2=>⟨_,_,rfl,h1,by rw[e];exact h2⟩)
theorem zNk{x y:WE}(h1:(fPV 80 ca).p u W)(h2:(fPV 80 cb).p v W)(h3:(fPV 80 cc).p x W)(h4:(fPV 80 cd).p y W)(hh:zEY ca cb)(he:zEY cc cd)(h9:zEY ca cc):Calls prog 61 #[u,v,x,y] W (Ret W (fMT (zBG ca cb cc cd)).tS):=by
 refine z5 [(fPV 80 ca).tS,(fPV 80 cb).tS,(fPV 80 cc).tS,(fPV 80 cd).tS] func61 rfl kA ⟨h1,h2,h3,h4,trivial⟩ fun a s=>?_
 replace s:=s.renew [(0,.u (fPV 80 ca)),(1,.u (fPV 80 cb)),(2,.u (fPV 80 cc)),(3,.u (fPV 80 cd))] (fmz ⟨.inr ⟨_,rfl,.head _⟩,fmz ⟨.inr ⟨_,rfl,mz1⟩,fmz ⟨.inr ⟨_,rfl,mz2⟩,fmz ⟨.inr ⟨_,rfl,mz3⟩,fnz⟩⟩⟩⟩)
 refine lQ<|rgK 0 [] s
  zB fun a w1 s=>yN (CU.agg (fPV 80 ca)) rfl s kA (fun v W h=>yY h) fun b4 a w s=>yN (CU.agg (fPV 80 cb)) rfl s kA (fun v W h=>yY h) fun b5 a w s=>yN (CU.agg (fPV 80 cc)) rfl s kA (fun v W h=>yY h) fun b6 a w s=>yN (CU.agg (fPV 80 cd)) rfl s kA (fun v W h=>yY h) fun b7 a w s=>z9 (CU.len 13) (cs:=[.int .i8 0,.bool false, sN, sN,.bool false, sN, sN,.bool false, sN, sN,.bool false, sN, sN]) kA rfl s kA (fun W=>rfl) rfl fun b8 a w s=>zD rfl<|lQ<|rgL 5 ((12,.Z (fPV 80 ca))::(13,.Z (fPV 80 cb))::(14,.Z (fPV 80 cc))::(15,.Z (fPV 80 cd))::(16,.s (SF.row 6 (pns (yM ca cb cc cd 4))))::[]) s
  (oc (zH (f:=fPV 80 ca) 6 kA (hz:=zL _ _))<|oc (zH (f:=fPV 80 cb) 6 kA (hz:=zL _ _))<|oc (zH (f:=fPV 80 cc) 6 kA (hz:=zL _ _))<|oc (zH (f:=fPV 80 cd) 6 kA (hz:=zL _ _))<|oc (zHw zC zXB (fun u0 O u2 u3 W hb (U:(fPV 80 ca).p u0 W) (h1:(fPV 80 cb).p O W) (h2:(fPV 80 cc).p u2 W) (h3:(fPV 80 cd).p u3 W)=>zNl U h1 h2 h3))<|zB) fun a w2 s hr=>?_
 obtain⟨v16,e16⟩:∃v,a.tmps.getD 16 undef=v:=⟨_,rfl⟩
 have I:(SF.row 6 (pns (yM ca cb cc cd 4))).p v16 w2:=e16▸(hr (_,_) mz4)
 replace s:=s.learn 16 v16 e16
 replace s:=s.keepK [(16,.u (UF.eq v16)),(0,.u (fPV 80 ca)),(1,.u (fPV 80 cb)),(2,.u (fPV 80 cc)),(3,.u (fPV 80 cd))] (fmz ⟨.head _,fmz ⟨mz1,fmz ⟨mz2,fmz ⟨mz3,fmz ⟨mz4,fnz⟩⟩⟩⟩⟩)
 have s1:=s
 replace s:StS _ _ _ [⟨8,86,CU.len 13,b8,true⟩,⟨7,30,CU.agg (fPV 80 cd),b7,true⟩,⟨6,30,CU.agg (fPV 80 cc),b6,true⟩,⟨5,30,CU.agg (fPV 80 cb),b5,true⟩,⟨4,30,CU.agg (fPV 80 ca),b4,true⟩] _ _ _ _:=s.freeze
 replace s:=s.reb rfl [(16,.u (UF.eq v16)),(0,.u (fPV 80 ca)),(1,.u (fPV 80 cb)),(2,.u (fPV 80 cc)),(3,.u (fPV 80 cd))] (fmz ⟨.inl (.head _),fmz ⟨.inl mz1,fmz ⟨.inl mz2,fmz ⟨.inl mz3,fmz ⟨.inl mz4,fnz⟩⟩⟩⟩⟩)
 refine zRt (UF.eq v16) rfl s kA iiz fun a s=>zD rfl<|lQ<|rgQ ((17,.Z (UF.eq v16))::(18,.Z (uI ((pns (yM ca cb cc cd 4)).length:Int)))::(19,.u (uB (decide (((pns (yM ca cb cc cd 4)).length:Int)≥2))))::[]) s
  (oc zA<|oc (zY (z:=6) (Cs:=pns (yM ca cb cc cd 4)) kA (fun v W hb h=>(zU I h (s.up hb))) (fun _=>rfl))<|oc (zM .i64 ((pns (yM ca cb cc cd 4)).length:Int) 2 (decide (((pns (yM ca cb cc cd 4)).length:Int)≥2)) iiz iiz rfl rfl)<|zB) fun a w3 s=>StS.cond s (decide (((pns (yM ca cb cc cd 4)).length:Int)≥2)) iiz (fun e=>?_) (fun e=>?_)
 .have J:0<(yM ca cb cc cd 4).length:=by have:=xW e;simp at this;omega
  have hk:zBG ca cb cc cd=2:=if_pos (xW e)
  refine lQ<|yL [0,3,4] 10 ((20,.Z (UF.eq v16))::(21,.Y (fPN (at_ (yM ca cb cc cd 4) 0)))::(22,.Z (fPN (at_ (yM ca cb cc cd 4) 0)))::(23,.Z (UF.eq v16))::(24,.Z (UF.eq v16))::(25,.Z (uI ((pns (yM ca cb cc cd 4)).length:Int)))::(26,.Z (uI (((yM ca cb cc cd 4).length-1:Nat):Int)))::(27,.Y (fPN (at_ (yM ca cb cc cd 4) ((yM ca cb cc cd 4).length-1))))::(28,.Z (fPN (at_ (yM ca cb cc cd 4) ((yM ca cb cc cd 4).length-1))))::(29,.u (fMT 2))::[]) hmix s kA
   (oc zA<|oc (zQ (z:=6) (Cs:=pns (yM ca cb cc cd 4)) (i:=0) (C:=CU.agg (fPN (at_ (yM ca cb cc cd 4) 0))) kA (zBs (show 0<(yM ca cb cc cd 4).length by have hx:=J;omega)) (fun v W hb h=>(zU I h (s.up hb))) iiz)<|oc (zH (f:=fPN (at_ (yM ca cb cc cd 4) 0)) 6 kA (hz:=zL _ _))<|oc zA<|oc zA<|oc (zY (z:=6) (Cs:=pns (yM ca cb cc cd 4)) kA (fun v W hb h=>(zU I h (s.up hb))) (fun _=>rfl))<|oc (zCF .i64 ((pns (yM ca cb cc cd 4)).length:Int) 1 (((yM ca cb cc cd 4).length-1:Nat):Int) iiz iiz (by have:=zF3 ca cb cc cd 4;simp only[bC];rw[sS];omega))<|oc (zQ (z:=6) (Cs:=pns (yM ca cb cc cd 4)) (i:=((yM ca cb cc cd 4).length-1)) (C:=CU.agg (fPN (at_ (yM ca cb cc cd 4) ((yM ca cb cc cd 4).length-1)))) kA (zBs (show((yM ca cb cc cd 4).length-1)<(yM ca cb cc cd 4).length by have hx:=J;omega)) (fun v W hb h=>(zU I h (s.up hb))) iiz)<|oc (zH (f:=fPN (at_ (yM ca cb cc cd 4) ((yM ca cb cc cd 4).length-1))) 6 kA (hz:=zL _ _))<|oc (zAQ (fun u v q W (hu:u=.int .i8 2) (hv:(fPN (at_ (yM ca cb cc cd 4) 0)).p v W) (hq:(fPN (at_ (yM ca cb cc cd 4) ((yM ca cb cc cd 4).length-1))).p q W)=>by rw[show u=_ from hu];exact zUk hv hq))<|zB) fun Q' hQ a w4 s=>?_
  replace s:=s.keepK [(29,.u (fMT 2)),(19,.u (uB (decide (((pns (yM ca cb cc cd 4)).length:Int)≥2)))),(9,.u (UF.eq v16)),(16,.u (UF.eq v16)),(0,.u (fPV 80 ca)),(1,.u (fPV 80 cb)),(2,.u (fPV 80 cc)),(3,.u (fPV 80 cd))] (fmz ⟨.head _,fmz ⟨mz1,fmz ⟨mz2,fmz ⟨mz3,fmz ⟨mz4,fmz ⟨mz5,fmz ⟨mz6,fmz ⟨mz7,fnz⟩⟩⟩⟩⟩⟩⟩⟩)
  replace s:=s1.thaw s rfl
  refine zR (CU.agg (fMT 2)) ((fMT 2).tS) rfl s kA rfl rfl rfl iiz iiz (zEa _) fun a w s=>zD rfl (hQ _ _ ?_)
  exact pU<|wI s (CU.agg (fMT 2)) rfl kA rfl rfl (zLa _) (fun cs W h=>by rw[hk];exact h)
 .have e2:=nH e
  refine pV<|lQ<|rgQ ((30,.Z (UF.eq v16))::(31,.Z (uI ((pns (yM ca cb cc cd 4)).length:Int)))::(32,.u (uB (((pns (yM ca cb cc cd 4)).length:Int)==1)))::[]) s
   (oc zA<|oc (zY (z:=6) (Cs:=pns (yM ca cb cc cd 4)) kA (fun v W hb h=>(zU I h (s.up hb))) (fun _=>rfl))<|oc (zM .i64 ((pns (yM ca cb cc cd 4)).length:Int) 1 (((pns (yM ca cb cc cd 4)).length:Int)==1) iiz iiz rfl rfl)<|zB) fun a w5 s=>StS.cond s (((pns (yM ca cb cc cd 4)).length:Int)==1) iiz (fun e=>?_) (fun e=>?_)
  .have J:0<(yM ca cb cc cd 4).length:=by have:=bJ.1 e;simp at this;omega
   have hk:zBG ca cb cc cd=1:=by unfold zBG;rw[if_neg e2,if_pos e]
   refine lQ<|yL [0,3] 7 ((33,.Z (UF.eq v16))::(34,.Y (fPN (at_ (yM ca cb cc cd 4) 0)))::(35,.Z (fPN (at_ (yM ca cb cc cd 4) 0)))::(36,.Z (UF.eq v16))::(37,.Y (fPN (at_ (yM ca cb cc cd 4) 0)))::(38,.Z (fPN (at_ (yM ca cb cc cd 4) 0)))::(39,.u (fMT 1))::[]) hmix s kA
    (oc zA<|oc (zQ (z:=6) (Cs:=pns (yM ca cb cc cd 4)) (i:=0) (C:=CU.agg (fPN (at_ (yM ca cb cc cd 4) 0))) kA (zBs (show 0<(yM ca cb cc cd 4).length by have hx:=J;omega)) (fun v W hb h=>(zU I h (s.up hb))) iiz)<|oc (zH (f:=fPN (at_ (yM ca cb cc cd 4) 0)) 6 kA (hz:=zL _ _))<|oc zA<|oc (zQ (z:=6) (Cs:=pns (yM ca cb cc cd 4)) (i:=0) (C:=CU.agg (fPN (at_ (yM ca cb cc cd 4) 0))) kA (zBs (show 0<(yM ca cb cc cd 4).length by have hx:=J;omega)) (fun v W hb h=>(zU I h (s.up hb))) iiz)<|oc (zH (f:=fPN (at_ (yM ca cb cc cd 4) 0)) 6 kA (hz:=zL _ _))<|oc (zAQ (fun u v q W (hu:u=.int .i8 1) (hv:(fPN (at_ (yM ca cb cc cd 4) 0)).p v W) (hq:(fPN (at_ (yM ca cb cc cd 4) 0)).p q W)=>by rw[show u=_ from hu];exact zUk hv hq))<|zB) fun Q' hQ a w6 s=>?_
   replace s:=s.keepK [(39,.u (fMT 1)),(32,.u (uB (((pns (yM ca cb cc cd 4)).length:Int)==1))),(19,.u (uB (decide (((pns (yM ca cb cc cd 4)).length:Int)≥2)))),(9,.u (UF.eq v16)),(16,.u (UF.eq v16)),(0,.u (fPV 80 ca)),(1,.u (fPV 80 cb)),(2,.u (fPV 80 cc)),(3,.u (fPV 80 cd))] (fmz ⟨.head _,fmz ⟨mz1,fmz ⟨mz2,fmz ⟨mz3,fmz ⟨mz4,fmz ⟨mz5,fmz ⟨mz6,fmz ⟨mz7,fmz ⟨mz8,fnz⟩⟩⟩⟩⟩⟩⟩⟩⟩)
   replace s:=s1.thaw s rfl
   refine zR (CU.agg (fMT 1)) ((fMT 1).tS) rfl s kA rfl rfl rfl iiz iiz (zEa _) fun a w s=>zD rfl (hQ _ _ ?_)
   exact pU<|wI s (CU.agg (fMT 1)) rfl kA rfl rfl (zLa _) (fun cs W h=>by rw[hk];exact h)
  .have e3:=e
   replace s:=s.keepK [(32,.u (uB (((pns (yM ca cb cc cd 4)).length:Int)==1))),(19,.u (uB (decide (((pns (yM ca cb cc cd 4)).length:Int)≥2)))),(9,.u (UF.eq v16)),(16,.u (UF.eq v16)),(0,.u (fPV 80 ca)),(1,.u (fPV 80 cb)),(2,.u (fPV 80 cc)),(3,.u (fPV 80 cd))] (fmz ⟨.head _,fmz ⟨mz1,fmz ⟨mz2,fmz ⟨mz3,fmz ⟨mz4,fmz ⟨mz5,fmz ⟨mz6,fmz ⟨mz7,fnz⟩⟩⟩⟩⟩⟩⟩⟩)
   replace s:=s1.thaw s rfl
   refine pV<|lQ<|rgK 8 ((41,.Z (fPV 80 ca))::(42,.Z (fPV 80 cb))::(43,.Z (fPV 80 cc))::(44,.Z (fPV 80 cd))::(45,.Z (zBC (fPV 327 (y6 ca cb cc cd)) (uB (!(decide ((dnm ca cb cc cd)=0))))))::(40,.Z (zBC (fPV 327 (y6 ca cb cc cd)) (uB (!(decide ((dnm ca cb cc cd)=0))))))::(46,.u (fPV 327 (y6 ca cb cc cd)))::(47,.u (uB (!(decide ((dnm ca cb cc cd)=0)))))::[]) s
    (oc (zH (f:=fPV 80 ca) 6 kA (hz:=zL _ _))<|oc (zH (f:=fPV 80 cb) 6 kA (hz:=zL _ _))<|oc (zH (f:=fPV 80 cc) 6 kA (hz:=zL _ _))<|oc (zH (f:=fPV 80 cd) 6 kA (hz:=zL _ _))<|oc (zHw zC zXA (fun u0 O u2 u3 W hb (U:(fPV 80 ca).p u0 W) (h1:(fPV 80 cb).p O W) (h2:(fPV 80 cc).p u2 W) (h3:(fPV 80 cd).p u3 W)=>zLU U h1 h2 h3 hh he h9))<|oc zA<|oc (zBR (A:=(fPV 327 (y6 ca cb cc cd)).tS) (B:=(uB (!(decide ((dnm ca cb cc cd)=0)))).tS) iiz)<|oc (zBQ (A:=(fPV 327 (y6 ca cb cc cd)).tS) (B:=(uB (!(decide ((dnm ca cb cc cd)=0)))).tS) iiz)<|zB) fun a w7 s=>z9 (CU.len 6) (cs:=zP6) kA rfl s kA (fun W=>rfl) rfl fun b10 a w s=>zR (CU.agg (fPV 327 (y6 ca cb cc cd))) ((fPV 327 (y6 ca cb cc cd)).tS) rfl s kA rfl rfl rfl iiz iiz y7 fun a w s=>yO (uB (!(decide ((dnm ca cb cc cd)=0)))) rfl s kA iiz fun a w s=>zD rfl<|lQ<|rgQ ((48,.Z (uB (!(decide ((dnm ca cb cc cd)=0)))))::(49,.Z (uB (!(decide ((dnm ca cb cc cd)=0)))))::(50,.s (SF.imp ((!(decide ((dnm ca cb cc cd)=0)))=true) ((fPV 80 ca).tS)))::(51,.s (SF.imp ((!(decide ((dnm ca cb cc cd)=0)))=true) ((fPV 80 cb).tS)))::(52,.s (SF.imp ((!(decide ((dnm ca cb cc cd)=0)))=true) ((fPV 327 (y6 ca cb cc cd)).tS)))::(53,.s (SF.imp ((!(decide ((dnm ca cb cc cd)=0)))=true) ((uB (onS ca cb (y6 ca cb cc cd))).tS)))::(54,.Z (uB ((!(decide ((dnm ca cb cc cd)=0)))&&(onS ca cb (y6 ca cb cc cd)))))::(55,.Z (uB ((!(decide ((dnm ca cb cc cd)=0)))&&(onS ca cb (y6 ca cb cc cd)))))::(56,.s (SF.imp (((!(decide ((dnm ca cb cc cd)=0)))&&(onS ca cb (y6 ca cb cc cd)))=true) ((fPV 80 cc).tS)))::(57,.s (SF.imp (((!(decide ((dnm ca cb cc cd)=0)))&&(onS ca cb (y6 ca cb cc cd)))=true) ((fPV 80 cd).tS)))::(58,.s (SF.imp (((!(decide ((dnm ca cb cc cd)=0)))&&(onS ca cb (y6 ca cb cc cd)))=true) ((fPV 327 (y6 ca cb cc cd)).tS)))::(59,.s (SF.imp (((!(decide ((dnm ca cb cc cd)=0)))&&(onS ca cb (y6 ca cb cc cd)))=true) ((uB (onS cc cd (y6 ca cb cc cd))).tS)))::(60,.u (uB (((!(decide ((dnm ca cb cc cd)=0)))&&(onS ca cb (y6 ca cb cc cd)))&&(onS cc cd (y6 ca cb cc cd)))))::[]) s
    (oc zA<|oc zA<|oc (zF 49 (!(decide ((dnm ca cb cc cd)=0))) kA iiz (fun e=>yU [] ((fPV 80 ca).tS) fnz fO kA (zH (f:=fPV 80 ca) 6 kA (hz:=zL _ _))) fN)<|oc (zF 49 (!(decide ((dnm ca cb cc cd)=0))) kA iiz (fun e=>yU [] ((fPV 80 cb).tS) fnz fO kA (zH (f:=fPV 80 cb) 6 kA (hz:=zL _ _))) fN)<|oc (zF 49 (!(decide ((dnm ca cb cc cd)=0))) kA iiz (fun e=>yU [] ((fPV 327 (y6 ca cb cc cd)).tS) fnz fO kA (zH (f:=fPV 327 (y6 ca cb cc cd)) 6 kA (hz:=zL _ _))) fN)<|oc (zF 49 (!(decide ((dnm ca cb cc cd)=0))) kA iiz (fun e=>yU [(50,(fPV 80 ca).tS),(51,(fPV 80 cb).tS),(52,(fPV 327 (y6 ca cb cc cd)).tS)] ((uB (onS ca cb (y6 ca cb cc cd))).tS) (fmz ⟨fun v W h=>yE (c:=(!(decide ((dnm ca cb cc cd)=0)))=true) (f:=(fPV 80 ca).tS) e h,fmz ⟨fun v W h=>yE (c:=(!(decide ((dnm ca cb cc cd)=0)))=true) (f:=(fPV 80 cb).tS) e h,fmz ⟨fun v W h=>yE (c:=(!(decide ((dnm ca cb cc cd)=0)))=true) (f:=(fPV 327 (y6 ca cb cc cd)).tS) e h,fnz⟩⟩⟩) fO kA (zBc zC zQU (fun u0 O u2 W hb (U:(fPV 80 ca).p u0 W) (h1:(fPV 80 cb).p O W) (h2:(fPV 327 (y6 ca cb cc cd)).p u2 W)=>zHo (m:=80) (M:=327) U h1 h2 dA dA dA dA))) fN)<|oc (yS (!(decide ((dnm ca cb cc cd)=0))) iiz (fun e v W h=>zCE (yE e h) e) (fun e v W h=>zBZ h e))<|oc zA<|oc (zF 55 ((!(decide ((dnm ca cb cc cd)=0)))&&(onS ca cb (y6 ca cb cc cd))) kA iiz (fun e=>yU [] ((fPV 80 cc).tS) fnz fO kA (zH (f:=fPV 80 cc) 6 kA (hz:=zL _ _))) fN)<|oc (zF 55 ((!(decide ((dnm ca cb cc cd)=0)))&&(onS ca cb (y6 ca cb cc cd))) kA iiz (fun e=>yU [] ((fPV 80 cd).tS) fnz fO kA (zH (f:=fPV 80 cd) 6 kA (hz:=zL _ _))) fN)<|oc (zF 55 ((!(decide ((dnm ca cb cc cd)=0)))&&(onS ca cb (y6 ca cb cc cd))) kA iiz (fun e=>yU [] ((fPV 327 (y6 ca cb cc cd)).tS) fnz fO kA (zH (f:=fPV 327 (y6 ca cb cc cd)) 6 kA (hz:=zL _ _))) fN)<|oc (zF 55 ((!(decide ((dnm ca cb cc cd)=0)))&&(onS ca cb (y6 ca cb cc cd))) kA iiz (fun e=>yU [(56,(fPV 80 cc).tS),(57,(fPV 80 cd).tS),(58,(fPV 327 (y6 ca cb cc cd)).tS)] ((uB (onS cc cd (y6 ca cb cc cd))).tS) (fmz ⟨fun v W h=>yE (c:=((!(decide ((dnm ca cb cc cd)=0)))&&(onS ca cb (y6 ca cb cc cd)))=true) (f:=(fPV 80 cc).tS) e h,fmz ⟨fun v W h=>yE (c:=((!(decide ((dnm ca cb cc cd)=0)))&&(onS ca cb (y6 ca cb cc cd)))=true) (f:=(fPV 80 cd).tS) e h,fmz ⟨fun v W h=>yE (c:=((!(decide ((dnm ca cb cc cd)=0)))&&(onS ca cb (y6 ca cb cc cd)))=true) (f:=(fPV 327 (y6 ca cb cc cd)).tS) e h,fnz⟩⟩⟩) fO kA (zBc zC zQU (fun u0 O u2 W hb (U:(fPV 80 cc).p u0 W) (h1:(fPV 80 cd).p O W) (h2:(fPV 327 (y6 ca cb cc cd)).p u2 W)=>zHo (m:=80) (M:=327) U h1 h2 dA dA dA dA))) fN)<|oc (yS ((!(decide ((dnm ca cb cc cd)=0)))&&(onS ca cb (y6 ca cb cc cd))) iiz (fun e v W h=>zCE (yE e h) e) (fun e v W h=>zBZ h e))<|zB) fun a w8 s=>StS.cond s (((!(decide ((dnm ca cb cc cd)=0)))&&(onS ca cb (y6 ca cb cc cd)))&&(onS cc cd (y6 ca cb cc cd))) iiz (fun e=>?_) (fun e=>?_)
   .have hk:zBG ca cb cc cd=1:=by unfold zBG;rw[if_neg e2,if_neg (by rw[e3];decide),if_pos e]
    exact lQ<|rgK 3 ((61,.Z (fPV 327 (y6 ca cb cc cd)))::(62,.Z (fPV 327 (y6 ca cb cc cd)))::(63,.u (fMT 1))::[]) s
     (oc (zH (f:=fPV 327 (y6 ca cb cc cd)) 6 kA (hz:=zL _ _))<|oc (zH (f:=fPV 327 (y6 ca cb cc cd)) 6 kA (hz:=zL _ _))<|oc (zAQ (fun u v q W (hu:u=.int .i8 1) (hv:(fPV 327 (y6 ca cb cc cd)).p v W) (hq:(fPV 327 (y6 ca cb cc cd)).p q W)=>by rw[show u=_ from hu];exact zUk hv hq))<|zB) fun a w9 s=>zR (CU.agg (fMT 1)) ((fMT 1).tS) rfl s kA rfl rfl rfl iiz iiz (zEa _) fun a w s=>zD rfl<|pU<|wI s (CU.agg (fMT 1)) rfl kA rfl rfl (zLa _) (fun cs W h=>by rw[hk];exact h)
   .have hk:zBG ca cb cc cd=0:=by unfold zBG;rw[if_neg e2,if_neg (by rw[e3];decide),if_neg (by rw[e];decide)]
    exact pV<|lQ<|rgK 3 ((64,.Z (fPN (((0:Int):Rat),((0:Int):Rat))))::(65,.Z (fPN (((0:Int):Rat),((0:Int):Rat))))::(66,.u (fMT 0))::[]) s
     (oc (zI zC zOA (fun u0 O W hb (U:u0=.int .i64 0) (h1:O=.int .i64 0)=>zIw U h1 dA dA))<|oc (zI zC zOA (fun u0 O W hb (U:u0=.int .i64 0) (h1:O=.int .i64 0)=>zIw U h1 dA dA))<|oc (jF (fun u v W (hu:(fPN (((0:Int):Rat),((0:Int):Rat))).p u W) (hv:(fPN (((0:Int):Rat),((0:Int):Rat))).p v W)=>zX7 hu hv))<|zB) fun a w10 s=>zR (CU.agg (fMT 0)) ((fMT 0).tS) rfl s kA rfl rfl rfl iiz iiz (zEa _) fun a w s=>zD rfl<|pU<|wI s (CU.agg (fMT 0)) rfl kA rfl rfl (zLa _) (fun cs W h=>by rw[hk];exact h)
def zAS(ps:List V2)(k i:Nat):Bool:=if i=k+1∨(k=0/\i=ps.length-1)then zBG (at_ ps k) (at_ ps ((k+1)%ps.length)) (at_ ps i) (at_ ps ((i+1)%ps.length))==1 else zBG (at_ ps k) (at_ ps ((k+1)%ps.length)) (at_ ps i) (at_ ps ((i+1)%ps.length))==0
def zQP(ps:List V2)(i k:Nat):Bool:= !((jZ (at_ ps i) (at_ ps k)==0)|| !(zAS ps k i))
def zDz(ps:List V2):Bool:=decide (3<=ps.length)&&(List.range ps.length).all fun i=>(List.range i).all fun k=>zQP ps i k
theorem zPy(h:ps.length<3):zDz ps=false:=by
 unfold zDz
 rw[xY oA,Bool.false_and]
theorem zSN(hi:i<ps.length)(I:k<i)(h:((jZ (at_ ps i) (at_ ps k)==0)|| !(zAS ps k i))=true):zDz ps=false:=by
 unfold zDz
 rw[tY]
 right
 rw[List.all_eq_false]
 refine⟨i,xT.2 hi,?_⟩
 rw[Bool.not_eq_true,List.all_eq_false]
 refine⟨k,xT.2 I,?_⟩
 unfold zQP
 rw[h]
 decide
theorem zPw(h3:3<=ps.length)(h:∀i k,i<ps.length->k<i->((jZ (at_ ps i) (at_ ps k)==0)|| !(zAS ps k i))=false):zDz ps=true:=by
 unfold zDz
 rw[lI h3,Bool.true_and,xR]
 intro i hi
 rw[xR]
 intro k I
 unfold zQP
 rw[h i k (xT.1 hi) (xT.1 I)]
 rfl
theorem zIA{m:Nat}{l:WE}(J:(SF.row 6 (pvs m ps)).p l W)(hu:u=.int .i64 (k:Int))(hk:k<ps.length)(hn:ps.length<=1000000)(h2:2<=ps.length):Calls prog 60 #[l,u] W (Ret W (zGh (fPV m (at_ ps k)) (fPV m (tn ps k)) (fB true)).tS):=by
 have O:(k+1)%ps.length<ps.length:=vW _ oA
 refine z5 [(UF.eq l).tS,(uI (k:Int)).tS] func60 rfl kA ⟨rfl,hu,trivial⟩ fun a s=>?_
 replace s:=s.renew [(0,.u (UF.eq l)),(1,.u (uI (k:Int)))] (fmz ⟨.inr ⟨_,rfl,.head _⟩,fmz ⟨.inr ⟨_,rfl,mz1⟩,fnz⟩⟩)
 refine lQ<|rgK 0 [] s
  zB fun a w1 s=>z9 (CU.agg (fPV m (((0:Rat),(0:Rat)):V2))) (cs:=ptZ) kA rfl s kA (fun W=>zNq m W) rfl fun b4 a w s=>z9 (CU.agg (fPV m (((0:Rat),(0:Rat)):V2))) (cs:=ptZ) kA rfl s kA (fun W=>zNq m W) rfl fun b5 a w s=>yO (uB false) rfl s kA iiz fun a w s=>zD rfl<|lQ<|rgQ ((7,.Z (UF.eq l))::(8,.Z (uI ((pvs m ps).length:Int)))::(9,.Z (uB false))::(10,.Z (uB false))::(11,.Z (uI (k:Int)))::(12,.Z (uB false))::(13,.Z (uB false))::(14,.Z (uB false))::(15,.Z (uI (k:Int)))::(16,.Z (UF.eq l))::(17,.Z (uI ((pvs m ps).length:Int)))::(18,.Z (uB false))::(19,.u (uB false))::[]) s
  (oc zA<|oc (zY (z:=6) (Cs:=pvs m ps) kA (fun v W hb h=>(zU J h (s.up hb))) (fun _=>rfl))<|oc (zM .i64 ((pvs m ps).length:Int) 2 false iiz iiz (by first|(simp;omega)|simp) rfl)<|oc zA<|oc (zF 10 false kA iiz (fun _=>zA) arf)<|oc (zF 10 false kA iiz (fun _=>zM .i64 (k:Int) 0 false iiz iiz (by first|(simp;omega)|simp) rfl) arf)<|oc (yS false iiz (fun e=>by cases e) fD)<|oc zA<|oc (zF 14 false kA iiz (fun _=>zA) arf)<|oc (zF 14 false kA iiz (fun _=>zA) arf)<|oc (zF 14 false kA iiz (fun _=>zY (z:=6) (Cs:=pvs m ps) kA (fun v W hb h=>(zU J h (s.up hb))) (fun _=>rfl)) arf)<|oc (zF 14 false kA iiz (fun _=>zM .i64 (k:Int) ((pvs m ps).length:Int) false iiz iiz (by first|(simp;omega)|simp) rfl) arf)<|oc (yS false iiz (fun e=>by cases e) fD)<|zB) fun a w2 s=>StS.cond s false iiz (fun e=>by cases e) (fun e=>?_)
 refine pV<|lQ ?_
 have I:=s.below
 replace s:=s.drop [6]
 refine zJy (GW W) hmix s fun w3 _ s=>?_
 have I:=s.below
 refine zEy [4,5,6,7,8,9,10,11] [0,1,2,3,4,5,6,7,8,9,10,11] ((22,.u (UF.eq l))::(23,.u (uI (k:Int)))::(24,.u (fOp W (CU.agg (fPV m (at_ ps k)))))::(25,.u (fPV m (at_ ps k)))::(26,.u (UF.eq l))::(27,.u (uI (k:Int)))::(28,.u (uI ((k+1:Nat):Int)))::(29,.u (UF.eq l))::(30,.u (uI ((pvs m ps).length:Int)))::(31,.u (uI (((k+1)%ps.length:Nat):Int)))::(32,.u (fOp W (CU.agg (fPV m (tn ps k)))))::(33,.u (fPV m (tn ps k)))::[]) (zJU I) s kA
  (oc zA<|oc zA<|oc (zIN (z:=6) (Cs:=pvs m ps) (i:=k) (C:=CU.agg (fPV m (at_ ps k))) kA (qI hk) J iiz iiz)<|oc (zKX I (fPV m (at_ ps k)) 6 kA iiz zHr)<|oc zA<|oc zA<|oc (yI .i64 (k:Int) 1 ((k+1:Nat):Int) iiz iiz (wrap64 _ _ oA oA))<|oc zA<|oc (zY (z:=6) (Cs:=pvs m ps) kA (fun v W hb h=>by rw[show _=l from h];exact(SF.row 6 (pvs m ps)).st _ _ _ J (s.up hb)) (fun _=>rfl))<|oc (zBb .i64 ((k+1:Nat):Int) ((pvs m ps).length:Int) (((k+1)%ps.length:Nat):Int) iiz iiz (by simp only[bC];omega) (by simp only[bC];rw[pD oA];rfl))<|oc (zIN (z:=6) (Cs:=pvs m ps) (i:=((k+1)%ps.length)) (C:=CU.agg (fPV m (tn ps k))) kA (qI O) J iiz iiz)<|oc (zKX I (fPV m (tn ps k)) 6 kA iiz zHr)<|zB)
  (zBf rfl (zGc.c zF2 I) (zBf rfl (zGc.c zF2 I) (zBf rfl (zGc.c (zT2 (x:=.tmp 27) (y:=.const (.int .i64 1)) .i64 (k:Int) 1 iiz iiz) I) (zBf rfl (zGc.c zF2 I) (zBf rfl (zGc.c (zVL (x:=.tmp 29) (z:=6) (Cs:=pvs m ps) kA (fun v W hb h=>by rw[show _=l from h];exact(SF.row 6 (pvs m ps)).st _ _ _ J hb)) I) (zBf rfl (zGc.c (zT1 (x:=.tmp 28) (y:=.tmp 30) .i64 ((k+1:Nat):Int) ((pvs m ps).length:Int) iiz iiz (by simp only[bC];omega)) I) (zBf rfl (zGc.c (zOt (x:=.tmp 26) (y:=.tmp 31) (z:=6) (Cs:=pvs m ps) (i:=((k+1)%ps.length)) (C:=CU.agg (fPV m (tn ps k))) kA (qI O) J iiz iiz) I) (zBf rfl (zGc.c (zQR (x:=.tmp 32) (fPV m (tn ps k)) 6 kA iiz zHr) I) zEI)))))))) fun a w4 U s hr=>?_
 replace I:=I.trans (U.mono I.size)
 refine zGu (i:=12) (c:=4) (CU.agg (fPV m (at_ ps k))) ((fPV m (at_ ps k)).tS) s rfl kA kA rfl rfl rfl (zL _ _) iiz y7 (fun vs _=>zRV I (s.own (c:=4) rfl rfl) _) fun w5 hg _ s=>?_
 replace I:=hg _ (xF _ _)
 refine zGu (i:=13) (c:=5) (CU.agg (fPV m (tn ps k))) ((fPV m (tn ps k)).tS) s rfl kA kA rfl rfl rfl (zL _ _) iiz y7 (fun vs _=>zRV I (s.own (c:=5) rfl rfl) _) fun w6 hg _ s=>?_
 replace I:=hg _ (xF _ _)
 exact zEy [] [14] ((6,.u (uB true))::[]) (zJU I) s kA (zK2 zE<|zB) zEI fun a w7 U s hr=>zHg kA<|pU<|vN s (CU.agg (fPV m (at_ ps k))) (CU.agg (fPV m (tn ps k))) rfl kA kA rfl rfl (zL _ _) rfl rfl (zL _ _) (fun cs cs' v W h1 h2 h3=>⟨_,_,_,rfl,h1,h2,h3⟩)
theorem zLT{l:WE}(hl:(SF.row 6 (pvs 80 ps)).p l W)(hu:u=.int .i64 (k:Int))(hv:v=.int .i64 (i:Int))(hki:k<i)(hi:i<ps.length)(hn:ps.length<=1000000)(h3:3<=ps.length)(I:∀i j,i<ps.length->j<ps.length->i≠j->zEY (at_ ps i) (at_ ps j)):Calls prog 30 #[l,u,v] W (Ret W (fB (zAS ps k i)).tS):=by
 have O:k<ps.length:=by omega
 have nx:∀j,j<ps.length->(j+1)%ps.length<ps.length/\j≠(j+1)%ps.length:=fun j hj=>by
  rcases tU (Nat.succ_le_of_lt hj)with h|h
  .rw[uC h];omega
  .rw[show j+1=ps.length from h,zY8];omega
 have h8:zEY (at_ ps k) (at_ ps ((k+1)%ps.length)):=I _ _ O (nx k O).1 (nx k O).2
 have h6:zEY (at_ ps i) (at_ ps ((i+1)%ps.length)):=I _ _ hi (nx i hi).1 (nx i hi).2
 have h7:zEY (at_ ps k) (at_ ps i):=I _ _ O hi oA
 refine z5 [(UF.eq l).tS,(uI (k:Int)).tS,(uI (i:Int)).tS] func30 rfl kA ⟨rfl,hu,hv,trivial⟩ fun a s=>?_
 replace s:=s.renew [(0,.u (UF.eq l)),(1,.u (uI (k:Int))),(2,.u (uI (i:Int)))] (fmz ⟨.inr ⟨_,rfl,.head _⟩,fmz ⟨.inr ⟨_,rfl,mz1⟩,fmz ⟨.inr ⟨_,rfl,mz2⟩,fnz⟩⟩⟩)
 refine rgQ ((6,.u (uB false))::[]) s
  (oc zE<|zB) fun a w1 s=>lQ<|rgK 7 ((15,.Z (UF.eq l))::(16,.Z (uI (k:Int)))::(17,.Z (zGh (fPV 80 (at_ ps k)) (fPV 80 (at_ ps ((k+1)%ps.length))) (uB true)))::(14,.Z (zGh (fPV 80 (at_ ps k)) (fPV 80 (at_ ps ((k+1)%ps.length))) (uB true)))::(18,.u (fPV 80 (at_ ps k)))::(19,.u (fPV 80 (at_ ps ((k+1)%ps.length))))::(20,.u (uB true))::[]) s
  (oc zA<|oc zA<|oc (zI zC zV0 (fun J U W hb (h0:J=l) (h1:U=.int .i64 (k:Int))=>zIA (m:=80) (ps:=ps) (k:=k) (zU hl h0 (s.up hb)) h1 O hn oA))<|oc zA<|oc (zFb (A:=(fPV 80 (at_ ps k)).tS) (B:=(fPV 80 (at_ ps ((k+1)%ps.length))).tS) (C:=(uB true).tS) iiz)<|oc (zFa (A:=(fPV 80 (at_ ps k)).tS) (B:=(fPV 80 (at_ ps ((k+1)%ps.length))).tS) (C:=(uB true).tS) iiz)<|oc (zE9 (A:=(fPV 80 (at_ ps k)).tS) (B:=(fPV 80 (at_ ps ((k+1)%ps.length))).tS) (C:=(uB true).tS) iiz)<|zB) fun a w2 s=>z9 (CU.len 6) (cs:=zP6) kA rfl s kA (fun W=>rfl) rfl fun b7 a w s=>z9 (CU.len 6) (cs:=zP6) kA rfl s kA (fun W=>rfl) rfl fun b8 a w s=>zR (CU.agg (fPV 80 (at_ ps k))) ((fPV 80 (at_ ps k)).tS) rfl s kA rfl rfl rfl iiz iiz y7 fun a w s=>zR (CU.agg (fPV 80 (at_ ps ((k+1)%ps.length)))) ((fPV 80 (at_ ps ((k+1)%ps.length))).tS) rfl s kA rfl rfl rfl iiz iiz y7 fun a w s=>yO (uB true) rfl s kA iiz fun a w s=>zD rfl<|lQ<|rgK 7 ((22,.Z (UF.eq l))::(23,.Z (uI (i:Int)))::(24,.Z (zGh (fPV 80 (at_ ps i)) (fPV 80 (at_ ps ((i+1)%ps.length))) (uB true)))::(21,.Z (zGh (fPV 80 (at_ ps i)) (fPV 80 (at_ ps ((i+1)%ps.length))) (uB true)))::(25,.u (fPV 80 (at_ ps i)))::(26,.u (fPV 80 (at_ ps ((i+1)%ps.length))))::(27,.u (uB true))::[]) s
  (oc zA<|oc zA<|oc (zI zC zV0 (fun J U W hb (h0:J=l) (h1:U=.int .i64 (i:Int))=>zIA (m:=80) (ps:=ps) (k:=i) (zU hl h0 (s.up hb)) h1 hi hn oA))<|oc zA<|oc (zFb (A:=(fPV 80 (at_ ps i)).tS) (B:=(fPV 80 (at_ ps ((i+1)%ps.length))).tS) (C:=(uB true).tS) iiz)<|oc (zFa (A:=(fPV 80 (at_ ps i)).tS) (B:=(fPV 80 (at_ ps ((i+1)%ps.length))).tS) (C:=(uB true).tS) iiz)<|oc (zE9 (A:=(fPV 80 (at_ ps i)).tS) (B:=(fPV 80 (at_ ps ((i+1)%ps.length))).tS) (C:=(uB true).tS) iiz)<|zB) fun a w3 s=>z9 (CU.len 6) (cs:=zP6) kA rfl s kA (fun W=>rfl) rfl fun b10 a w s=>z9 (CU.len 6) (cs:=zP6) kA rfl s kA (fun W=>rfl) rfl fun b11 a w s=>zR (CU.agg (fPV 80 (at_ ps i))) ((fPV 80 (at_ ps i)).tS) rfl s kA rfl rfl rfl iiz iiz y7 fun a w s=>zR (CU.agg (fPV 80 (at_ ps ((i+1)%ps.length)))) ((fPV 80 (at_ ps ((i+1)%ps.length))).tS) rfl s kA rfl rfl rfl iiz iiz y7 fun a w s=>yO (uB true) rfl s kA iiz fun a w s=>zD rfl<|lQ<|rgK 5 ((28,.Z (fPV 80 (at_ ps k)))::(29,.Z (fPV 80 (at_ ps ((k+1)%ps.length))))::(30,.Z (fPV 80 (at_ ps i)))::(31,.Z (fPV 80 (at_ ps ((i+1)%ps.length))))::(32,.u (fMT (zBG (at_ ps k) (at_ ps ((k+1)%ps.length)) (at_ ps i) (at_ ps ((i+1)%ps.length)))))::[]) s
  (oc (zH (f:=fPV 80 (at_ ps k)) 6 kA (hz:=zL _ _))<|oc (zH (f:=fPV 80 (at_ ps ((k+1)%ps.length))) 6 kA (hz:=zL _ _))<|oc (zH (f:=fPV 80 (at_ ps i)) 6 kA (hz:=zL _ _))<|oc (zH (f:=fPV 80 (at_ ps ((i+1)%ps.length))) 6 kA (hz:=zL _ _))<|oc (zHw zC zXN (fun J U u2 u3 W hb (h0:(fPV 80 (at_ ps k)).p J W) (h1:(fPV 80 (at_ ps ((k+1)%ps.length))).p U W) (h2:(fPV 80 (at_ ps i)).p u2 W) (h3:(fPV 80 (at_ ps ((i+1)%ps.length))).p u3 W)=>zNk h0 h1 h2 h3 h8 h6 h7))<|zB) fun a w4 s=>z9 (CU.len 13) (cs:=[.int .i8 0,.bool false, sN, sN,.bool false, sN, sN,.bool false, sN, sN,.bool false, sN, sN]) kA rfl s kA (fun W=>rfl) rfl fun b13 a w s=>zR (CU.agg (fMT (zBG (at_ ps k) (at_ ps ((k+1)%ps.length)) (at_ ps i) (at_ ps ((i+1)%ps.length))))) ((fMT (zBG (at_ ps k) (at_ ps ((k+1)%ps.length)) (at_ ps i) (at_ ps ((i+1)%ps.length)))).tS) rfl s kA rfl rfl rfl iiz iiz (zEa _) fun a w s=>zD rfl<|lQ<|lQ ?_
 rcases(show i=k+1∨(i≠k+1/\k=0/\i=ps.length-1)∨(i≠k+1/\k=0/\i≠ps.length-1)∨(i≠k+1/\k≠0) by omega)with c1|⟨c1,c2,c3⟩|⟨c1,c2,c3⟩|⟨c1,c2⟩
 .refine rgK 0 [] s
   zB fun a w5 s=>?_
  refine zBF (uI (i:Int)) rfl s kA zA kA fun a w s=>zBF (uI (k:Int)) rfl s kA zA kA fun a w s=>zBF (uI ((k+1:Nat):Int)) rfl s kA (yI .i64 (k:Int) 1 ((k+1:Nat):Int) iiz iiz (wrap64 _ _ oA oA)) kA fun a w s=>zBF (uB true) rfl s kA (zM .i64 (i:Int) ((k+1:Nat):Int) true iiz iiz (bJ.2 oA) rfl) kA fun a w s=>zBF (uB true) rfl s kA zA kA fun a w s=>zB8 (.bool true) rfl rfl s iiz kA kA (fun a w s=>?_)
  refine zB8 (.bool true) rfl rfl s iiz kA kA (fun a w s=>?_)
  refine zB8 (.bool true) rfl rfl s iiz kA kA (fun a w s=>?_)
  refine zB8 undef rfl rfl s iiz kA kA (fun a w s=>?_)
  refine zB8 undef rfl rfl s iiz kA kA (fun a w s=>?_)
  refine zB8 undef rfl rfl s iiz kA kA (fun a w s=>?_)
  refine zB8 undef rfl rfl s iiz kA kA (fun a w s=>?_)
  refine zB8 undef rfl rfl s iiz kA kA (fun a w s=>?_)
  refine zB8 (.bool true) rfl rfl s iiz kA kA (fun a w s=>?_)
  refine zBF (uB true) rfl s kA (yS true iiz fD (fun e=>by cases e)) kA fun a w s=>zD rfl<|StS.cond s true iiz (fun e=>?_) (fun e=>by cases e)
  refine lQ ?_
  replace s:=s.drop [6]
  exact rgE ((48,.X (fMT (zBG (at_ ps k) (at_ ps ((k+1)%ps.length)) (at_ ps i) (at_ ps ((i+1)%ps.length)))) 0)::(49,.Z (UF.eq (.int .i8 (zBG (at_ ps k) (at_ ps ((k+1)%ps.length)) (at_ ps i) (at_ ps ((i+1)%ps.length))))))::(50,.Z (uB ((zBG (at_ ps k) (at_ ps ((k+1)%ps.length)) (at_ ps i) (at_ ps ((i+1)%ps.length)))==1)))::(6,.u (uB ((zBG (at_ ps k) (at_ ps ((k+1)%ps.length)) (at_ ps i) (at_ ps ((i+1)%ps.length)))==1)))::[]) s
   (oc (zN (C:=cg (fMT (zBG (at_ ps k) (at_ ps ((k+1)%ps.length)) (at_ ps i) (at_ ps ((i+1)%ps.length))))) 0 kA)<|oc (jU (C:=cg (fMT (zBG (at_ ps k) (at_ ps ((k+1)%ps.length)) (at_ ps i) (at_ ps ((i+1)%ps.length))))) (k:=0) kA (h:=zHD _))<|oc (zM .i8 (zBG (at_ ps k) (at_ ps ((k+1)%ps.length)) (at_ ps i) (at_ ps ((i+1)%ps.length))) 1 ((zBG (at_ ps k) (at_ ps ((k+1)%ps.length)) (at_ ps i) (at_ ps ((i+1)%ps.length)))==1) iiz iiz rfl rfl)<|oc zE<|zB) fun a w6 s=>pU<|wF s (t:=6) rfl (fun v W h=>by rw[show zAS ps k i=_ from if_pos (.inl c1)];exact h)
 .refine rgK 0 [] s
   zB fun a w7 s=>?_
  refine zBF (uI (i:Int)) rfl s kA zA kA fun a w s=>zBF (uI (k:Int)) rfl s kA zA kA fun a w s=>zBF (uI ((k+1:Nat):Int)) rfl s kA (yI .i64 (k:Int) 1 ((k+1:Nat):Int) iiz iiz (wrap64 _ _ oA oA)) kA fun a w s=>zBF (uB false) rfl s kA (zM .i64 (i:Int) ((k+1:Nat):Int) false iiz iiz (nJ.2 oA) rfl) kA fun a w s=>zBF (uB false) rfl s kA zA kA fun a w s=>zB5 (uI (k:Int)) rfl rfl s iiz kA zA kA fun a w s=>zB5 (uB true) rfl rfl s iiz kA (zM .i64 (k:Int) 0 true iiz iiz (bJ.2 oA) rfl) kA fun a w s=>zB5 (uB true) rfl rfl s iiz kA zA kA fun a w s=>zB5 (uI (i:Int)) rfl rfl s iiz kA zA kA fun a w s=>zB5 (UF.eq l) rfl rfl s iiz kA zA kA fun a w s=>zB5 (uI ((pvs 80 ps).length:Int)) rfl rfl s iiz kA (zY (z:=6) (Cs:=pvs 80 ps) kA (fun v W hb h=>(zU hl h (s.up hb))) (fun _=>rfl)) kA fun a w s=>zB5 (uI ((ps.length-1:Nat):Int)) rfl rfl s iiz kA (zCF .i64 ((pvs 80 ps).length:Int) 1 ((ps.length-1:Nat):Int) iiz iiz (by simp only[bC];rw[sS];omega)) kA fun a w s=>zB5 (uB true) rfl rfl s iiz kA (zM .i64 (i:Int) ((ps.length-1:Nat):Int) true iiz iiz (bJ.2 oA) rfl) kA fun a w s=>zB5 (uB true) rfl rfl s iiz kA (yS true iiz fD (fun e=>by cases e)) kA fun a w s=>zBF (uB true) rfl s kA (yS false iiz (fun e=>by cases e) fD) kA fun a w s=>zD rfl<|StS.cond s true iiz (fun e=>?_) (fun e=>by cases e)
  refine lQ ?_
  replace s:=s.drop [6]
  exact rgE ((48,.X (fMT (zBG (at_ ps k) (at_ ps ((k+1)%ps.length)) (at_ ps i) (at_ ps ((i+1)%ps.length)))) 0)::(49,.Z (UF.eq (.int .i8 (zBG (at_ ps k) (at_ ps ((k+1)%ps.length)) (at_ ps i) (at_ ps ((i+1)%ps.length))))))::(50,.Z (uB ((zBG (at_ ps k) (at_ ps ((k+1)%ps.length)) (at_ ps i) (at_ ps ((i+1)%ps.length)))==1)))::(6,.u (uB ((zBG (at_ ps k) (at_ ps ((k+1)%ps.length)) (at_ ps i) (at_ ps ((i+1)%ps.length)))==1)))::[]) s
   (oc (zN (C:=cg (fMT (zBG (at_ ps k) (at_ ps ((k+1)%ps.length)) (at_ ps i) (at_ ps ((i+1)%ps.length))))) 0 kA)<|oc (jU (C:=cg (fMT (zBG (at_ ps k) (at_ ps ((k+1)%ps.length)) (at_ ps i) (at_ ps ((i+1)%ps.length))))) (k:=0) kA (h:=zHD _))<|oc (zM .i8 (zBG (at_ ps k) (at_ ps ((k+1)%ps.length)) (at_ ps i) (at_ ps ((i+1)%ps.length))) 1 ((zBG (at_ ps k) (at_ ps ((k+1)%ps.length)) (at_ ps i) (at_ ps ((i+1)%ps.length)))==1) iiz iiz rfl rfl)<|oc zE<|zB) fun a w8 s=>pU<|wF s (t:=6) rfl (fun v W h=>by rw[show zAS ps k i=_ from if_pos (.inr ⟨c2,c3⟩)];exact h)
 .refine rgK 0 [] s
   zB fun a w9 s=>?_
  refine zBF (uI (i:Int)) rfl s kA zA kA fun a w s=>zBF (uI (k:Int)) rfl s kA zA kA fun a w s=>zBF (uI ((k+1:Nat):Int)) rfl s kA (yI .i64 (k:Int) 1 ((k+1:Nat):Int) iiz iiz (wrap64 _ _ oA oA)) kA fun a w s=>zBF (uB false) rfl s kA (zM .i64 (i:Int) ((k+1:Nat):Int) false iiz iiz (nJ.2 oA) rfl) kA fun a w s=>zBF (uB false) rfl s kA zA kA fun a w s=>zB5 (uI (k:Int)) rfl rfl s iiz kA zA kA fun a w s=>zB5 (uB true) rfl rfl s iiz kA (zM .i64 (k:Int) 0 true iiz iiz (bJ.2 oA) rfl) kA fun a w s=>zB5 (uB true) rfl rfl s iiz kA zA kA fun a w s=>zB5 (uI (i:Int)) rfl rfl s iiz kA zA kA fun a w s=>zB5 (UF.eq l) rfl rfl s iiz kA zA kA fun a w s=>zB5 (uI ((pvs 80 ps).length:Int)) rfl rfl s iiz kA (zY (z:=6) (Cs:=pvs 80 ps) kA (fun v W hb h=>(zU hl h (s.up hb))) (fun _=>rfl)) kA fun a w s=>zB5 (uI ((ps.length-1:Nat):Int)) rfl rfl s iiz kA (zCF .i64 ((pvs 80 ps).length:Int) 1 ((ps.length-1:Nat):Int) iiz iiz (by simp only[bC];rw[sS];omega)) kA fun a w s=>zB5 (uB false) rfl rfl s iiz kA (zM .i64 (i:Int) ((ps.length-1:Nat):Int) false iiz iiz (nJ.2 oA) rfl) kA fun a w s=>zB5 (uB false) rfl rfl s iiz kA (yS true iiz fD (fun e=>by cases e)) kA fun a w s=>zBF (uB false) rfl s kA (yS false iiz (fun e=>by cases e) fD) kA fun a w s=>zD rfl<|StS.cond s false iiz (fun e=>by cases e) (fun e=>?_)
  refine pV<|lQ ?_
  replace s:=s.drop [6]
  exact rgE ((51,.X (fMT (zBG (at_ ps k) (at_ ps ((k+1)%ps.length)) (at_ ps i) (at_ ps ((i+1)%ps.length)))) 0)::(52,.Z (UF.eq (.int .i8 (zBG (at_ ps k) (at_ ps ((k+1)%ps.length)) (at_ ps i) (at_ ps ((i+1)%ps.length))))))::(53,.Z (uB ((zBG (at_ ps k) (at_ ps ((k+1)%ps.length)) (at_ ps i) (at_ ps ((i+1)%ps.length)))==0)))::(6,.u (uB ((zBG (at_ ps k) (at_ ps ((k+1)%ps.length)) (at_ ps i) (at_ ps ((i+1)%ps.length)))==0)))::[]) s
   (oc (zN (C:=cg (fMT (zBG (at_ ps k) (at_ ps ((k+1)%ps.length)) (at_ ps i) (at_ ps ((i+1)%ps.length))))) 0 kA)<|oc (jU (C:=cg (fMT (zBG (at_ ps k) (at_ ps ((k+1)%ps.length)) (at_ ps i) (at_ ps ((i+1)%ps.length))))) (k:=0) kA (h:=zHD _))<|oc (zM .i8 (zBG (at_ ps k) (at_ ps ((k+1)%ps.length)) (at_ ps i) (at_ ps ((i+1)%ps.length))) 0 ((zBG (at_ ps k) (at_ ps ((k+1)%ps.length)) (at_ ps i) (at_ ps ((i+1)%ps.length)))==0) iiz iiz rfl rfl)<|oc zE<|zB) fun a w10 s=>pU<|wF s (t:=6) rfl (fun v W h=>by rw[show zAS ps k i=_ from if_neg oA];exact h)
 .refine rgK 0 [] s
   zB fun a w11 s=>?_
  refine zBF (uI (i:Int)) rfl s kA zA kA fun a w s=>zBF (uI (k:Int)) rfl s kA zA kA fun a w s=>zBF (uI ((k+1:Nat):Int)) rfl s kA (yI .i64 (k:Int) 1 ((k+1:Nat):Int) iiz iiz (wrap64 _ _ oA oA)) kA fun a w s=>zBF (uB false) rfl s kA (zM .i64 (i:Int) ((k+1:Nat):Int) false iiz iiz (nJ.2 oA) rfl) kA fun a w s=>zBF (uB false) rfl s kA zA kA fun a w s=>zB5 (uI (k:Int)) rfl rfl s iiz kA zA kA fun a w s=>zB5 (uB false) rfl rfl s iiz kA (zM .i64 (k:Int) 0 false iiz iiz (nJ.2 oA) rfl) kA fun a w s=>zB5 (uB false) rfl rfl s iiz kA zA kA fun a w s=>zB8 (.bool false) rfl rfl s iiz kA kA (fun a w s=>?_)
  refine zB8 (.bool false) rfl rfl s iiz kA kA (fun a w s=>?_)
  refine zB8 (.bool false) rfl rfl s iiz kA kA (fun a w s=>?_)
  refine zB8 (.bool false) rfl rfl s iiz kA kA (fun a w s=>?_)
  refine zB8 (.bool false) rfl rfl s iiz kA kA (fun a w s=>?_)
  refine zB5 (uB false) rfl rfl s iiz kA (yS false iiz (fun e=>by cases e) fD) kA fun a w s=>zBF (uB false) rfl s kA (yS false iiz (fun e=>by cases e) fD) kA fun a w s=>zD rfl<|StS.cond s false iiz (fun e=>by cases e) (fun e=>?_)
  refine pV<|lQ ?_
  replace s:=s.drop [6]
  exact rgE ((51,.X (fMT (zBG (at_ ps k) (at_ ps ((k+1)%ps.length)) (at_ ps i) (at_ ps ((i+1)%ps.length)))) 0)::(52,.Z (UF.eq (.int .i8 (zBG (at_ ps k) (at_ ps ((k+1)%ps.length)) (at_ ps i) (at_ ps ((i+1)%ps.length))))))::(53,.Z (uB ((zBG (at_ ps k) (at_ ps ((k+1)%ps.length)) (at_ ps i) (at_ ps ((i+1)%ps.length)))==0)))::(6,.u (uB ((zBG (at_ ps k) (at_ ps ((k+1)%ps.length)) (at_ ps i) (at_ ps ((i+1)%ps.length)))==0)))::[]) s
   (oc (zN (C:=cg (fMT (zBG (at_ ps k) (at_ ps ((k+1)%ps.length)) (at_ ps i) (at_ ps ((i+1)%ps.length))))) 0 kA)<|oc (jU (C:=cg (fMT (zBG (at_ ps k) (at_ ps ((k+1)%ps.length)) (at_ ps i) (at_ ps ((i+1)%ps.length))))) (k:=0) kA (h:=zHD _))<|oc (zM .i8 (zBG (at_ ps k) (at_ ps ((k+1)%ps.length)) (at_ ps i) (at_ ps ((i+1)%ps.length))) 0 ((zBG (at_ ps k) (at_ ps ((k+1)%ps.length)) (at_ ps i) (at_ ps ((i+1)%ps.length)))==0) iiz iiz rfl rfl)<|oc zE<|zB) fun a w12 s=>pU<|wF s (t:=6) rfl (fun v W h=>by rw[show zAS ps k i=_ from if_neg oA];exact h)
theorem zJC{l:WE}(hl:(SF.row 6 (pvs 80 ps)).p l W)(hn:ps.length<=1000000)(O:∀i j,i<ps.length->j<ps.length->i≠j->zEY (at_ ps i) (at_ ps j)):Calls prog 7 #[l] W (Ret W (fB (zDz ps)).tS):=by
 refine z5 [(UF.eq l).tS] func7 rfl kA ⟨rfl,trivial⟩ fun a s=>?_
 replace s:=s.renew [(0,.u (UF.eq l))] (fmz ⟨.inr ⟨_,rfl,.head _⟩,fnz⟩)
 refine rgQ ((2,.u (uB false))::[]) s
  (oc zE<|zB) fun a w1 s=>lQ<|rgQ ((5,.Z (UF.eq l))::(6,.Z (uI ((pvs 80 ps).length:Int)))::(7,.u (uB (decide (ps.length<3))))::[]) s
  (oc zA<|oc (zY (z:=6) (Cs:=pvs 80 ps) kA (fun v W hb h=>(zU hl h (s.up hb))) (fun _=>rfl))<|oc (zM .i64 ((pvs 80 ps).length:Int) 3 (decide (ps.length<3)) iiz iiz (by simp only[bC];rw[rS];omega) rfl)<|zB) fun a w2 s=>StS.cond s (decide (ps.length<3)) iiz (fun e=>?_) (fun e=>?_)
 .refine lQ ?_
  replace s:=s.drop [2]
  exact rgE ((2,.u (uB false))::[]) s
   (oc zE<|zB) fun a w3 s=>pU<|wF s (t:=2) rfl (fun v W h=>by rw[zPy (xW e)];exact h)
 .have h3:3<=ps.length:=by have:=nH e;omega
  refine pV<|lQ<|rgQ ((3,.u (uI 0))::[]) s
   (oc zE<|zB) fun a w4 s=>tQ<|zAg (fun i=>i<=ps.length/\∀i' k,i'<i->k<i'->((jZ (at_ ps i') (at_ ps k)==0)|| !(zAS ps k i'))=false) (fun i=> [(0,.u (UF.eq l)),(3,.u (uI ((i:Nat):Int)))]) (fun i=>ps.length-i) (0:Nat) (⟨vR _,fun j k I=>absurd I (rT _)⟩) (s.keepK _ (fmz ⟨mz3,fmz ⟨.head _,fnz⟩⟩)) fun i a w J s=>?_
  have hc:=J
  refine lQ<|rgQ ((8,.Z (uI (i:Int)))::(9,.Z (UF.eq l))::(10,.Z (uI ((pvs 80 ps).length:Int)))::(11,.u (uB (ltz i ((pvs 80 ps).length))))::[]) s
   (oc zA<|oc zA<|oc (zY (z:=6) (Cs:=pvs 80 ps) kA (fun v W hb h=>(zU hl h (s.up hb))) (fun _=>rfl))<|oc (zM .i64 (i:Int) ((pvs 80 ps).length:Int) (ltz i ((pvs 80 ps).length)) iiz iiz rfl rfl)<|zB) fun a w5 s=>StS.cond s (ltz i ((pvs 80 ps).length)) iiz (fun e=>?_) (fun e=>?_)
  .have hi:i<ps.length:=by have:=xW e;simp at this;omega
   refine pV<|lQ<|tQ<|rgQ ((4,.u (uI 0))::[]) s
    (oc zE<|zB) fun a w6 s=>tQ<|zAg (fun k=>k<=i/\∀k',k'<k->((jZ (at_ ps i) (at_ ps k')==0)|| !(zAS ps k' i))=false) (fun k=> [(0,.u (UF.eq l)),(3,.u (uI (i:Int))),(4,.u (uI ((k:Nat):Int)))]) (fun k=>i-k) (0:Nat) (⟨vR _,fun j I=>absurd I (rT _)⟩) (s.keepK _ (fmz ⟨mz2,fmz ⟨mz3,fmz ⟨.head _,fnz⟩⟩⟩)) fun k a w J s=>lQ<|rgQ ((14,.Z (uI (k:Int)))::(15,.Z (uI (i:Int)))::(16,.u (uB (ltz k i)))::[]) s
    (oc zA<|oc zA<|oc (zM .i64 (k:Int) (i:Int) (ltz k i) iiz iiz rfl rfl)<|zB) fun a w7 s=>StS.cond s (ltz k i) iiz (fun e=>?_) (fun e=>?_)
   .have U:k<i:=by have:=xW e;omega
    have h6:k<ps.length:=by omega
    refine pV<|lQ<|tQ<|rgQ ((19,.Z (UF.eq l))::(20,.Z (uI (i:Int)))::(21,.Y (fPV 80 (at_ ps i)))::(22,.Z (fPV 80 (at_ ps i)))::(23,.Z (UF.eq l))::(24,.Z (uI (k:Int)))::(25,.Y (fPV 80 (at_ ps k)))::(26,.Z (fPV 80 (at_ ps k)))::(27,.Z (uB (jZ (at_ ps i) (at_ ps k)==0)))::(28,.Z (uB (jZ (at_ ps i) (at_ ps k)==0)))::(29,.s (SF.imp ((jZ (at_ ps i) (at_ ps k)==0)=false) ((UF.eq l).tS)))::(30,.s (SF.imp ((jZ (at_ ps i) (at_ ps k)==0)=false) ((uI (k:Int)).tS)))::(31,.s (SF.imp ((jZ (at_ ps i) (at_ ps k)==0)=false) ((uI (i:Int)).tS)))::(32,.s (SF.imp ((jZ (at_ ps i) (at_ ps k)==0)=false) ((uB (zAS ps k i)).tS)))::(33,.s (SF.imp ((jZ (at_ ps i) (at_ ps k)==0)=false) ((uB (!(zAS ps k i))).tS)))::(34,.u (uB ((jZ (at_ ps i) (at_ ps k)==0)||(!(zAS ps k i)))))::[]) s
     (oc zA<|oc zA<|oc (zQ (z:=6) (Cs:=pvs 80 ps) (i:=i) (C:=CU.agg (fPV 80 (at_ ps i))) kA (qI hi) (fun v W hb h=>(zU hl h (s.up hb))) iiz)<|oc (zH (f:=fPV 80 (at_ ps i)) 6 kA (hz:=zL _ _))<|oc zA<|oc zA<|oc (zQ (z:=6) (Cs:=pvs 80 ps) (i:=k) (C:=CU.agg (fPV 80 (at_ ps k))) kA (qI h6) (fun v W hb h=>(zU hl h (s.up hb))) iiz)<|oc (zH (f:=fPV 80 (at_ ps k)) 6 kA (hz:=zL _ _))<|oc (zI zC zUa (fun u0 u1 W hb (h0:(fPV 80 (at_ ps i)).p u0 W) (h1:(fPV 80 (at_ ps k)).p u1 W)=>zHk (m:=80) h0 h1 dA dA))<|oc zA<|oc (zF 28 (jZ (at_ ps i) (at_ ps k)==0) kA iiz (fun e=>yU [] ((UF.eq l).tS) fnz fO kA zA) fN)<|oc (zF 28 (jZ (at_ ps i) (at_ ps k)==0) kA iiz (fun e=>yU [] ((uI (k:Int)).tS) fnz fO kA zA) fN)<|oc (zF 28 (jZ (at_ ps i) (at_ ps k)==0) kA iiz (fun e=>yU [] ((uI (i:Int)).tS) fnz fO kA zA) fN)<|oc (zF 28 (jZ (at_ ps i) (at_ ps k)==0) kA iiz (fun e=>yU [(29,(UF.eq l).tS),(30,(uI (k:Int)).tS),(31,(uI (i:Int)).tS)] ((uB (zAS ps k i)).tS) (fmz ⟨fun v W h=>yE (c:=(jZ (at_ ps i) (at_ ps k)==0)=false) (f:=(UF.eq l).tS) e h,fmz ⟨fun v W h=>yE (c:=(jZ (at_ ps i) (at_ ps k)==0)=false) (f:=(uI (k:Int)).tS) e h,fmz ⟨fun v W h=>yE (c:=(jZ (at_ ps i) (at_ ps k)==0)=false) (f:=(uI (i:Int)).tS) e h,fnz⟩⟩⟩) fO kA (zBc zC zXV (fun u0 u1 u2 W hb (h0:u0=l) (h1:u1=.int .i64 (k:Int)) (h2:u2=.int .i64 (i:Int))=>zLT (ps:=ps) (k:=k) (i:=i) (zU hl h0 (s.up hb)) h1 h2 U hi hn h3 O))) fN)<|oc (zF 28 (jZ (at_ ps i) (at_ ps k)==0) kA iiz (fun e=>yU [(32,(uB (zAS ps k i)).tS)] ((uB (!(zAS ps k i))).tS) (fmz ⟨fun v W h=>yE (c:=(jZ (at_ ps i) (at_ ps k)==0)=false) (f:=(uB (zAS ps k i)).tS) e h,fnz⟩) fO kA (zDB (zAS ps k i) iiz (fun _=>rfl))) fN)<|oc (yS (jZ (at_ ps i) (at_ ps k)==0) iiz (fun e v W h=>zHt h e) (fun e v W h=>zE7 (yE e h) e))<|zB) fun a w8 s=>StS.cond s ((jZ (at_ ps i) (at_ ps k)==0)||(!(zAS ps k i))) iiz (fun e=>?_) (fun e=>?_)
    .refine lQ ?_
     exact rgE ((2,.u (uB false))::[]) s
      (oc zE<|zB) fun a w9 s=>pU<|wF s (t:=2) rfl (fun v W h=>by rw[zSN hi U e];exact h)
    .refine pV ?_
     refine zW 2 ((17,.Z (uI (k:Int)))::(18,.u (uI ((k+1:Nat):Int)))::[]) s kA
      (oc zA<|oc (yI .i64 (k:Int) 1 ((k+1:Nat):Int) iiz iiz (wrap64 _ _ oA oA))<|zB) fun a w10 s=>?_
     replace s:=s.drop [4]
     exact yO (uI ((k+1:Nat):Int)) rfl s kA iiz fun a w s=>zD rfl<|⟨k+1,⟨U,fun j I=>by rcases tU (tZ I)with h|h;exact J.2 j h;rw[h];exact e⟩,(by show i-(k+1)<i-k;omega),s.keepK _ (fmz ⟨mz4,fmz ⟨mz5,fmz ⟨.head _,fnz⟩⟩⟩)⟩
   .have U:k=i:=by have h7:=nH e;have h8:=J.1;omega
    refine tR<|zW 2 ((12,.Z (uI (i:Int)))::(13,.u (uI ((i+1:Nat):Int)))::[]) s kA
     (oc zA<|oc (yI .i64 (i:Int) 1 ((i+1:Nat):Int) iiz iiz (wrap64 _ _ oA oA))<|zB) fun a w11 s=>?_
    replace s:=s.drop [3]
    exact yO (uI ((i+1:Nat):Int)) rfl s kA iiz fun a w s=>zD rfl<|⟨i+1,⟨hi,fun j k I U=>by rcases tU (tZ I)with h|h;exact hc.2 j k h U;rw[h];exact J.2 k oA⟩,(by show ps.length-(i+1)<ps.length-i;omega),s.keepK _ (fmz ⟨mz3,fmz ⟨.head _,fnz⟩⟩)⟩
  .have hi:i=ps.length:=by have h7:=nH e;have h8:=J.1;simp at h7;omega
   exact tR<|rgQ ((2,.u (uB true))::[]) s
    (oc zE<|zB) fun a w12 s=>pU<|wF s (t:=2) rfl (fun v W h=>by rw[zPw h3 (fun j k I h9=>J.2 j k oA h9)];exact h)
theorem zWK{y:Rat}(h1:a.2<=y)(h2:y<b.2):∃X t:Rat,0<=t/\t<1/\(∀f:Aff,f.v (X,y)=f.v a*(1-t)+f.v b*t)/\∀x,crs a b (x,y)=(b.2-a.2)*(X-x):=by
 have I:0<b.2-a.2:=by grind
 have e:(y-a.2)/(b.2-a.2)*(b.2-a.2)=y-a.2:=rK (by grind)
 generalize(y-a.2)/(b.2-a.2)=t at e
 have J:0<=t:=by
  apply rD
  intro U
  have:=rC (show 0< -t by grind) I
  grind
 have O:t<1:=by
  apply rD
  intro U
  have:=rE (show 0<=t-1 by grind) (rG I)
  grind
 refine⟨a.1+(b.1-a.1)*t,t,J,O,fun f=>?_,fun x=>?_⟩
 .have hy:y=a.2+(b.2-a.2)*t:=by grind
  unfold Aff.v
  simp only
  rw[hy]
  grind
 .unfold crs
  simp only
  have:(b.1-a.1)*(y-a.2)=(b.1-a.1)*t*(b.2-a.2):=by rw[<-e];grind
  rw[this]
  grind
theorem zYt{u v t:Rat}(I:0<=u)(J:0<=v)(h0:0<=t)(h1:t<=1):0<=u*(1-t)+v*t:=by
 have k1:=rE I (show 0<=1-t by grind)
 have k2:=rE J h0
 grind
def nx(l:List V2)(k:Nat):Nat:=(k+1)%l.length
theorem zFA:(zBX a b p=1)↔0<crs a b p:=by
 unfold zBX
 have h:=@sD (crs a b p)
 have I:=@tV (crs a b p)
 rw[Int.sign_eq_one_iff_pos]
 constructor
 .intro k
  have O:=h.1 oA
  have J:crs a b p≠0:=fun e=>by have:=I.2 e;omega
  grind
 .intro k
  have O:=h.2 (rG k)
  have J:(crs a b p).num≠0:=fun e=>by have:=I.1 e;grind
  omega
theorem zCo:(zBX a b p=0)↔crs a b p=0:=by
 unfold zBX
 rw[Int.sign_eq_zero_iff_zero,tV]
theorem qle{p q:Rat}:qsg p q<=0↔p<=q:=by
 rcases zHp p q with e|e|e
 .rw[e];exact⟨fun _=>rG (zKH.1 e),fun _=>by decide⟩
 .rw[e];exact⟨fun _=>by rw[zCQ.1 e];exact rJ,fun _=>by decide⟩
 .rw[e];exact⟨fun h=>absurd h dA,fun h=>absurd (zKI.1 e) (Rat.not_lt.2 h)⟩
theorem qlt{p q:Rat}:qsg p q<0↔p<q:=by
 rcases zHp p q with e|e|e
 .rw[e];exact⟨fun _=>zKH.1 e,fun _=>by decide⟩
 .rw[e];exact⟨fun h=>absurd h dA,fun h=>by rw[zCQ.1 e]at h;exact absurd h (Rat.lt_irrefl)⟩
 .rw[e];exact⟨fun h=>absurd h dA,fun h=>absurd (zKI.1 e) (Rat.not_lt.2 (rG h))⟩
theorem zSb{a b r:Rat}(h:zWP a b r=true):(a<=r/\r<=b)∨(b<=r/\r<=a):=by
 unfold zWP zYr at h
 rw[xV,zZb]at h
 obtain⟨I,h2⟩:=h
 rcases zHp a r with e|e|e
 .have k:=zKH.1 e
  rw[e]at I
  have:qsg r b<=0:=by omega
  exact .inl ⟨rG k,qle.1 this⟩
 .have k:=zCQ.1 e
  rw[k]
  rcases(rL:r<=b∨b<=r)with q|q
  .exact .inl ⟨rJ,q⟩
  .exact .inr ⟨q,rJ⟩
 .have k:=zKI.1 e
  rw[e]at I
  have h1':0<=qsg r b:=by omega
  have:b<=r:=by
   rcases zHp r b with q|q|q
   .omega
   .rw[zCQ.1 q];exact rJ
   .exact rG (zKI.1 q)
  exact .inr ⟨this,rG k⟩
theorem zYJ(O:a≠b)(h:onB a b p=true):OnE a b p:=by
 unfold onB at h
 rw[xV,xV,bJ,zCo]at h
 obtain⟨⟨h0,h1⟩,h2⟩:=h
 have c1:=zSb h1
 have c2:=zSb h2
 have I:∀{d e n:Rat},d≠0->((0<=e/\e<=d)∨(d<=e/\e<=0))->∃t:Rat,0<=t/\t<=1/\d*t=e:=fun {d e n} hd hb=>by
  have q:e/d*d=e:=rK hd
  generalize e/d=t at q
  refine⟨t,?_,?_,by grind⟩
  .apply rD
   intro hx
   rcases(rL:0<=d∨d<=0)with k|k
   .have:=rC (show 0< -t by grind) (show 0<d by grind);grind
   .have:=rC (show 0< -t by grind) (show 0< -d by grind);grind
  .apply rD
   intro hx
   rcases(rL:0<=d∨d<=0)with k|k
   .have:=rC (show 0<t-1 by grind) (show 0<d by grind);grind
   .have:=rC (show 0<t-1 by grind) (show 0< -d by grind);grind
 unfold crs at h0
 by_cases e:b.1-a.1=0
 .have e2:b.2-a.2≠0:=fun e2=>O (rF (by grind) (by grind))
  obtain⟨t,J,U,t2⟩:=I (d:=b.2-a.2) (e:=p.2-a.2) (n:=0) e2 (by grind)
  exact⟨t,J,U,rF (by show p.1=_;grind) (by show p.2=_;grind)⟩
 .obtain⟨t,J,U,t2⟩:=I (d:=b.1-a.1) (e:=p.1-a.1) (n:=0) e (by grind)
  refine⟨t,J,U,rF (by show p.1=_;grind) ?_⟩
  show p.2=a.2+(b.2-a.2)*t
  rw[<-t2]at h0
  have:(b.1-a.1)*((p.2-a.2)-(b.2-a.2)*t)=0:=by grind
  rcases rI.1 this with k|k
  .exact absurd k e
  .grind
theorem zVq(h0:crs a b p=0)(h1:zJZ (p.1-a.1,p.2-a.2) (p.1-b.1,p.2-b.2)<=0):onS a b p=true:=by
 unfold onS
 rw[if_neg (by rw[h0];decide)]
 refine lI ?_
 have h:=@sD (zJZ (p.1-a.1,p.2-a.2) (p.1-b.1,p.2-b.2))
 have h0:=@tV (zJZ (p.1-a.1,p.2-a.2) (p.1-b.1,p.2-b.2))
 generalize zJZ (p.1-a.1,p.2-a.2) (p.1-b.1,p.2-b.2)=q at*
 rcases nV q.num 0 with k|k|k
 .rw[nU k];decide
 .rw[k];decide
 .exfalso
  have k1:=h.1 oA
  have:q=0:=by grind
  have:=h0.2 this
  omega
theorem zIK(h:OnE a b p):onS a b p=true:=by
 refine zVq h.crs ?_
 obtain⟨t,O,t1,rfl⟩:=h
 have J:=rE O (show 0<=1-t by grind)
 have I:∀x:Rat,0<=x*x:=fun x=>by
  rcases(rL:0<=x∨x<=0)with k|k
  .exact rE k k
  .have:=rE (show 0<=-x by grind) (show 0<=-x by grind);grind
 have k2:=rE J (show 0<=(b.1-a.1)*(b.1-a.1)+(b.2-a.2)*(b.2-a.2) by have:=I (b.1-a.1);have:=I (b.2-a.2);grind)
 unfold zJZ
 simp only
 grind
theorem zTD(a b:V2):OnE a b a:=⟨0,by decide,by decide,rF (by show a.1=a.1+(b.1-a.1)*0;grind) (by show a.2=a.2+(b.2-a.2)*0;grind)⟩
theorem zVr(a b:V2):OnE a b b:=⟨1,by decide,by decide,rF (by show b.1=a.1+(b.1-a.1)*1;grind) (by show b.2=a.2+(b.2-a.2)*1;grind)⟩
theorem zTt:L≠ []->zFL L p≠ []:=fun h=>by
 unfold zFL
 split
 .exact h
 .simp
theorem zQg(L:List V2)(p:V2):zFL L p≠ []:=by
 unfold zFL
 split
 .rename_i h
  rw[xV,zZb]at h
  intro e
  rw[e]at h
  exact absurd h.1 fC
 .simp
theorem zOy{a b c d:V2}:∀(n i:Nat),i<n->(onS a b (at_ [a,b,c,d] i)&&onS c d (at_ [a,b,c,d] i))=true->yM a b c d n≠ []
 | n+1,i,hi,h=>by
  show(if _ then _ else _)≠ []
  by_cases e:i=n
  .subst e
   rw[if_pos h]
   exact zQg _ _
  .have I:=zOy n i oA h
   split
   .exact zTt I
   .exact I
theorem zPC{c:V2}(he:a≠b)(I:zBG a b c d=0){z:V2}(h1:OnE a b z)(h2:OnE c d z):False:=by
 have hf:(pns (yM a b c d 4)).length=(yM a b c d 4).length:=by simp[pns]
 unfold zBG at I
 rw[hf]at I
 have hl: ¬(((yM a b c d 4).length:Int)≥2):=fun e=>by rw[if_pos e]at I;exact absurd I dA
 rw[if_neg hl]at I
 have U: ¬(((yM a b c d 4).length:Int)==1)=true:=fun e=>by rw[if_pos e]at I;exact absurd I dA
 rw[if_neg U]at I
 have hp: ¬((!(decide (dnm a b c d=0))&&onS a b (y6 a b c d))&&onS c d (y6 a b c d))=true:=fun e=>by rw[if_pos e]at I;exact absurd I dA
 have O:yM a b c d 4=[]:=by
  rw[bJ]at U
  exact xM oA
 have no:∀i,i<4-> ¬(OnE a b (at_ [a,b,c,d] i)/\OnE c d (at_ [a,b,c,d] i)):=fun i hi ⟨k1,k2⟩=>zOy 4 i hi (by rw[zIK k1,zIK k2];rfl) O
 have hz:=h2.crs
 by_cases hd:dnm a b c d=0
 .-- on one line
  have na:=no 0 oA
  have nb:=no 1 oA
  have nc:=no 2 oA
  have h5:=no 3 oA
  have hj: ¬OnE c d a:=fun k=>na ⟨zTD a b,k⟩
  have nb': ¬OnE c d b:=fun k=>nb ⟨zVr a b,k⟩
  have ha: ¬OnE a b c:=fun k=>nc ⟨k,zTD c d⟩
  have h9: ¬OnE a b d:=fun k=>h5 ⟨k,zVr c d⟩
  obtain⟨t,t0,t1,e1⟩:=h1
  obtain⟨s,s0,s1,e2⟩:=h2
  have u0:((b.1-a.1,b.2-a.2):V2)≠(0,0):=fun e=>he (by
   have q1:=vQ Prod.fst e
   have q2:=vQ Prod.snd e
   simp only at q1 q2
   exact rF (by grind) (by grind))
  have hN:=zUS u0
  simp only at hN
  generalize hN':(b.1-a.1)*(b.1-a.1)+(b.2-a.2)*(b.2-a.2)=N at hN
  -- places on the line, in parts of a-b
  have zx:z.1=a.1+(b.1-a.1)*t:=by rw[e1]
  have zy:z.2=a.2+(b.2-a.2)*t:=by rw[e1]
  have hg:z.1=c.1+(d.1-c.1)*s:=by rw[e2]
  have hh:z.2=c.2+(d.2-c.2)*s:=by rw[e2]
  unfold dnm at hd
  -- d-c is along b-a
  have h7:∃m:Rat,d.1-c.1=(b.1-a.1)*m/\d.2-c.2=(b.2-a.2)*m:=by
   have q:((d.1-c.1)*(b.1-a.1)+(d.2-c.2)*(b.2-a.2))/N*N=(d.1-c.1)*(b.1-a.1)+(d.2-c.2)*(b.2-a.2):=rK (by grind)
   generalize((d.1-c.1)*(b.1-a.1)+(d.2-c.2)*(b.2-a.2))/N=m at q
   have J:∀{x:Rat},x*N=0->x=0:=fun {x} hx=>by
    rcases rI.1 hx with k|k
    .exact k
    .grind
   refine⟨m,?_,?_⟩
   .have:(d.1-c.1-(b.1-a.1)*m)*N=0:=by
     have e:(b.1-a.1)*m*N=(b.1-a.1)*((d.1-c.1)*(b.1-a.1)+(d.2-c.2)*(b.2-a.2)):=by rw[<-q];grind
     have:(d.1-c.1-(b.1-a.1)*m)*N=(d.1-c.1)*N-(b.1-a.1)*m*N:=by grind
     rw[this,e,<-hN']
     grind
    have:=J this
    grind
   .have:(d.2-c.2-(b.2-a.2)*m)*N=0:=by
     have e:(b.2-a.2)*m*N=(b.2-a.2)*((d.1-c.1)*(b.1-a.1)+(d.2-c.2)*(b.2-a.2)):=by rw[<-q];grind
     have:(d.2-c.2-(b.2-a.2)*m)*N=(d.2-c.2)*N-(b.2-a.2)*m*N:=by grind
     rw[this,e,<-hN']
     grind
    have:=J this
    grind
  obtain⟨m,m1,m2⟩:=h7
  -- c at t-m s, d at t + m (1-s)
  have cx:c.1=a.1+(b.1-a.1)*(t-m*s):=by rw[m1]at hg;grind
  have cy:c.2=a.2+(b.2-a.2)*(t-m*s):=by rw[m2]at hh;grind
  have dx:d.1=a.1+(b.1-a.1)*(t-m*s+m):=by grind
  have dy:d.2=a.2+(b.2-a.2)*(t-m*s+m):=by grind
  have kc: ¬(0<=t-m*s/\t-m*s<=1):=fun k=>ha ⟨_,k.1,k.2,rF cx cy⟩
  have kd: ¬(0<=t-m*s+m/\t-m*s+m<=1):=fun k=>h9 ⟨_,k.1,k.2,rF dx dy⟩
  -- a at the part r of c-d
  have h8:∀x:Rat,((t-m*s<=x/\x<=t-m*s+m)∨(t-m*s+m<=x/\x<=t-m*s))->OnE c d (a.1+(b.1-a.1)*x,a.2+(b.2-a.2)*x):=fun x hx=>by
   by_cases hm:m=0
   .have:x=t-m*s:=by subst hm;grind
    rw[this]
    have:=zTD c d
    rwa [show c=(a.1+(b.1-a.1)*(t-m*s),a.2+(b.2-a.2)*(t-m*s))from rF cx cy]at this ⊢
   .have q:(x-(t-m*s))/m*m=x-(t-m*s):=rK hm
    generalize(x-(t-m*s))/m=r at q
    refine⟨r,?_,?_,rF (by show _=c.1+(d.1-c.1)*r;rw[m1,cx];grind) (by show _=c.2+(d.2-c.2)*r;rw[m2,cy];grind)⟩
    .apply rD
     intro hr
     rcases(rL:0<=m∨m<=0)with k|k
     .have:=rC (show 0< -r by grind) (show 0<m by grind);grind
     .have:=rC (show 0< -r by grind) (show 0< -m by grind);grind
    .apply rD
     intro hr
     rcases(rL:0<=m∨m<=0)with k|k
     .have:=rC (show 0<r-1 by grind) (show 0<m by grind);grind
     .have:=rC (show 0<r-1 by grind) (show 0< -m by grind);grind
  have onxa: ¬((t-m*s<=0/\0<=t-m*s+m)∨(t-m*s+m<=0/\0<=t-m*s)):=fun k=>hj (by
   have:=h8 0 k
   rwa [show((a.1+(b.1-a.1)*0,a.2+(b.2-a.2)*0):V2)=a from rF (by show a.1+_*0=a.1;grind) (by show a.2+_*0=a.2;grind)]at this)
  -- t lies between the two
  have bt:(t-m*s<=t/\t<=t-m*s+m)∨(t-m*s+m<=t/\t<=t-m*s):=by
   rcases(rL:0<=m∨m<=0)with k|k
   .have:=rE k s0
    have:=rE k (show 0<=1-s by grind)
    exact .inl ⟨by grind,by grind⟩
   .have:=rE (show 0<=-m by grind) s0
    have:=rE (show 0<=-m by grind) (show 0<=1-s by grind)
    exact .inr ⟨by grind,by grind⟩
  generalize t-m*s=x at*
  generalize x+m=y at*
  grind
 .-- the lines' one point
  obtain⟨t,t0,t1,e1⟩:=h1
  have e3:crs c d (seg a b t)=tnm a c d-t*dnm a b c d:=by
   unfold crs seg tnm dnm
   grind
  have e4:z=seg a b t:=e1
  rw[e4,e3]at hz
  have et:tnm a c d/dnm a b c d=t:=by
   rw[show tnm a c d=t*dnm a b c d by grind]
   rw[rW,Rat.mul_assoc,Rat.mul_inv_cancel _ hd,Rat.mul_one]
  have ez:y6 a b c d=z:=by
   unfold y6
   rw[if_neg hd,et,e4]
  refine hp ?_
  rw[ez,zIK ⟨t,t0,t1,e1⟩,zIK h2,xY hd]
  rfl
theorem zLt(h:p=q):(jZ p q==0)=true:=by
 subst h
 unfold jZ
 rw[if_pos (zCQ.2 rfl),zCQ.2 rfl]
 rfl
def zAL(l:List V2)(i:Nat):V6:=(at_ l ((i+l.length-1)%l.length),at_ l i,at_ l ((i+1)%l.length))
def zBi(t:V6):Int:=zBX t.1 t.2.1 t.2.2
def zMf(t:V6)(p:V2):Int:=min (zBX t.2.2 t.1 p) (min (zBX t.2.1 t.2.2 p) (min (zBX t.1 t.2.1 p) 1))
def zCw(l:List V2)(i:Nat):Nat:=(i+l.length-1)%l.length
def zDT(l:List V2)(i:Nat):Nat:=(i+1)%l.length
def zR8(l:List V2)(i k:Nat):Bool:=decide (k=i)||decide (k=zCw l i)||decide (k=zDT l i)||decide (zMf (zAL l i) (at_ l k)<0)
def zLq(l:List V2)(i:Nat):Bool:=(zBi (zAL l i)==1)&&(List.range l.length).all (zR8 l i)
def zHX(l:List V2):Option Nat:=(List.range l.length).find? fun i=>zBi (zAL l i)==0
def zR9(l:List V2):Option Nat:=(List.range l.length).find? (zLq l)
def zEX(l:List V2):List V6:=if l.length=3/\zBi (at_ l 0,at_ l 1,at_ l 2)=1 then[(at_ l 0,at_ l 1,at_ l 2)]else[]
def zJ1:Nat->List V2->Option (List V6)
 |0,_=>none
 | n+1,l=>if l.length<=3 then some (zEX l)else
  match zHX l with
  |some i=>zJ1 n (l.eraseIdx i)
  |none=>match zR9 l with
   |some i=>(zJ1 n (l.eraseIdx i)).map (zAL l i::·)
   |none=>none
theorem zJw{x:Rat}:x.num.sign<0↔x<0:=by
 have h:=@sD x
 have e:x.num.sign<0↔x.num<0:=by
  rcases nV x.num 0 with k|k|k
  .rw[nU k];exact⟨fun _=>k,fun _=>by decide⟩
  .rw[k];decide
  .rw[nW k];exact⟨fun q=>absurd q dA,fun q=>by omega⟩
 rw[e,<-Int.not_le,h,Rat.not_le]
theorem zFz:zBX a b p<0↔crs a b p<0:=zJw
theorem zOk:zMf t p<0↔crs t.1 t.2.1 p<0∨crs t.2.1 t.2.2 p<0∨crs t.2.2 t.1 p<0:=by
 unfold zMf
 rw[<-zFz,<-zFz,<-zFz]
 omega
theorem zUm(L:List V2)(a:V2):at_ (L++ [a]) L.length=a:=by
 unfold at_
 rw[rH]
 simp
theorem zGs(h3:3<=l.length){i:Nat}(hi:i<l.length):∃X Y b c a,l=X++at_ l i::Y/\Y++X=b::(c++ [a])/\zAL l i=(a,at_ l i,b)/\l.eraseIdx i=X++Y/\c.length+3=l.length:=by
 have e0:at_ l i=l[i]:=by unfold at_;rw[rH,nG hi];rfl
 have ed:l.drop i=l[i]::l.drop (i+1):=List.drop_eq_getElem_cons hi
 have el:l=l.take i++at_ l i::l.drop (i+1):=by rw[e0,<-ed,gA]
 have I:(l.drop (i+1)++l.take i).length=l.length-1:=by simp;omega
 cases hm:l.drop (i+1)++l.take i with
 |nil=>rw[hm]at I;simp at I;omega
 | cons b m=>
  rcases sG m with rfl|⟨c,a,rfl⟩
  .rw[hm]at I;simp at I;omega
  .have J:c.length+3=l.length:=by rw[hm]at I;simp at I;omega
   have hr:zCa l i=at_ l i::b::(c++ [a]):=by
    unfold zCa
    rw[ed,e0,mO,hm,sQ]
   have U:=zDC hi (i:=1) oA
   have O:=zDC hi (i:=l.length-1) oA
   rw[hr]at U O
   refine⟨l.take i,l.drop (i+1),b,c,a,el,by rw[hm,sQ],?_,zZa l i,J⟩
   unfold zAL
   refine rF ?_ (rF rfl ?_)
   .show at_ l ((i+l.length-1)%l.length)=a
    rw[show i+l.length-1=l.length-1+i by omega,<-O]
    rw[show l.length-1=(at_ l i::b::c).length by simp;omega]
    rw[show at_ l i::b::(c++ [a])=(at_ l i::b::c)++ [a] by simp]
    exact zUm _ a
   .show at_ l ((i+1)%l.length)=b
    rw[gJ i 1,<-U]
    rfl
theorem PO.at{X Y:List V2}{v:V2}{c:List V2}(h:PO (X++v::Y))(e:Y++X=b::(c++ [a])):PO (v::b::(c++ [a])):=by
 have:=h.rot
 rw[mO,e]at this
 exact this
theorem zWn(h:PO l){i:Nat}(hi:i<l.length)(O:zLq l i=true):EarP l (zAL l i).1 (at_ l i) (zAL l i).2.2:=by
 have h3:=h.sim.three
 obtain⟨X,Y,b,c,a,el,em,I,_,_⟩:=zGs h3 hi
 unfold zLq at O
 rw[xV,bJ,xR]at O
 obtain⟨U,h2⟩:=O
 have J:=zAO X (at_ l i::Y)
 rw[<-el,mO,em]at J
 rw[I]at U ⊢
 refine⟨J.mem_iff.1 zAi.1,J.mem_iff.1 zAi.2,zFA.1 U,fun u hu ua uv ub=>?_⟩
 obtain⟨k,hk,rfl⟩:=zFX hu
 have:=h2 k (xT.2 hk)
 unfold zR8 at this
 have k1:k≠i:=fun e=>uv (by rw[e])
 have k2:k≠zCw l i:=fun e=>ua (by rw[e];exact vQ (·.1) I)
 have k3:k≠zDT l i:=fun e=>ub (by rw[e];exact vQ (·.2.2) I)
 rw[xY k1,xY k2,xY k3,cR,cR,cR,cE,zOk,I]at this
 exact this
theorem zWm(h:PO l){i:Nat}(hi:i<l.length){a b:V2}(O:EarP l a (at_ l i) b):zLq l i=true:=by
 have h3:=h.sim.three
 obtain⟨X,Y,b',c,a',el,em,J,_,_⟩:=zGs h3 hi
 have U:=zAO X (at_ l i::Y)
 rw[<-el,mO,em]at U
 have ea:a=a':=vQ Prod.fst (h.sim.snd O.i (U.mem_iff.1 zAi.1) rfl)
 have eb:b=b':=vQ Prod.snd (h.sim.fst O.o (U.mem_iff.1 zAi.2) rfl)
 subst ea eb
 unfold zLq
 rw[xV,bJ,xR,J]
 refine⟨zFA.2 O.pos,fun k I=>?_⟩
 have I:=xT.1 I
 unfold zR8
 have hb:zCw l i<l.length:=vW _ oA
 have hh:zDT l i<l.length:=vW _ oA
 have e1:at_ l (zCw l i)=a:=vQ (·.1) J
 have e2:at_ l (zDT l i)=b:=vQ (·.2.2) J
 by_cases k1:k=i
 .simp[k1]
 .by_cases k2:k=zCw l i
  .simp[k2]
  .by_cases k3:k=zDT l i
   .simp[k3]
   .have:zMf (zAL l i) (at_ l k)<0:=by
     rw[zOk,J]
     exact O.out _ (zA7 I) (fun e=>k2 (zJc h.sim.nod I hb (e.trans e1.symm))) (fun e=>k1 (zJc h.sim.nod I hi e)) (fun e=>k3 (zJc h.sim.nod I hh (e.trans e2.symm)))
    simp[this]
theorem zFt{E F:List (V2×V2)}(h:E.Perm F)(g:V2×V2->Rat):(E.map g).sum=(F.map g).sum:=by
 induction h with
 |nil=>rfl
 |cons x _ ih=>simp[ih]
 |swap x y l=>simp only[xX,nI];grind
 |trans _ _ ih1 ih2=>exact ih1.trans ih2
def crd(e:V2×V2):Rat:=e.1.1*e.2.2-e.1.2*e.2.1
def arE(l:List V2):Rat:=((eds l).map crd).sum
theorem zSi(v b a:V2)(c:List V2):arE (v::b::(c++ [a]))=arE (b::(c++ [a]))+crs a v b:=by
 unfold arE
 rw[zAA,qT]
 simp only[xX,rR,bV,nI,sI,nP]
 unfold crd crs
 simp only
 grind
def zDR(l:List V2)(u:V2):Prop:=∃p q,(p,u)∈eds l/\(u,q)∈eds l/\crs p u q=0
open Classical in
noncomputable def flN(l:List V2):Nat:=l.countP fun u=>decide (zDR l u)
theorem zDR.perm(h:(eds l).Perm (eds l')){u:V2}:zDR l u↔zDR l' u:=by
 unfold zDR
 simp only[h.mem_iff]
theorem zLl(I:l.Perm l')(h:(eds l).Perm (eds l')):flN l=flN l':=by
 unfold flN
 rw[I.countP_eq]
 congr 1
 funext u
 rw[rS]
 exact zDR.perm h
theorem zOp{v:V2}{c:List V2}(h:Sim (v::b::(c++ [a])))(h0:crs a v b=0):flN (v::b::(c++ [a]))<=flN (b::(c++ [a]))+1:=by
 have h1:((a,v):V2×V2)∈eds (v::b::(c++ [a])):=zAi.1
 have h2:((v,b):V2×V2)∈eds (v::b::(c++ [a])):=zAi.2
 obtain⟨t,t0,t1,hv⟩:=h.turns h1 h2 h0
 have v1:v.1=a.1+(b.1-a.1)*t:=by rw[hv];rfl
 have v2:v.2=a.2+(b.2-a.2)*t:=by rw[hv];rfl
 unfold flN
 rw[zZc]
 have keep:∀u,u∈b::(c++ [a])->zDR (v::b::(c++ [a])) u->zDR (b::(c++ [a])) u:=by
  rintro u hu ⟨p,q,U,hq,h7⟩
  have uv:u≠v:=fun e=>(bX.1 h.nod).1 (by rw[<-e];exact hu)
  rw[zAA]at U hq
  have ei:∃I,(I,u)∈eds (b::(c++ [a]))/\(crs p u q=0->crs I u q=0):=by
   rcases xS.1 U with k|k
   .have e1:p=v:=vQ Prod.fst k
    have e2:u=b:=vQ Prod.snd k
    subst e1 e2
    refine⟨a,by rw[qT];simp,fun J=>?_⟩
    have:crs p u q=(1-t)*crs a u q:=by unfold crs;rw[v1,v2];grind
    rw[J]at this
    rcases rI.1 this.symm with r|r
    .grind
    .exact r
   .rcases vV.1 k with k|k
    .exact⟨p,by rw[qT];simp[k],fun J=>J⟩
    .exact absurd (vQ Prod.snd (show((p,u):V2×V2)=(a,v) by simpa using k)) uv
  obtain⟨I,O,h4⟩:=ei
  have J:=h4 h7
  rcases xS.1 hq with k|k
  .exact absurd (vQ Prod.fst k) uv
  .rcases vV.1 k with k|k
   .exact⟨I,q,O,by rw[qT];simp[k],J⟩
   .have e1:u=a:=vQ Prod.fst (show((u,q):V2×V2)=(a,v) by simpa using k)
    have e2:q=v:=vQ Prod.snd (show((u,q):V2×V2)=(a,v) by simpa using k)
    subst e1 e2
    refine⟨I,b,O,by rw[qT];simp,?_⟩
    have:crs I u q=t*crs I u b:=by unfold crs;rw[v1,v2];grind
    rw[J]at this
    rcases rI.1 this.symm with r|r
    .grind
    .exact r
 have:=List.countP_mono_left (l:=b::(c++ [a])) (p:=fun u=>@decide (zDR (v::b::(c++ [a])) u) (Classical.propDecidable _)) (q:=fun u=>@decide (zDR (b::(c++ [a])) u) (Classical.propDecidable _)) (fun u hu U=>by
  simp only[cE]at U ⊢
  exact keep u hu U)
 have h5:(if(@decide (zDR (v::b::(c++ [a])) v) (Classical.propDecidable _))=true then 1 else 0)<=1:=by split<;>omega
 omega
structure DoneS(l:List V2)(T:List V6):Prop where
 len:T.length+2+flN l<=l.length
 ne:0<T.length
 pos:∀t,t∈T->0<crs t.1 t.2.1 t.2.2
 cor:∀t,t∈T->t.1∈l/\t.2.1∈l/\t.2.2∈l
 area:(T.map fun t=>crs t.1 t.2.1 t.2.2).sum=arE l
theorem DoneS.perm{T:List V6}(h:DoneS l T)(I:l.Perm l')(J:(eds l).Perm (eds l')):DoneS l' T where
 len:=by rw[<-I.length_eq,<-zLl I J];exact h.len
 ne:=h.ne
 pos:=h.pos
 cor t ht:=by have:=h.cor t ht;exact⟨I.mem_iff.1 this.1,I.mem_iff.1 this.2.1,I.mem_iff.1 this.2.2⟩
 area:=by rw[h.area];exact zFt J _
theorem zJ0{r:V2}(h:PO [p,q,r]):0<crs p q r/\DoneS [p,q,r] [(p,q,r)]:=by
 have hs:=h.sim
 have ee:eds [p,q,r]=zEu p q r:=rfl
 have hn:=hs.nod
 have h0:p≠q:=fun e=>by subst e;simp at hn
 have U:p≠r:=fun e=>by subst e;simp at hn
 have O:q≠r:=fun e=>by subst e;simp at hn
 have c1:crs q r p=crs p q r:=by unfold crs;grind
 have c2:crs r p q=crs p q r:=by unfold crs;grind
 have I:∀a v b,(a,v)∈zEu p q r->(v,b)∈zEu p q r->crs a v b=crs p q r:=by
  intro a v b h1 h2
  unfold zEu at h1 h2
  simp only[xS,tM,rO,rN]at h1 h2
  rcases h1 with⟨rfl,rfl⟩|⟨rfl,rfl⟩|⟨rfl,rfl⟩<;>rcases h2 with⟨J,k2⟩|⟨J,k2⟩|⟨J,k2⟩
  .exact absurd J.symm h0
  .rw[k2]
  .exact absurd J O
  .exact absurd J.symm U
  .exact absurd J.symm O
  .rw[k2,c1]
  .rw[k2,c2]
  .exact absurd J h0
  .exact absurd J U
 have hD:0<crs p q r:=by
  obtain⟨a,v,b,_,_,he⟩:=zLp 3 [p,q,r] fC h (p,q) (by rw[ee];simp[zEu])
  rw[<-I a v b (by rw[<-ee];exact he.i) (by rw[<-ee];exact he.o)]
  exact he.pos
 refine⟨hD,?_,by simp,fun t ht=>?_,fun t ht=>?_,?_⟩
 .have:flN [p,q,r]=0:=by
   unfold flN
   rw[fY]
   intro u hu
   simp only[cE]
   rintro⟨x,y,hx,hy,hz⟩
   rw[I x u y hx hy]at hz
   grind
  simp[this]
 .obtain rfl:t=(p,q,r):=by simpa using ht
  exact hD
 .obtain rfl:t=(p,q,r):=by simpa using ht
  simp
 .unfold arE
  rw[ee]
  unfold zEu crd
  simp only[xX,bV,nI,nP]
  unfold crs
  grind
theorem zL8{v:V2}{c:List V2}(h:PO (v::b::(c++ [a])))(_hc:c≠ [])(h0:crs a v b=0){T:List V6}(I:DoneS (b::(c++ [a])) T):DoneS (v::b::(c++ [a])) T:=by
 refine⟨?_,I.ne,I.pos,fun t ht=>?_,?_⟩
 .have:=I.len
  have:=zOp h.sim h0
  simp only[lW]at*
  omega
 .have:=I.cor t ht
  exact⟨.tail _ this.1,.tail _ this.2.1,.tail _ this.2.2⟩
 .rw[I.area,zSi,h0]
  grind
theorem zOL{v:V2}{c:List V2}(_h:PO (v::b::(c++ [a])))(_hc:c≠ [])(J:EarP (v::b::(c++ [a])) a v b)(hf:flN (v::b::(c++ [a]))=0){T:List V6}(I:DoneS (b::(c++ [a])) T):DoneS (v::b::(c++ [a])) ((a,v,b)::T):=by
 refine⟨?_,by simp,fun t ht=>?_,fun t ht=>?_,?_⟩
 .have:=I.len
  simp only[lW]at*
  omega
 .rcases xS.1 ht with rfl|ht
  .exact J.pos
  .exact I.pos t ht
 .rcases xS.1 ht with rfl|ht
  .simp
  .have:=I.cor t ht
   exact⟨.tail _ this.1,.tail _ this.2.1,.tail _ this.2.2⟩
 .rw[xX,nI,I.area,zSi]
  grind
theorem zEl:∀(n:Nat) (l:List V2),l.length<=n->PO l->∃T,zJ1 n l=some T/\DoneS l T
 |0,l,hn,h=>by have:=h.sim.three;omega
 | n+1,l,hn,h=>by
  have h3:=h.sim.three
  by_cases hl:l.length<=3
  .unfold zJ1
   rw[if_pos hl]
   match l,h3,hl with
   | [p,q,r],_,_=>
    obtain⟨hD,hd⟩:=zJ0 h
    refine⟨_,rfl,?_⟩
    have:zEX [p,q,r]=[(p,q,r)]:=by
     unfold zEX
     rw[if_pos ⟨rfl,zFA.2 hD⟩]
     rfl
    rw[this]
    exact hd
  .unfold zJ1
   rw[if_neg hl]
   cases hf:zHX l with
   |some i=>
    have hi:i<l.length:=xT.1 (tT hf)
    have ht:=List.find?_some hf
    simp only[bJ]at ht
    obtain⟨X,Y,b,c,a,el,O,et,ee,hc⟩:=zGs h3 hi
    have J:c≠ []:=fun e=>by rw[e]at hc;simp at hc;omega
    rw[et]at ht
    have h0:crs a (at_ l i) b=0:=zCo.1 ht
    have hP:PO (at_ l i::b::(c++ [a])):=PO.at (by rw[<-el];exact h) O
    have h6:PO (X++Y):=PO.rot (by rw[O];exact(hP.flat J h0).1)
    simp only
    rw[ee]
    obtain⟨T,e1,hT⟩:=zEl n (X++Y) (by rw[<-ee,zHS hi];omega) h6
    refine⟨T,e1,?_⟩
    have d1:DoneS (b::(c++ [a])) T:=by rw[<-O];exact hT.perm rQ (zAO Y X)
    have d2:=zL8 hP J h0 d1
    have hp:=zAO X (at_ l i::Y)
    have I:(X++at_ l i::Y).Perm (at_ l i::Y++X):=rQ
    rw[<-el,mO,O]at hp I
    exact d2.perm I.symm hp
   | none=>
    have hA:∃i,i<l.length/\zLq l i=true:=by
     obtain⟨v0,hy⟩:∃v,v∈l:=by
      match l,h3 with
      |a::_,_=>exact⟨a,by simp⟩
     obtain⟨x,y,h1,_⟩:=h.sim.at_corner hy
     obtain⟨a,v,b,_,_,U⟩:=zLp l.length l lr h _ h1
     obtain⟨i,hi,e⟩:=zFX (zB2 U.i).2
     have e':v=at_ l i:=e.symm
     rw[e']at U
     exact⟨i,hi,zWm h hi U⟩
    cases hg:zR9 l with
    |none=>
     obtain⟨i,hi,U⟩:=hA
     exact absurd U (by simpa using tX.1 hg i (xT.2 hi))
    | some i=>
     have hi:i<l.length:=xT.1 (tT hg)
     have U:=zWn h hi (List.find?_some hg)
     obtain⟨X,Y,b,c,a,el,O,et,ee,hc⟩:=zGs h3 hi
     have J:c≠ []:=fun e=>by rw[e]at hc;simp at hc;omega
     rw[et]at U
     have hp:=zAO X (at_ l i::Y)
     have I:(X++at_ l i::Y).Perm (at_ l i::Y++X):=rQ
     rw[<-el,mO,O]at hp I
     have hP:PO (at_ l i::b::(c++ [a])):=PO.at (by rw[<-el];exact h) O
     have h9:=U.of_perm I hp.symm
     have h6:PO (X++Y):=PO.rot (by rw[O];exact(hP.cut J h9).1)
     simp only
     rw[ee]
     obtain⟨T,e1,hT⟩:=zEl n (X++Y) (by rw[<-ee,zHS hi];omega) h6
     refine⟨(a,at_ l i,b)::T,by rw[e1,et];rfl,?_⟩
     have d1:DoneS (b::(c++ [a])) T:=by rw[<-O];exact hT.perm rQ (zAO Y X)
     have hC:flN l=0:=by
      unfold flN
      rw[fY]
      intro u hu
      simp only[cE]
      rintro⟨p,q,ho,hw,hz⟩
      obtain⟨j,hj,rfl⟩:=zFX hu
      obtain⟨X',Y',b',c',a',hB,hr,hm,_,_⟩:=zGs h3 hj
      have h4:=zAO X' (at_ l j::Y')
      rw[<-hB,mO,hr]at h4
      have ea:p=a':=vQ Prod.fst (h.sim.snd ho (h4.mem_iff.1 zAi.1) rfl)
      have eb:q=b':=vQ Prod.snd (h.sim.fst hw (h4.mem_iff.1 zAi.2) rfl)
      have:=tX.1 hf j (xT.2 hj)
      rw[hm,<-ea,<-eb]at this
      exact this (by rw[bJ];exact zCo.2 hz)
     have d2:=zOL hP J h9 (by rw[<-zLl I hp.symm];exact hC) d1
     exact d2.perm I.symm hp
theorem zYU(h:jZ p q=0):p=q:=by
 unfold jZ at h
 split at h
 .rename_i I;exact rF (zCQ.1 I) (zCQ.1 h)
 .rename_i I;exact absurd h I
theorem zTu(L:List V2)(p:V2):p∈zFL L p:=by
 unfold zFL
 split
 .rename_i h
  rw[xV,zZb,bJ]at h
  rw[<-zYU h.2]
  exact zA7 h.1
 .simp
theorem zQf{x:V2}(h:x∈L):x∈zFL L p:=by
 unfold zFL
 split
 .exact h
 .rw[<-gA (zNu L p) L]at h
  rcases vV.1 h with k|k
  .simp[k]
  .simp[k]
theorem zJX{a b c d:V2}:∀(n i:Nat),i<n->(onS a b (at_ [a,b,c,d] i)&&onS c d (at_ [a,b,c,d] i))=true->at_ [a,b,c,d] i∈yM a b c d n
 | n+1,i,hi,h=>by
  by_cases e:i=n
  .subst e
   rw[zJY h]
   exact zTu _ _
  .have I:=zJX n i oA h
   cases hc:onS a b (at_ [a,b,c,d] n)&&onS c d (at_ [a,b,c,d] n)with
   |true=>rw[zJY hc];exact zQf I
   |false=>rw[zOz hc];exact I
theorem zSx{x y:V2}(O:x∈L)(J:y∈L)(I:x≠y):2<=L.length:=by
 match L,O,J with
 | [z],O,J=>exact absurd ((tS.1 O).trans (tS.1 J).symm) I
 |_::_::_,_,_=>simp
theorem zG8{c:V2}(J:zBG a b c d=1){i j:Nat}(hi:i<4)(hj:j<4)(h1:OnE a b (at_ [a,b,c,d] i))(h2:OnE c d (at_ [a,b,c,d] i))(h3:OnE a b (at_ [a,b,c,d] j))(h4:OnE c d (at_ [a,b,c,d] j)):at_ [a,b,c,d] i=at_ [a,b,c,d] j:=by
 apply rD
 intro I
 have U:=zJX 4 i hi (by rw[zIK h1,zIK h2];rfl)
 have m2:=zJX 4 j hj (by rw[zIK h3,zIK h4];rfl)
 have hl:=zSx U m2 I
 have O:(pns (yM a b c d 4)).length=(yM a b c d 4).length:=by simp[pns]
 unfold zBG at J
 rw[O,if_pos oA]at J
 exact absurd J dA
theorem zVE{v z:V2}(h1:OnE a v z)(h2:OnE v b z)(hz:z≠v):OnE a v b∨OnE v b a:=by
 apply rD
 intro U
 obtain⟨t,t0,t1,e1⟩:=h1
 obtain⟨r,r0,r1,e2⟩:=h2
 have x1:z.1=a.1+(v.1-a.1)*t:=by rw[e1]
 have x2:z.2=a.2+(v.2-a.2)*t:=by rw[e1]
 have y1:z.1=v.1+(b.1-v.1)*r:=by rw[e2]
 have y2:z.2=v.2+(b.2-v.2)*r:=by rw[e2]
 have hr:0<r:=by
  apply rD
  intro h
  have:r=0:=by grind
  subst this
  exact hz (rF (by grind) (by grind))
 have ht:t<1:=by
  apply rD
  intro h
  have:t=1:=by grind
  subst this
  exact hz (rF (by grind) (by grind))
 have O:crs a v b=0:=by
  have:crs a v b*r=crs a v z:=by unfold crs;rw[y1,y2];grind
  have k:crs a v z=0:=by unfold crs;rw[x1,x2];grind
  rw[k]at this
  rcases rI.1 this with q|q<;>grind
 have c1:crs v b a=0:=by rw[<-O];unfold crs;grind
 -- b-v and a-v point the same way
 have J:(b.1-v.1)*r=(a.1-v.1)*(1-t):=by grind
 have q2:(b.2-v.2)*r=(a.2-v.2)*(1-t):=by grind
 have n1:0<(b.1-a.1)*(b.1-v.1)+(b.2-a.2)*(b.2-v.2):=by
  apply rD
  intro h
  exact U (.inl (zGH O (by grind)))
 have n2:0<(a.1-v.1)*(a.1-b.1)+(a.2-v.2)*(a.2-b.2):=by
  apply rD
  intro h
  exact U (.inr (zGH c1 (by grind)))
 have s:0<1-t:=by grind
 rcases(rL:r<=1-t∨1-t<=r)with k|k
 .-- a is nearer
  have m:=rC n2 hr
  have e:((a.1-v.1)*(a.1-b.1)+(a.2-v.2)*(a.2-b.2))*r= -(((1-t)-r)*((a.1-v.1)*(a.1-v.1)+(a.2-v.2)*(a.2-v.2))):=by
   have:((a.1-v.1)*(a.1-b.1)+(a.2-v.2)*(a.2-b.2))*r=(a.1-v.1)*((a.1-v.1)*r-(b.1-v.1)*r)+(a.2-v.2)*((a.2-v.2)*r-(b.2-v.2)*r):=by grind
   rw[this,J,q2];grind
  have I:0<=(a.1-v.1)*(a.1-v.1)+(a.2-v.2)*(a.2-v.2):=by
   by_cases h:((a.1-v.1,a.2-v.2):V2)=(0,0)
   .have h1:=vQ Prod.fst h;have h2:=vQ Prod.snd h
    simp only at h1 h2
    rw[h1,h2];grind
   .exact rG (zDF h)
  have:=rE (show 0<=(1-t)-r by grind) I
  grind
 .have m:=rC n1 s
  have e:((b.1-a.1)*(b.1-v.1)+(b.2-a.2)*(b.2-v.2))*(1-t)= -((r-(1-t))*((b.1-v.1)*(b.1-v.1)+(b.2-v.2)*(b.2-v.2))):=by
   have:((b.1-a.1)*(b.1-v.1)+(b.2-a.2)*(b.2-v.2))*(1-t)=(b.1-v.1)*((b.1-v.1)*(1-t)-(a.1-v.1)*(1-t))+(b.2-v.2)*((b.2-v.2)*(1-t)-(a.2-v.2)*(1-t)):=by grind
   rw[this,<-J,<-q2];grind
  have I:0<=(b.1-v.1)*(b.1-v.1)+(b.2-v.2)*(b.2-v.2):=by
   by_cases h:((b.1-v.1,b.2-v.2):V2)=(0,0)
   .have h1:=vQ Prod.fst h;have h2:=vQ Prod.snd h
    simp only at h1 h2
    rw[h1,h2];grind
   .exact rG (zDF h)
  have:=rE (show 0<=r-(1-t) by grind) I
  grind
theorem zSQ{v:V2}(O:zBG a v v b=1)(I:a≠v)(J:v≠b){z:V2}(h1:OnE a v z)(h2:OnE v b z):z=v:=by
 apply rD
 intro U
 rcases zVE h1 h2 U with k|k
 .exact J (zG8 O (i:=1) (j:=3) dA dA (zK1 a v) (zH7 v b) k (zK1 v b))
 .exact I (zG8 O (i:=0) (j:=1) dA dA (zH7 a v) k (zK1 a v) (zH7 v b))
theorem zPB{v:V2}(O:zBG v b a v=1)(I:a≠v)(J:v≠b){z:V2}(h1:OnE v b z)(h2:OnE a v z):z=v:=by
 apply rD
 intro U
 rcases zVE h2 h1 U with k|k
 .exact J (zG8 O (i:=0) (j:=1) dA dA (zH7 v b) (zK1 a v) (zK1 v b) k)
 .exact I (zG8 O (i:=2) (j:=3) dA dA k (zH7 a v) (zH7 v b) (zK1 a v))
theorem zEk(l:List V2):eds l=(List.range l.length).map fun i=>(at_ l i,at_ l ((i+1)%l.length)):=by
 cases l with
 |nil=>rfl
 | cons a t=>
  refine gG ?_ fun i J h2=>?_
  .have:=vQ List.length (zH1 (a::t))
   simp only[bC]at this
   simp[this]
  .have I:i<(a::t).length:=by simpa using h2
   rw[tH,tI]
   have U:(eds (a::t))[i].1=(a::t)[i]:=by
    have:=tH (l:=eds (a::t)) (f:=(·.1)) (i:=i) (h:=by rw[bC];exact J)
    rw[<-this]
    exact List.getElem_of_eq (zH1 (a::t)) _
   have O:(eds (a::t))[i].2=(t++ [a])[i]'(by simp at I ⊢;omega):=by
    have:=tH (l:=eds (a::t)) (f:=(·.2)) (i:=i) (h:=by rw[bC];exact J)
    rw[<-this]
    exact List.getElem_of_eq (zOE a t) _
   refine rF ?_ ?_
   .rw[U]
    unfold at_
    rw[rH,nG I];rfl
   .rw[O]
    simp only[lW]at I ⊢
    rcases bF (i+1) (t.length+1)with k|k
    .rw[uC k,List.getElem_append_left oA]
     unfold at_
     rw[rH,nG (by simp;omega)];rfl
    .have:i=t.length:=by omega
     subst this
     rw[zY8]
     simp[at_]
theorem zR7{e:V2×V2}(h:e∈eds l):∃i,i<l.length/\e=(at_ l i,at_ l ((i+1)%l.length)):=by
 rw[zEk]at h
 obtain⟨i,hi,rfl⟩:=xG.1 h
 exact⟨i,xT.1 hi,rfl⟩
theorem zK6(h:∀i k,k<i->i<l.length->at_ l i≠at_ l k):l.Nodup:=by
 rw[List.nodup_iff_pairwise_ne,List.pairwise_iff_getElem]
 intro i j hi J I e
 have:=h j i I J
 unfold at_ at this
 rw[rH,rH,nG hi,nG J]at this
 exact this e.symm
theorem zPx(h:zDz l=true):Sim l:=by
 unfold zDz at h
 rw[xV,zZb,xR]at h
 obtain⟨h3,h⟩:=h
 have I:∀i k,k<i->i<l.length->(jZ (at_ l i) (at_ l k)==0)=false/\zAS l k i=true:=fun i k U hi=>by
  have:=xR.1 (h i (xT.2 hi)) k (xT.2 U)
  unfold zQP at this
  rw[cX,fZ,Bool.not_eq_false']at this
  exact this
 have ne:∀i k,i<l.length->k<l.length->i≠k->at_ l i≠at_ l k:=fun i k hi U h6 e=>by
  rcases Nat.lt_or_gt_of_ne h6 with q|q
  .have:=(I k i q U).1
   rw[zLt e.symm]at this
   exact absurd this dA
  .have:=(I i k q hi).1
   rw[zLt e]at this
   exact absurd this dA
 have J:∀k,k<l.length->(k+1)%l.length=if k+1=l.length then 0 else k+1:=fun k U=>by
  split
  .rename_i e;rw[e,zY8]
  .exact uC oA
 have ap:∀k i,k<i->i<l.length->∀z,OnE (at_ l k) (at_ l ((k+1)%l.length)) z->OnE (at_ l i) (at_ l ((i+1)%l.length)) z->(z=at_ l ((k+1)%l.length)/\z=at_ l i)∨(z=at_ l k/\z=at_ l ((i+1)%l.length)):=fun k i h7 hi z o1 O=>by
  have:=(I i k h7 hi).2
  unfold zAS at this
  have nk:at_ l k≠at_ l ((k+1)%l.length):=ne k _ oA (vW _ oA) (by rw[J k oA];split<;>omega)
  have ni:at_ l i≠at_ l ((i+1)%l.length):=ne i _ hi (vW _ oA) (by rw[J i hi];split<;>omega)
  by_cases c1:i=k+1
  .left
   rw[if_pos (.inl c1),bJ]at this
   have e:(k+1)%l.length=i:=by rw[J k oA];split<;>omega
   rw[e]at this nk o1 ⊢
   have:=zSQ this nk ni o1 O
   exact⟨this,this⟩
  .by_cases c2:k=0/\i=l.length-1
   .right
    rw[if_pos (.inr c2),bJ]at this
    have e:(i+1)%l.length=k:=by rw[J i hi];split<;>omega
    rw[e]at this ni O ⊢
    have:=zPB this ni nk o1 O
    exact⟨this,this⟩
   .exfalso
    rw[if_neg (fun c=>c.elim c1 c2),bJ]at this
    exact zPC nk this o1 O
 refine⟨h3,zK6 fun i k U hi=>ne i k hi oA oA,fun e f he hf h5 z o1 O=>?_⟩
 obtain⟨i,hi,rfl⟩:=zR7 he
 obtain⟨k,U,rfl⟩:=zR7 hf
 rcases(by omega:i<k∨k<i∨i=k)with q|q|q
 .exact ap i k q U z o1 O
 .rcases ap k i q hi z O o1 with r|r
  .exact .inr ⟨r.2,r.1⟩
  .exact .inl ⟨r.2,r.1⟩
 .subst q;exact absurd rfl h5
/-! Turned about. -/
def swp(e:V2×V2):V2×V2:=(e.2,e.1)
theorem zEL(l:List V2):(eds (zAX l)).Perm ((eds l).map swp):=by
 rw[zEk,zEk,qX]
 have e:(List.range l.length).map (fun i=>(at_ (zAX l) i,at_ (zAX l) ((i+1)%l.length)))=((List.range l.length).map fun i=>swp (at_ l i,at_ l ((i+1)%l.length))).reverse:=by
  refine gG fC fun i I h2=>?_
  have hi:i<l.length:=by simpa using I
  have:=zPP hi
  rw[qX]at this
  rw[tH,tI,this.1,this.2,List.getElem_reverse,tH,tI]
  simp[swp]
 rw[e,List.map_map]
 exact List.reverse_perm _
theorem zN0(l:List V2)(x:V2):x∈zAX l↔x∈l:=by
 constructor
 .intro h
  obtain⟨i,hi,rfl⟩:=zFX h
  rw[qX]at hi
  rw[zDe hi]
  exact zA7 (vW _ oA)
 .intro h
  obtain⟨i,hi,rfl⟩:=zFX h
  have I:(l.length-i)%l.length<l.length:=vW _ oA
  have:=zDe I
  have e:(l.length-(l.length-i)%l.length)%l.length=i:=by
   by_cases k:i=0
   .subst k;rw[pI,zY8,pI,zY8]
   .rw[uC (show l.length-i<l.length by omega),show l.length-(l.length-i)=i by omega,uC hi]
  rw[e]at this
  rw[<-this]
  exact zA7 (by rw[qX];exact I)
theorem zFF(h:l.Nodup):(zAX l).Nodup:=zK6 fun i k hk hi e=>by
 rw[qX]at hi
 rw[zDe hi,zDe oA]at e
 have:=zJc h (vW _ oA) (vW _ oA) e
 by_cases k0:k=0
 .subst k0
  rw[pI,zY8,uC (show l.length-i<l.length by omega)]at this
  omega
 .rw[uC (show l.length-i<l.length by omega),uC (show l.length-k<l.length by omega)]at this
  omega
theorem Sim.rev(h:Sim l):Sim (zAX l):=by
 refine⟨by rw[qX];exact h.three,zFF h.nod,fun e f he U J z o1 o2=>?_⟩
 obtain⟨e',I,rfl⟩:=xG.1 ((zEL l).mem_iff.1 he)
 obtain⟨f',O,rfl⟩:=xG.1 ((zEL l).mem_iff.1 U)
 rcases h.meet e' f' I O (fun k=>J (by rw[k])) z (OnE.symm o1) (OnE.symm o2)with q|q
 .exact .inr q
 .exact .inl q
theorem zUE(l:List V2)(p:V2):wE (eds (zAX l)) p= -wE (eds l) p:=by
 rw[zJj (zEL l)]
 generalize eds l=E
 induction E with
 |nil=>rfl
 |cons e E ih=>
  rw[xX,zCi,zCi,ih]
  have:=zDd e.1 e.2 p
  show cI (e.2,e.1) p+_=_
  rw[this]
  show -cI e p+_=_
  omega
theorem zSh(l:List V2):arE (zAX l)= -arE l:=by
 unfold arE
 rw[zFt (zEL l)]
 generalize eds l=E
 induction E with
 |nil=>simp
 |cons e E ih=>
  simp only[xX,nI]at ih ⊢
  rw[ih]
  unfold crd swp
  simp only
  grind
theorem zKt{e:V2×V2}{s:Rat}{k:Int}(h:zDf (eds l) e (-s) k):zDf (eds (zAX l)) (swp e) s (-k):=fun t t0 t1=>by
 obtain⟨d,O,J⟩:=h (1-t) (by grind) (by grind)
 refine⟨d,O,fun x U I=>?_⟩
 rw[zUE,J x ?_ ?_]
 .have:seg e.1 e.2 (1-t)=seg e.2 e.1 t:=by rw[zG9];rw[show 1-(1-t)=t by grind]
  rw[this];exact U
 .rw[zFC]at I ⊢
  have:0<s*crs e.2 e.1 x:=I
  rw[zH2]at this
  grind
theorem Sim.either(h:Sim l):PO l∨PO (zAX l):=by
 obtain⟨k,U,J⟩:=h.kind
 rcases U with rfl|rfl
 .right
  refine⟨h.rev,fun e he=>?_⟩
  obtain⟨e',I,rfl⟩:=xG.1 ((zEL l).mem_iff.1 he)
  obtain⟨O,h2⟩:=J e' I
  exact⟨zKt (k:= -1) h2,zKt (k:=0) (s:= -1) (by rw[show - -1=(1:Rat) by grind];exact O)⟩
 .exact .inl ⟨h,J⟩
theorem PO.area{l:List V2}(h:PO l):0<arE l:=by
 obtain⟨T,_,I⟩:=zEl l.length l lr h
 rw[<-I.area]
 have J:=I.pos
 have U:=I.ne
 clear I
 match T,U with
 | t::T,_=>
  have O:∀T:List V6,(∀t,t∈T->0<crs t.1 t.2.1 t.2.2)->0<=(T.map fun t=>crs t.1 t.2.1 t.2.2).sum:=by
   intro T
   induction T with
   |nil=>intro _;simp
   |cons t T ih=>
    intro h
    rw[xX,nI]
    have:=h t fC
    have:=ih fun t ht=>h t (by simp[ht])
    grind
  rw[xX,nI]
  have:=J t fC
  have:=O T fun t ht=>J t (by simp[ht])
  grind
theorem Sim.way(h:Sim l):(0<arE l/\PO l)∨(arE l<0/\PO (zAX l)):=by
 rcases h.either with k|k
 .exact .inl ⟨k.area,k⟩
 .have:=k.area
  rw[zSh]at this
  exact .inr ⟨by grind,k⟩
theorem zON:jZ p q<0↔p.1<q.1∨(p.1=q.1/\p.2<q.2):=by
 unfold jZ
 have I:=@qlt p.1 q.1;have h2:=@qlt p.2 q.2
 by_cases k:qsg p.1 q.1=0
 .rw[if_pos k,h2]
  have e:=zCQ.1 k
  constructor
  .intro h;exact .inr ⟨e,h⟩
  .rintro(h|h)
   .grind
   .exact h.2
 .rw[if_neg k,I]
  have e:p.1≠q.1:=fun e=>k (zCQ.2 e)
  constructor
  .intro h;exact .inl h
  .rintro(h|h)
   .exact h
   .exact absurd h.1 e
def fK(l:List V2):Nat->Nat
 |0=>0
 |k+1=>if jZ (at_ l k) (at_ l (fK l k))<0 then k else fK l k
theorem zQS(l:List V2):∀k,fK l (k+1)<=k
 |0=>by unfold fK;split<;>simp[fK]
 |k+1=>by
  have:=zQS l k
  rw[fK]
  split<;>omega
theorem zFi(l:List V2):∀k j,j<k-> ¬jZ (at_ l j) (at_ l (fK l k))<0
 | k+1,j,hj=>by
  rw[fK]
  split
  .rename_i h
   by_cases e:j=k
   .subst e;rw[zON];rintro(q|q)<;>grind
   .have:=zFi l k j oA
    rw[zON]at*
    intro q
    apply this
    grind
  .rename_i h
   by_cases e:j=k
   .subst e;exact h
   .exact zFi l k j oA
def ways(l:List V2):List V2:=if arE l<0 then zAX l else l
def jV(l:List V2):List V2:=zCa (ways l) (fK (ways l) (ways l).length)
def zEU(l:List V2):List V6:=(zJ1 (jV l).length (jV l)).getD []
theorem zI1{M:List V2}(J:L.length=M.length)(h:∀i,i<L.length->at_ L i=at_ M i):L=M:=
 gG J fun i I h2=>by
  have:=h i I
  unfold at_ at this
  rw[rH,rH,nG I,nG h2]at this
  exact this
theorem zSX(hi:i<l.length)(O:j<l.length):zCa (zCa l i) j=zCa l ((i+j)%l.length):=by
 refine zI1 (by simp only[zAv]) fun k I=>?_
 rw[zAv,zAv]at I
 have J:∀x,x%l.length<l.length:=fun x=>vW _ oA
 rw[zDC (by rw[zAv];exact O) (by rw[zAv];exact I),zAv,zDC hi (J _),zDC (J _) I]
 congr 1
 rw[zZd,Nat.add_mod_mod]
 congr 1
 omega
theorem zD4:(zCa l k).Perm l/\(eds (zCa l k)).Perm (eds l):=by
 have e:l=l.take k++l.drop k:=(gA k l).symm
 constructor
 .show(l.drop k++l.take k).Perm l
  have:=(rQ (l₁:=l.drop k) (l₂:=l.take k))
  rw[<-e]at this
  exact this
 .show(eds (l.drop k++l.take k)).Perm (eds l)
  have:=zAO (l.take k) (l.drop k)
  rw[<-e]at this
  exact this
theorem zWz(l:List V2)(k:Nat):arE (zCa l k)=arE l:=zFt zD4.2 _
theorem zS6(l:List V2):zAX (zAX l)=l:=by
 refine zI1 (by rw[qX,qX]) fun i hi=>?_
 rw[qX,qX]at hi
 rw[zDe (by rw[qX];exact hi),qX,zDe (vW _ oA)]
 congr 1
 by_cases k:i=0
 .subst k;simp
 .rw[uC (show l.length-i<l.length by omega),show l.length-(l.length-i)=i by omega,uC hi]
theorem zS5(J:k<l.length):zAX (zCa l k)=zCa (zAX l) ((l.length-k)%l.length):=by
 refine zI1 (by simp only[qX,zAv]) fun i hi=>?_
 rw[qX,zAv]at hi
 have I:∀x,x%l.length<l.length:=fun x=>vW _ oA
 rw[zDe (by rw[zAv];exact hi),zAv,zDC J (I _),zDC (by rw[qX];exact I _) (by rw[qX];exact hi),qX,zDe (I _)]
 congr 1
 rw[zZd]
 -- i + (n-k) mod n, from the end
 by_cases k0:k=0
 .subst k0
  rw[pI,zY8,uM,uM,uC hi]
 .rw[uC (show l.length-k<l.length by omega)]
  by_cases c:i+(l.length-k)<l.length
  .rw[uC c,show l.length-(i+(l.length-k))=k-i by omega,show l.length-i+k=(k-i)+l.length by omega,zZe]
  .have e:(i+(l.length-k))%l.length=i-k:=by
    rw[show i+(l.length-k)=(i-k)+l.length by omega,zZe,uC oA]
   rw[e]
   congr 1
   omega
theorem zOa(J:l.Nodup){i j:Nat}(hi:i<l.length)(I:j<l.length)(h1:∀k,k<l.length-> ¬jZ (at_ l k) (at_ l i)<0)(h2:∀k,k<l.length-> ¬jZ (at_ l k) (at_ l j)<0):i=j:=by
 have a:=h1 j I;have b:=h2 i hi
 rw[zON]at a b
 exact zJc J hi I (rF (by grind) (by grind))
theorem zK5(h0:0<l.length)(U:l.Nodup){k:Nat}(I:k<l.length):zCa (zCa l k) (fK (zCa l k) l.length)=zCa l (fK l l.length):=by
 obtain⟨n,e⟩:∃n,l.length=n+1:=⟨l.length-1,by omega⟩
 have O:fK (zCa l k) l.length<l.length:=by rw[e];have:=zQS (zCa l k) n;omega
 have f2:fK l l.length<l.length:=by rw[e];have:=zQS l n;omega
 rw[zSX I O]
 congr 1
 refine zOa U (vW _ oA) f2 (fun j J=>?_) fun j J=>zFi l _ j J
 have:=zFi (zCa l k) l.length ((j+(l.length-k))%l.length) (vW _ oA)
 rw[zDC I (vW _ oA),zDC I O]at this
 rw[zZd,show j+(l.length-k)+k=j+l.length by omega,zZe,uC J,gJ (fK _ _) k]at this
 exact this
theorem zGR(l:List V2):(ways l).length=l.length:=by unfold ways;split<;>simp[qX]
theorem zHC(l:List V2):(jV l).length=l.length:=by unfold jV;rw[zAv,zGR]
theorem Sim.ways(h:Sim l):PO (ways l):=by
 unfold Go.Proofs.Wd.ways
 rcases h.way with⟨a,p⟩|⟨a,p⟩
 .rw[if_neg (by grind)];exact p
 .rw[if_pos a];exact p
theorem Sim.norm(h:Sim l):PO (jV l):=h.ways.of_perm zD4.1.symm zD4.2.symm
theorem zL0(h:Sim l){k:Nat}(O:k<l.length):jV (zCa l k)=jV l:=by
 have J:0<l.length:=by omega
 unfold jV
 rw[zGR,zGR,zAv]
 unfold ways
 rw[zWz]
 by_cases c:arE l<0
 .rw[if_pos c,if_pos c,zS5 O]
  have I:=qX l
  have:=zK5 (l:=zAX l) oA (zFF h.nod) (k:=(l.length-k)%l.length) (by rw[I];exact vW _ J)
  rw[I]at this
  exact this
 .rw[if_neg c,if_neg c]
  exact zK5 J h.nod O
theorem zQw(h:Sim l):jV (zAX l)=jV l:=by
 have e:ways (zAX l)=ways l:=by
  unfold ways
  rw[zSh,zS6]
  rcases h.way with⟨a,_⟩|⟨a,_⟩
  .rw[if_pos (by grind),if_neg (by grind)]
  .rw[if_neg (by grind),if_pos a]
 unfold jV
 rw[e]
theorem zFd(x:V2):x∈jV l↔x∈l:=by
 unfold jV
 rw[zSY]
 unfold ways
 split
 .exact zN0 l x
 .rfl
theorem zQz(l:List V2):(eds (jV l)).Perm (eds l)∨(eds (jV l)).Perm ((eds l).map swp):=by
 unfold jV
 have h:=(zD4 (l:=ways l) (k:=fK (ways l) (ways l).length)).2
 unfold ways at h ⊢
 split at h
 .rename_i c
  rw[if_pos c]
  exact .inr (h.trans (zEL l))
 .rename_i c
  rw[if_neg c]
  exact .inl h
def TNp(t:V6)(v:WE)(w:WB):Prop:=∃a b c:List WE,v=.agg (a++b++c).toArray/\(CU.agg (fPN t.1)).p a w/\(CU.agg (fPN t.2.1)).p b w/\(CU.agg (fPN t.2.2)).p c w
def fTN(t:V6):UF:=.mk' (TNp t) fun _ _ _ ⟨a,b,c,e,h1,h2,h3⟩ k=>⟨a,b,c,e,(CU.agg _).us _ _ _ h1 k,(CU.agg _).us _ _ _ h2 k,(CU.agg _).us _ _ _ h3 k⟩
theorem zE0{cs:List WE}(h:TNp t (.agg cs.toArray) W):∃a b c:List WE,cs=a++b++c/\a.length=6/\b.length=6/\c.length=6/\(CU.agg (fPN t.1)).p a W/\(CU.agg (fPN t.2.1)).p b W/\(CU.agg (fPN t.2.2)).p c W:=by
 obtain⟨a,b,c,e,I,h2,h3⟩:=h
 have:=vQ Array.toList (j5 e)
 simp only at this
 exact⟨a,b,c,this,(zBP _ _ a W I).1,(zBP _ _ b W h2).1,(zBP _ _ c W h3).1,I,h2,h3⟩
theorem zPk(t:V6):CU.ok 18 (CU.agg (fTN t)):=fun cs W h=>by
 obtain⟨a,b,c,rfl,l1,l2,l3,h1,h2,h3⟩:=zE0 h
 have U:=zBP _ _ a W h1;have J:=zBP _ _ b W h2;have O:=zBP _ _ c W h3
 refine⟨by simp[l1,l2,l3],zDP U.2.1 J.2.1 O.2.1,fun u I=>?_⟩
 rcases vV.1 I with I|I
 .rcases vV.1 I with I|I
  .exact U.2.2 u I
  .exact J.2.2 u I
 .exact O.2.2 u I
theorem zId(t:V6):∀cs:List WE,∀W,(fTN t).p (.agg cs.toArray) W->cs.length=18:=fun cs W h=>(zPk t cs W h).1
theorem zGX(v:WE)(W:WB)(h:(fTN t).p v W):∃vs:List WE,v=.agg vs.toArray/\vs.length=18/\(∀u,u∈vs->u.oneCell'=true)/\vs.all zX=true/\(CU.agg (fTN t)).p vs W:=by
 obtain⟨a,b,c,rfl,h1⟩:=id h
 have:=zPk t _ W h
 exact⟨_,rfl,this.1,this.2.2,this.2.1,h⟩
theorem zUL(cs:List WE)(W:WB)(h:(CU.agg (fTN t)).p cs W):0+6<=cs.length/\(fPN t.1).p (.agg ((cs.drop 0).take 6).toArray) W:=by
 obtain⟨a,b,c,rfl,O,J,l3,I,_⟩:=zE0 h
 refine⟨by simp[O,J,l3],?_⟩
 rw[nN,sY,tK oA,nK oA]
 exact I
theorem zUK(cs:List WE)(W:WB)(h:(CU.agg (fTN t)).p cs W):6+6<=cs.length/\(fPN t.2.1).p (.agg ((cs.drop 6).take 6).toArray) W:=by
 obtain⟨a,b,c,rfl,J,I,l3,_,h2,_⟩:=zE0 h
 refine⟨by simp[J,I,l3],?_⟩
 rw[sY,tN oA,pC oA,lT,tK oA,nK oA]
 exact h2
theorem zSH(cs:List WE)(W:WB)(h:(CU.agg (fTN t)).p cs W):12+6<=cs.length/\(fPN t.2.2).p (.agg ((cs.drop 12).take 6).toArray) W:=by
 obtain⟨a,b,c,rfl,J,I,l3,_,_,h3⟩:=zE0 h
 refine⟨by simp[J,I,l3],?_⟩
 rw[tN (by simp;omega),pC (by simp;omega),lT,nK oA]
 exact h3
abbrev tns(ts:List V6):List CU:=ts.map fun t=>CU.agg (fTN t)
theorem zGW(h:i<ts.length):(tns ts)[i]?=some (CU.agg (fTN (at3 ts i))):=by
 unfold tns at3;rw[tJ,rH,nG h];rfl
theorem zRq(ts:List V6):∀C,C∈tns ts->CU.ok 18 C:=fun C I=>by
 obtain⟨t,_,rfl⟩:=xG.1 I
 exact zPk _
theorem zWx{q:WE}(hu:(fPN t.1).p u W)(hv:(fPN t.2.1).p v W)(hq:(fPN t.2.2).p q W):∃cells,prog.built 38 [(0,u),(1,v),(2,q)]=some cells/\(fTN t).p (.agg cells) W:=by
 obtain⟨s,A,n,c,A',n',c',s2,B,k,d,B',k',d',rfl,h1,h2⟩:=hu
 obtain⟨s3,A3,n3,c3,A4,U,I,s4,B3,k3,d3,B4,k4,J,rfl,h3,h4⟩:=hv
 obtain⟨s5,A5,n5,c5,A6,n6,c6,s6,B5,k5,d5,B6,O,d6,rfl,h5,h6⟩:=hq
 exact⟨_,trB ..,_,_,_,rfl,⟨s,A,n,c,A',n',c',s2,B,k,d,B',k',d',rfl,h1,h2⟩,⟨s3,A3,n3,c3,A4,U,I,s4,B3,k3,d3,B4,k4,J,rfl,h3,h4⟩,⟨s5,A5,n5,c5,A6,n6,c6,s6,B5,k5,d5,B6,O,d6,rfl,h5,h6⟩⟩
theorem zJq(h:(fTN t).p v W):∃cs:List WE,v=.agg cs.toArray/\cs.length=18/\(CU.agg (fTN t)).p cs W:=by
 obtain⟨a,b,c,rfl,h1⟩:=id h
 exact⟨_,rfl,(zPk t _ W h).1,h⟩
theorem zML(h:(fTN t).p u W):∃e cs,yD prog 33 1 [(0,u)]=some (e,cs)/\(SF.row 18 (tns [t])).p (.slice (some ⟨W.heap.size,0,none⟩) 1 1) (W.alloc (.cells cs e)):=by
 obtain⟨cs,rfl,l,hc⟩:=zJq h
 obtain⟨u0,u1,u2,u3,u4,u5,u6,u7,u8,u9,h1,h5,I,h4,O,J,h0,U,rfl⟩:=zN5 l
 refine⟨_,_,zYC ..,some ⟨W.heap.size,0,none⟩,1,rfl,vP _,by decide,fun e=>(by cases e),fun i C hi=>?_⟩
 have hb:=zCO W (.cells #[u0,u1,u2,u3,u4,u5,u6,u7,u8,u9,h1,h5,I,h4,O,J,h0,U] 38)
 have hm:=zBt W #[u0,u1,u2,u3,u4,u5,u6,u7,u8,u9,h1,h5,I,h4,O,J,h0,U] 38
 obtain rfl:i=0:=by have:=(bE.1 hi).1;simp at this;omega
 obtain rfl:CU.agg (fTN t)=C:=by simpa using hi
 refine⟨W.heap.size,0,_,rfl,?_,(CU.agg (fTN t)).us _ _ _ hc (zO hb)⟩
 rw[show 0+0*18=0 from rfl]
 exact hm
theorem zUV{t':V6}(h:(fTN t).p u W)(h':(fTN t').p v W):∃e cs,yD prog 33 2 [(0,u),(1,v)]=some (e,cs)/\(SF.row 18 (tns [t,t'])).p (.slice (some ⟨W.heap.size,0,none⟩) 2 2) (W.alloc (.cells cs e)):=by
 obtain⟨cs,rfl,l,hc⟩:=zJq h
 obtain⟨u0,u1,u2,u3,u4,u5,u6,u7,u8,u9,h9,hf,J,he,h4,U,h8,h7,rfl⟩:=zN5 l
 obtain⟨cs,rfl,l,hI⟩:=zJq h'
 obtain⟨v0,v1,v2,v3,v4,v5,v6,v7,v8,v9,O,h6,ha,I,hd,h1,h0,h5,rfl⟩:=zN5 l
 refine⟨_,_,zYB ..,some ⟨W.heap.size,0,none⟩,2,rfl,vP _,by decide,fun e=>(by cases e),fun i C hi=>?_⟩
 have hb:=zCO W (.cells #[u0,u1,u2,u3,u4,u5,u6,u7,u8,u9,h9,hf,J,he,h4,U,h8,h7,v0,v1,v2,v3,v4,v5,v6,v7,v8,v9,O,h6,ha,I,hd,h1,h0,h5] 38)
 have hm:=zBt W #[u0,u1,u2,u3,u4,u5,u6,u7,u8,u9,h9,hf,J,he,h4,U,h8,h7,v0,v1,v2,v3,v4,v5,v6,v7,v8,v9,O,h6,ha,I,hd,h1,h0,h5] 38
 have hG:=(bE.1 hi).1
 simp at hG
 rcases(by omega:i=0∨i=1)with rfl|rfl
 .obtain rfl:CU.agg (fTN t)=C:=by simpa using hi
  refine⟨W.heap.size,0, [u0,u1,u2,u3,u4,u5,u6,u7,u8,u9,h9,hf,J,he,h4,U,h8,h7],rfl,?_,(CU.agg (fTN t)).us _ _ _ hc (zO hb)⟩
  intro j u hj
  have hF:=(bE.1 hj).1
  have:=hm j u (by rw[show #[u0,u1,u2,u3,u4,u5,u6,u7,u8,u9,h9,hf,J,he,h4,U,h8,h7,v0,v1,v2,v3,v4,v5,v6,v7,v8,v9,O,h6,ha,I,hd,h1,h0,h5].toList=[u0,u1,u2,u3,u4,u5,u6,u7,u8,u9,h9,hf,J,he,h4,U,h8,h7]++ [v0,v1,v2,v3,v4,v5,v6,v7,v8,v9,O,h6,ha,I,hd,h1,h0,h5]from rfl,gB hF];exact hj)
  simpa using this
 .obtain rfl:CU.agg (fTN t')=C:=by simpa using hi
  refine⟨W.heap.size,0, [v0,v1,v2,v3,v4,v5,v6,v7,v8,v9,O,h6,ha,I,hd,h1,h0,h5],rfl,?_,(CU.agg (fTN t')).us _ _ _ hI (zO hb)⟩
  intro j u hj
  have hF:=(bE.1 hj).1
  have:=hm (18+j) u (by rw[show #[u0,u1,u2,u3,u4,u5,u6,u7,u8,u9,h9,hf,J,he,h4,U,h8,h7,v0,v1,v2,v3,v4,v5,v6,v7,v8,v9,O,h6,ha,I,hd,h1,h0,h5].toList=[u0,u1,u2,u3,u4,u5,u6,u7,u8,u9,h9,hf,J,he,h4,U,h8,h7]++ [v0,v1,v2,v3,v4,v5,v6,v7,v8,v9,O,h6,ha,I,hd,h1,h0,h5]from rfl,gD fC];simpa using hj)
  simpa using this
theorem zW1(v:WE)(W:WB)(h:(fTN t).p v W):v.cells.size=18/\(∀u,u∈v.cells.toList->u.oneCell'=true)/\v.cells.toList.all zX=true/\∀cs,(CU.len 18).p cs W->0+18<=cs.length/\(CU.agg (fTN t)).p (jH cs 0 v.cells.toList) W:=by
 obtain⟨vs,rfl,O,h2,h3,U⟩:=zGX v W h
 refine⟨by simpa[Value.cells]using O,fun u I=>h2 u (by simpa[Value.cells]using I),by simpa[Value.cells]using h3,fun cs J=>?_⟩
 have hl:cs.length=18:=J
 refine⟨by omega,?_⟩
 rw[show jH cs 0 (Value.agg vs.toArray).cells.toList=vs by simp[jH,Value.cells];omega]
 exact U
theorem zPj{m:Nat}(h:∀p,p∈tl t->QB p.1 m/\QB p.2 m){v:WE}{W:WB}(hv:(fTN t).p v W):(fTR m t).p v W:=by
 obtain⟨a,b,c,e,U,h2,h3⟩:=hv
 have J:=h t.1 (by simp[tl]);have O:=h t.2.1 (by simp[tl]);have I:=h t.2.2 (by simp[tl])
 exact⟨a,b,c,e,zBz J.1 J.2 U,zBz O.1 O.2 h2,zBz I.1 I.2 h3⟩
theorem zSG{m:Nat}(h:∀t,t∈ts->∀p,p∈tl t->QB p.1 m/\QB p.2 m)(v:WE)(W:WB)(U:(SF.row 18 (tns ts)).p v W):(SF.row 18 (trs m ts)).p v W:=
 zHf fC (fun i C D I J cs W O=>by
  have hi:i<ts.length:=by have:=(bE.1 I).1;simpa using this
  rw[zGW hi]at I
  rw[zJo hi]at J
  cases I;cases J
  refine zPj (h _ ?_) O
  unfold at3
  rw[rH,nG hi]
  exact uY hi) v W U
theorem zSE{m:Nat}(h:∀p,p∈ps->QB p.1 m/\QB p.2 m){k:Nat}(U:k<ps.length):∀p,p∈tl (zAL ps k)->QB p.1 m/\QB p.2 m:=fun p J=>by
 have I:∀{j:Nat},j<ps.length->at_ ps j∈ps:=fun {j} hj=>by
  unfold at_
  rw[rH,nG hj]
  exact uY hj
 have O:0<ps.length:=by omega
 simp only[tl,zAL,xS,rO,rN]at J
 rcases J with rfl|rfl|rfl
 .exact h _ (I (vW _ O))
 .exact h _ (I U)
 .exact h _ (I (vW _ O))
abbrev eT(ps:List V2)(k:Nat):List UF:=[uI (k:Int),fTN (zAL ps k)]
theorem zPM{b:Nat}{W':WB}(h:(SF.row z Cs).p (.slice (some ⟨b,o,none⟩) k c) W)(hb:W'.heap[b]?=W.heap[b]?)(U:y9 W W'):(SF.row z Cs).p (.slice (some ⟨b,o,none⟩) k c) W':=by
 obtain⟨A,c,e,h2,h3,h4,h5⟩:=h
 refine⟨A,c,e,h2,h3,h4,fun i C hi=>?_⟩
 obtain⟨b',J,cs,I,O,g3⟩:=h5 i C hi
 refine⟨b',J,cs,I,fun j u hj=>?_,C.us _ _ _ g3 U⟩
 have:b'=b:=by
  rw[I]at e
  injection e with e1
  injection e1 with e2
  injection e2 with e3
  exact e3.symm
 subst this
 exact(bR hb).trans (O j u hj)
theorem zGJ{b:Nat}{M:Nat->Prop}(hh:w_.heap[b]?=some (.cells #[.slice (some ⟨g,0,none⟩) ps.length cap] 22 (0,0)))(hl:(SF.row 6 (pns ps)).p (.slice (some ⟨g,0,none⟩) ps.length cap) w_)(hp:M g)(q3: ¬C b)(q1: ¬M b)(hn:ps.length<=1000000):
  ItM prog 67 #[pO b 0] (eT ps) ps.length C M w_:=by
 intro l_ J Z W hwW hC hkW h0 hK hB h4 hN
 obtain⟨l,hldef⟩:∃l:WE,l=.slice (some ⟨g,0,none⟩) ps.length cap:=⟨_,rfl⟩
 have hg:=zD2 hl
 have ha:=(SF.row 6 (pns ps)).st _ _ _ hl hC
 have hf:W.heap[b]?=some (.cells #[.slice (some ⟨g,0,none⟩) ps.length cap] 22 (0,0)):=(hC.block b (xP.1 hh).1).trans hh
 have h8:∀{A B:WB},(SF.row 6 (pns ps)).p (.slice (some ⟨g,0,none⟩) ps.length cap) A->B.heap[g]?=A.heap[g]?->y9 A B->(SF.row 6 (pns ps)).p (.slice (some ⟨g,0,none⟩) ps.length cap) B:=fun h1 h2 h3=>zPM h1 h2 h3
 rw[<-hldef]at hh hl hg ha hf
 have h5:∀{A B:WB},(SF.row 6 (pns ps)).p l A->B.heap[g]?=A.heap[g]?->y9 A B->(SF.row 6 (pns ps)).p l B:=fun h1 h2 h3=>by rw[hldef]at h1 ⊢;exact h8 h1 h2 h3
 refine zHL func67 rfl ?_
 have s:=zG5 (w:=W) (fn:=f67) (args:=#[.func (.yield l_) #[] #[]]++#[pO b 0]) noS [(0,UF.eq (.func (.yield l_) #[] #[]))] [⟨1,22,wC [l],b,true⟩] kA (fun q I=>by obtain rfl:=tS.1 I;exact⟨by simp,rfl⟩) ⟨⟨[l],rfl,.inl rfl,hf,rfl,by simp[hg.2],fun y hy=>by cases hy⟩,trivial⟩ (fun x hx=>by obtain rfl:=tS.1 hx;show 1<2;decide)
 generalize({ tmps:=#[.func (.yield l_) #[] #[]]++#[pO b 0]++Array.replicate (f67.ntmps-(#[.func (.yield l_) #[] #[]]++#[pO b 0]:Array WE).size) undef,defers:=[] }:Act)=a at s ⊢
 have O:(pns ps).length=ps.length:=by simp
 refine rgQ ((5,.u (UF.eq l))::(6,.u (uI ((pns ps).length:Int)))::(7,.u (uI 0))::[]) s
  (oc (qB (C:=(wC [l]).cf) kA (fun _ _ h=>h.2) zAK)<|oc (zY (z:=6) (Cs:=pns ps) kA (fun v W hb h=>(zU ha h (s.up hb))) (fun _=>rfl))<|oc zA<|zB) fun a w1 s=>tQ ?_
 have q2:J 0 (fun _=>False) w1:=h0 _ _ _ _ _ hN s.below (fun q I=>I.elim)
 have hT:=(SF.row 6 (pns ps)).st _ _ _ ha s.below
 have hP:=s.gr.size
 replace s:=(s.keepK [(0,.u (UF.eq (.func (.yield l_) #[] #[]))),(5,.u (UF.eq l)),(6,.u (uI ((pns ps).length:Int))),(7,.u (uI ((0:Nat):Int)))] (fmz ⟨mz3,fmz ⟨.head _,fmz ⟨mz1,fmz ⟨mz2,fnz⟩⟩⟩⟩)).self (yX kA)
 refine zDu (fun k a w=>k<=ps.length/\J k (fun _=>False) w/\(SF.row 6 (pns ps)).p l w/\W.heap.size<=w.heap.size/\StS (inB [⟨1,22,wC [l],b,true⟩]) w [(0,.u (UF.eq (.func (.yield l_) #[] #[]))),(5,.u (UF.eq l)),(6,.u (uI ((pns ps).length:Int))),(7,.u (uI ((k:Nat):Int)))] [⟨1,22,wC [l],b,true⟩] f67.ntmps [] a w) (fun k=>ps.length-k) 0 ⟨vR _,q2,hT,hP,s⟩ fun k a w ⟨hk',hJ,hw,hM,s⟩=>?_
 replace s:=s.toSt (fun q ⟨x,hx,_,hr⟩=>by obtain rfl:=tS.1 hx;cases hr) rfl
 refine rgQ ((8,.u (uB (ltz k ((pns ps).length))))::[]) s
  (oc (zM .i64 (k:Int) ((pns ps).length:Int) (ltz k ((pns ps).length)) iiz iiz rfl rfl)<|zB) fun a w2 s=>lQ<|StS.cond s (ltz k ((pns ps).length)) iiz (fun e=>?_) (fun e=>?_)
 .have hk:k<ps.length:=by have h7:=xW e;rw[O]at h7;omega
  have q4:(k+ps.length-1)%ps.length<ps.length:=vW _ oA
  have hU:(k+1)%ps.length<ps.length:=vW _ oA
  refine pV<|lQ<|tQ<|lQ<|rgK 3 ((9,.u (uI (k:Int)))::(10,.Y (fPN (at_ ps k)))::(11,.u (fPN (at_ ps k)))::[]) s
   (oc zA<|oc (zQ (z:=6) (Cs:=pns ps) (i:=k) (C:=CU.agg (fPN (at_ ps k))) kA (zBs hk) (fun v W hb h=>(zU hw h (s.up hb))) iiz)<|oc (zH (f:=fPN (at_ ps k)) 6 kA (hz:=zL _ _))<|zB) fun a w3 s=>z9 (CU.len 6) (cs:=zP6) kA rfl s kA (fun W=>rfl) rfl fun b4 a w s=>yO (uI (k:Int)) rfl s kA iiz fun a w s=>zR (CU.agg (fPN (at_ ps k))) ((fPN (at_ ps k)).tS) rfl s kA rfl rfl rfl iiz iiz y7 fun a w3 s=>zD rfl ?_
  have U:=(SF.row 6 (pns ps)).st _ _ _ hw s.below
  have hS:J k (fun _=>False) w3:=h0 _ _ _ _ _ hJ s.below (fun q I=>I.elim)
  have hV:W.heap.size<=w3.heap.size:=xQ hM s.gr.size
  replace s:StS _ _ _ [⟨4,30,CU.agg (fPN (at_ ps k)),b4,true⟩,⟨1,22,wC [l],b,true⟩] _ _ _ _:=s.freeze
  replace s:=s.reb rfl [(3,.u (uI (k:Int))),(0,.u (UF.eq (.func (.yield l_) #[] #[]))),(5,.u (UF.eq l)),(6,.u (uI ((pns ps).length:Int))),(7,.u (uI (k:Int)))] (fmz ⟨.inl (.head _),fmz ⟨.inl mz4,fmz ⟨.inl mz5,fmz ⟨.inl mz6,fmz ⟨.inl mz7,fnz⟩⟩⟩⟩⟩)
  refine lQ<|rgK 23 ((12,.u (UF.eq (.func (.yield l_) #[] #[])))::(13,.u (uI (k:Int)))::(14,.s (UF.eq l).tS)::(15,.s (uI (k:Int)).tS)::(16,.s (UF.eq l).tS)::(17,.s (uI ((pns ps).length:Int)).tS)::(18,.s (uI ((k+ps.length:Nat):Int)).tS)::(19,.s (uI ((k+ps.length-1:Nat):Int)).tS)::(20,.s (UF.eq l).tS)::(21,.s (uI ((pns ps).length:Int)).tS)::(22,.s (uI (((k+ps.length-1)%ps.length:Nat):Int)).tS)::(23,.Y (fPN (at_ ps ((k+ps.length-1)%ps.length))))::(24,.s (fPN (at_ ps ((k+ps.length-1)%ps.length))).tS)::(25,.s (fPN (at_ ps k)).tS)::(26,.s (UF.eq l).tS)::(27,.s (uI (k:Int)).tS)::(28,.s (uI ((k+1:Nat):Int)).tS)::(29,.s (UF.eq l).tS)::(30,.s (uI ((pns ps).length:Int)).tS)::(31,.s (uI (((k+1)%ps.length:Nat):Int)).tS)::(32,.Y (fPN (at_ ps ((k+1)%ps.length))))::(33,.s (fPN (at_ ps ((k+1)%ps.length))).tS)::(34,.u (fTN (zAL ps k)))::[]) s
   (oc zA<|oc zA<|oc (qB (C:=(wC [l]).cf) kA (fun _ _ h=>h.2) zAK)<|oc zA<|oc (qB (C:=(wC [l]).cf) kA (fun _ _ h=>h.2) zAK)<|oc (zY (z:=6) (Cs:=pns ps) kA (fun v W hb h=>(zU U h (s.up hb))) (fun _=>rfl))<|oc (yI .i64 (k:Int) ((pns ps).length:Int) ((k+ps.length:Nat):Int) iiz iiz (by rw[O];exact wrap64 _ _ oA oA))<|oc (zCF .i64 ((k+ps.length:Nat):Int) 1 ((k+ps.length-1:Nat):Int) iiz iiz (wrap64 _ _ oA oA))<|oc (qB (C:=(wC [l]).cf) kA (fun _ _ h=>h.2) zAK)<|oc (zY (z:=6) (Cs:=pns ps) kA (fun v W hb h=>(zU U h (s.up hb))) (fun _=>rfl))<|oc (zBb .i64 ((k+ps.length-1:Nat):Int) ((pns ps).length:Int) (((k+ps.length-1)%ps.length:Nat):Int) iiz iiz (by rw[O];omega) (by rw[O];exact zBY _ _))<|oc (zQ (z:=6) (Cs:=pns ps) (i:=((k+ps.length-1)%ps.length)) (C:=CU.agg (fPN (at_ ps ((k+ps.length-1)%ps.length)))) kA (zBs q4) (fun v W hb h=>(zU U h (s.up hb))) iiz)<|oc (zH (f:=fPN (at_ ps ((k+ps.length-1)%ps.length))) 6 kA (hz:=zL _ _))<|oc (zH (f:=fPN (at_ ps k)) 6 kA (hz:=zL _ _))<|oc (qB (C:=(wC [l]).cf) kA (fun _ _ h=>h.2) zAK)<|oc zA<|oc (yI .i64 (k:Int) 1 ((k+1:Nat):Int) iiz iiz (wrap64 _ _ oA oA))<|oc (qB (C:=(wC [l]).cf) kA (fun _ _ h=>h.2) zAK)<|oc (zY (z:=6) (Cs:=pns ps) kA (fun v W hb h=>(zU U h (s.up hb))) (fun _=>rfl))<|oc (zBb .i64 ((k+1:Nat):Int) ((pns ps).length:Int) (((k+1)%ps.length:Nat):Int) iiz iiz (by rw[O];omega) (by rw[O];exact zBY _ _))<|oc (zQ (z:=6) (Cs:=pns ps) (i:=((k+1)%ps.length)) (C:=CU.agg (fPN (at_ ps ((k+1)%ps.length)))) kA (zBs hU) (fun v W hb h=>(zU U h (s.up hb))) iiz)<|oc (zH (f:=fPN (at_ ps ((k+1)%ps.length))) 6 kA (hz:=zL _ _))<|oc (zAQ (fun u v q W (hu:(fPN (at_ ps ((k+ps.length-1)%ps.length))).p u W) (hv:(fPN (at_ ps k)).p v W) (I:(fPN (at_ ps ((k+1)%ps.length))).p q W)=>zWx (t:=zAL ps k) hu hv I))<|zB) fun a w4 s=>?_
  have hm:J k (fun _=>False) w4:=h0 _ _ _ _ _ hS s.below (fun q I=>I.elim)
  have hI:=(SF.row 6 (pns ps)).st _ _ _ U s.below
  have hW4:W.heap.size<=w4.heap.size:=xQ hV s.gr.size
  replace s:=s.popB
  have hX:∀x,x∈([⟨1,22,wC [l],b,true⟩]:List Bx)->x.b<w_.heap.size/\ ¬(C x.b∨M x.b):=fun x hx=>by obtain rfl:=tS.1 hx;exact⟨(xP.1 hh).1,fun hc=>hc.elim q3 q1⟩
  refine zG0 rfl s iiz kA (yX kA) hX (h4 _ _ _ _ hk hm (fun q I=>I.elim) ⟨by simp,fun i f hi=>?_⟩) fun a w5 bv hr hA s=>?_
  .match i,hi with
   |0,hi=>obtain rfl:=nO hi;rw[zXt];exact s.at.sl 13
   |1,hi=>obtain rfl:=nO hi;rw[zXs];exact s.at.sl 34
  have hsz2:=hr.size
  have hQ:bv=false->Z w5:=fun e2=>by rcases hA with⟨e3,_⟩|⟨_,hz⟩;rw[e2]at e3;cases e3;exact hz
  have hW:bv=true->J (k+1) (fun _=>False) w5:=fun e2=>by rcases hA with⟨_,hj⟩|⟨e3,_⟩;exact hj;rw[e2]at e3;cases e3
  replace s:=s.toSt (fun q ⟨x,hx,_,hr⟩=>by obtain rfl:=tS.1 hx;cases hr) rfl
  refine zBF (uB (!bv)) rfl s kA (zDB bv iiz (fun _=>rfl)) kA fun a w s=>zD rfl<|StS.cond s (!bv) iiz (fun e=>?_) (fun e=>?_)
  .have hz:=hQ (by simpa using e)
   exact pU<|⟨s.nd,.tuple #[],by simp[results,results67],⟨_,rfl⟩,.inr (hK _ _ hz s.below)⟩
  .have hD:=hW (by simpa using e)
   have hG:=h5 hI ((hB _ _ _ hD g hp).trans (hB _ _ _ hm g hp).symm) hr.keep
   refine pV<|zW 1 ((37,.u (uI ((k+1:Nat):Int)))::[]) s kA
    (oc (yI .i64 (k:Int) 1 ((k+1:Nat):Int) iiz iiz (wrap64 _ _ oA oA))<|zB) fun a w6 s=>?_
   replace s:=s.drop [7]
   refine zBF (uI ((k+1:Nat):Int)) rfl s kA zA kA fun a w7 s=>zD rfl ?_
   have hsz4:=s.gr.size
   refine⟨k+1,by show ps.length-(k+1)<ps.length-k;omega,hk,h0 _ _ _ _ _ hD s.below (fun q I=>I.elim),(SF.row 6 (pns ps)).st _ _ _ hG s.below,by omega,(s.keepK _ ?_).self (yX kA)⟩
   exact fmz ⟨mz8,fmz ⟨mz9,fmz ⟨zMe,fmz ⟨.head _,fnz⟩⟩⟩⟩
 .have hL:k=ps.length:=by have h7:=nH e;rw[O]at h7;omega
  exact tR<|⟨s.nd,.tuple #[],by simp[results,results67],⟨_,rfl⟩,.inl ⟨_,by rw[<-hL];exact h0 _ _ _ _ _ hJ s.below (fun q I=>.inl I)⟩⟩
def cor(t:V6)(i:Nat):V2:=at_ (tl t) i
def zO8(t:V6)(p:V2):Nat->Int
 |0=>1
 |i+1=>min (zBX (cor t i) (cor t ((i+1)%3)) p) (zO8 t p i)
theorem zVA(t:V6)(p:V2):zO8 t p 3=zMf t p:=rfl
theorem zUJ{m:Nat}(hi:i<3)(cs:List WE)(W:WB)(h:(CU.agg (fTR m t)).p cs W):6*i+6<=cs.length/\(fPV m (cor t i)).p (.agg ((cs.drop (6*i)).take 6).toArray) W:=by
 match i,hi with
 |0,_=>exact zKi cs W h
 |1,_=>exact zMx cs W h
 |2,_=>exact zJp cs W h
theorem zKj(hi:i<3):zGM prog 38 i=some (6*i):=by
 match i,hi with
 |0,_=>show zGM prog 38 0=some 0;kernel_rfl
 |1,_=>show zGM prog 38 1=some 6;kernel_rfl
 |2,_=>show zGM prog 38 2=some 12;kernel_rfl
theorem zYS(u0 u1 u2 u3 u4 u5 u6 u7 u8 u9 h1 h5 I h4 U J h0 O:WE)(W:WB):(Instr.index 38 (.agg #[u0,u1,u2,u3,u4,u5,u6,u7,u8,u9,h1,h5,I,h4,U,J,h0,O]) (.int .i64 0)).run prog W=.ok (.agg #[u0,u1,u2,u3,u4,u5]) W:=by kernel_rfl
theorem zYR(u0 u1 u2 u3 u4 u5 u6 u7 u8 u9 I J O h5 h1 U h4 h0:WE)(W:WB):(Instr.index 38 (.agg #[u0,u1,u2,u3,u4,u5,u6,u7,u8,u9,I,J,O,h5,h1,U,h4,h0]) (.int .i64 1)).run prog W=.ok (.agg #[u6,u7,u8,u9,I,J]) W:=by kernel_rfl
theorem zYQ(u0 u1 u2 u3 u4 u5 u6 u7 u8 u9 h4 h5 I h1 U J h0 O:WE)(W:WB):(Instr.index 38 (.agg #[u0,u1,u2,u3,u4,u5,u6,u7,u8,u9,h4,h5,I,h1,U,J,h0,O]) (.int .i64 2)).run prog W=.ok (.agg #[I,h1,U,J,h0,O]) W:=by kernel_rfl
theorem zXk{m:Nat}(hi:i<3){v:WE}{W:WB}(h:(fTR m t).p v W):∃r,(∀W',(Instr.index 38 v (.int .i64 (i:Int))).run prog W'=.ok r W')/\(fPV m (cor t i)).p r W:=by
 obtain⟨a,b,c,rfl,I,h2,h3⟩:=h
 obtain⟨a0,a1,a2,a3,a4,a5,rfl⟩:=zN4 (zBP _ _ a W I).1
 obtain⟨b0,b1,b2,b3,b4,b5,rfl⟩:=zN4 (zBP _ _ b W h2).1
 obtain⟨c0,c1,c2,c3,c4,c5,rfl⟩:=zN4 (zBP _ _ c W h3).1
 match i,hi with
 |0,_=>exact⟨_,fun W'=>zYS ..,I⟩
 |1,_=>exact⟨_,fun W'=>zYR ..,h2⟩
 |2,_=>exact⟨_,fun W'=>zYQ ..,h3⟩
section
variable {F:Fence}{M:Nat}{w0:WB}{ops:Array Oper}{G:Nat->SF}{d:Tmp}{ty:WF}{pos:String}{aft:Array Edge}
theorem zTI{m:Nat}(hi:i<3)(O:∀v W,(fct G x).p v W->(fTR m t).p v W)(hy:∀v W,(fct G y).p v W->v=.int .i64 (i:Int))(hd:∀v W,(fPV m (cor t i)).p v W->(G d).p v W:=by exact fun _ _ h=>h):qO F M prog w0 ops G ⟨some d,.index 38 x y,ty,pos,aft,none⟩:=
 qG (fun _ e=>by cases e) (fun _ e=>by cases e) fun b W hb I=>by
  have U:=O _ _ (I x (by simp[Op.operands]))
  have e2:=hy _ _ (I y (by simp[Op.operands]))
  obtain⟨r,J,h2⟩:=zXk hi U
  exact⟨r,by simp[execOp,e2,J W],hd _ _ h2⟩
end
theorem zHZ{m:Nat}{x:WE}(U:(fTR m t).p x W)(hm:m<=159)(I:0<m)(O:Tab W):Calls prog 36 #[x] W (Ret W (fI (zBi t)).tS):=by
 refine z5 [(fTR m t).tS] func36 rfl kA ⟨U,trivial⟩ fun a s=>?_
 replace s:=s.renew [(0,.u (fTR m t))] (fmz ⟨.inr ⟨_,rfl,.head _⟩,fnz⟩)
 refine lQ<|rgK 0 [] s
  zB fun a w1 s=>yN (CU.agg (fTR m t)) rfl s kA (fun v W h=>zRp h) fun b1 a w s=>yO (uI 0) rfl s kA iiz fun a w s=>zD rfl<|lQ ?_
 replace s:=s.drop [2]
 exact rgE ((3,.X (fTR m t) 0)::(4,.Z (fPV m ((t).1)))::(5,.X (fTR m t) 6)::(6,.Z (fPV m ((t).2.1)))::(7,.X (fTR m t) 12)::(8,.Z (fPV m ((t).2.2)))::(9,.Z (uI (zBi t)))::(2,.u (uI (zBi t)))::[]) s
  (oc (zB0 (C:=cg (fTR m t)) 0 0 kA (fun _ _ h=>h.2) iiz)<|oc (zV (C:=cg (fTR m t)) (k:=0) 6 kA (h:=zKi))<|oc (zB0 (C:=cg (fTR m t)) 1 6 kA (fun _ _ h=>h.2) iiz)<|oc (zV (C:=cg (fTR m t)) (k:=6) 6 kA (h:=zMx))<|oc (zB0 (C:=cg (fTR m t)) 2 12 kA (fun _ _ h=>h.2) iiz)<|oc (zV (C:=cg (fTR m t)) (k:=12) 6 kA (h:=zJp))<|oc (zBc zC zV1 (fun J u1 u2 W hb (h0:(fPV m ((t).1)).p J W) (h1:(fPV m ((t).2.1)).p u1 W) (h2:(fPV m ((t).2.2)).p u2 W)=>zMI h0 h1 h2 hm I (O.below (s.up hb))))<|oc zE<|zB) fun a w2 s=>pU<|wF s (t:=2) rfl iiz
theorem zR5{m:Nat}{x y:WE}(h1:(fTR m t).p x W)(h2:(fPV m p).p y W)(hm:m<=159)(I:0<m)(U:Tab W):Calls prog 28 #[x,y] W (Ret W (fI (zMf t p)).tS):=by
 refine z5 [(fTR m t).tS,(fPV m p).tS] func28 rfl kA ⟨h1,h2,trivial⟩ fun a s=>?_
 replace s:=s.renew [(0,.u (fTR m t)),(1,.u (fPV m p))] (fmz ⟨.inr ⟨_,rfl,.head _⟩,fmz ⟨.inr ⟨_,rfl,mz1⟩,fnz⟩⟩)
 refine lQ<|rgK 0 [] s
  zB fun a w1 s=>yN (CU.agg (fTR m t)) rfl s kA (fun v W h=>zRp h) fun b2 a w s=>yN (CU.agg (fPV m p)) rfl s kA (fun v W h=>yY h) fun b3 a w s=>yO (uI 0) rfl s kA iiz fun a w s=>zD rfl<|rgQ ((5,.u (uI 1))::[]) s
  (oc zE<|zB) fun a w2 s=>lQ<|rgQ ((8,.u (fTR m t))::(9,.u (uI 0))::[]) s
  (oc (zH (f:=fTR m t) 18 kA (hz:=zKk _ _))<|oc zA<|zB) fun a w3 s=>tQ<|zAg (fun i=>i<=3) (fun i=> [(8,.u (fTR m t)),(5,.u (uI (zO8 t p i))),(9,.u (uI ((i:Nat):Int)))]) (fun i=>3-i) (0:Nat) (vR _) (s.keepK _ (fmz ⟨.head _,fmz ⟨mz2,fmz ⟨mz1,fnz⟩⟩⟩)) fun i a w hx s=>rgQ ((10,.u (uB (decide ((i:Int)<3))))::[]) s
  (oc (zM .i64 (i:Int) 3 (decide ((i:Int)<3)) iiz iiz rfl rfl)<|zB) fun a w4 s=>lQ<|StS.cond s (decide ((i:Int)<3)) iiz (fun e=>?_) (fun e=>?_)
 .have hi:i<3:=by have:=xW e;omega
  have J:(i+1)%3<3:=vW _ dA
  refine pV<|lQ<|tQ<|lQ<|rgK 2 ((11,.u (uI (i:Int)))::(12,.u (fPV m (cor t i)))::[]) s
   (oc zA<|oc (zTI hi iiz iiz)<|zB) fun a w5 s=>z9 (CU.len 6) (cs:=zP6) kA rfl s kA (fun W=>rfl) rfl fun b7 a w s=>yO (uI (i:Int)) rfl s kA iiz fun a w s=>zR (CU.agg (fPV m (cor t i))) ((fPV m (cor t i)).tS) rfl s kA rfl rfl rfl iiz iiz y7 fun a w s=>zD rfl<|zFH (K:=[(6,.u (uI (i:Int))),(11,.u (uI (i:Int))),(12,.u (fPV m (cor t i))),(10,.u (uB (decide ((i:Int)<3)))),(8,.u (fTR m t)),(9,.u (uI (i:Int)))]) [(5,.u (uI (zO8 t p i)))] [1,8] 10 ((13,.Z (fPV m (cor t i)))::(14,.Z (uI (i:Int)))::(15,.Z (uI ((i+1:Nat):Int)))::(16,.Z (uI (((i+1)%3:Nat):Int)))::(17,.s (wD ((CU.agg (fTR m t)).cf.at (6*((i+1)%3)))))::(18,.Z (fPV m (cor t ((i+1)%3))))::(19,.Z (fPV m p))::(20,.Z (uI (zBX (cor t i) (cor t ((i+1)%3)) p)))::(21,.Z (uI (zO8 t p i)))::(22,.u (uI (zO8 t p (i+1))))::[]) hmix (s.keepK _ (fmz ⟨mz5,fmz ⟨.head _,fmz ⟨mz1,fmz ⟨mz2,fmz ⟨mz3,fmz ⟨mz4,fmz ⟨mz6,fnz⟩⟩⟩⟩⟩⟩⟩)) kA
   (oc (zH (f:=fPV m (cor t i)) 6 kA (hz:=zL _ _))<|oc zA<|oc (yI .i64 (i:Int) 1 ((i+1:Nat):Int) iiz iiz (wrap64 _ _ oA oA))<|oc (zBb .i64 ((i+1:Nat):Int) 3 (((i+1)%3:Nat):Int) iiz iiz dA (zBY _ 3))<|oc (zB0 (C:=cg (fTR m t)) ((i+1)%3) (6*((i+1)%3)) (zKj J) (fun _ _ h=>h.2) iiz)<|oc (zV (C:=cg (fTR m t)) (k:=6*((i+1)%3)) 6 kA (h:=zUJ J))<|oc (zH (f:=fPV m p) 6 kA (hz:=zL _ _))<|oc (zBc zC zV1 (fun O u1 u2 W hb (h0:(fPV m (cor t i)).p O W) (h1:(fPV m (cor t ((i+1)%3))).p u1 W) (h2:(fPV m p).p u2 W)=>zMI h0 h1 h2 hm I (U.below (s.up hb))))<|oc zA<|oc (zTG (zBX (cor t i) (cor t ((i+1)%3)) p) (zO8 t p i) iiz iiz)<|zB) fun Q' hQ a w6 s=>yO (uI (zO8 t p (i+1))) rfl s kA iiz fun a w s=>zD rfl (hQ _ _ ?_)
  refine zW 1 ((23,.u (uI ((i+1:Nat):Int)))::[]) s kA
   (oc (yI .i64 (i:Int) 1 ((i+1:Nat):Int) iiz iiz (wrap64 _ _ oA oA))<|zB) fun a w7 s=>?_
  replace s:=s.drop [9]
  refine zBF (uI ((i+1:Nat):Int)) rfl s kA zA kA fun a w s=>zD rfl ?_
  replace s:=s.popB
  exact⟨i+1,hi,(by show 3-(i+1)<3-i;omega),s.keepK _ (fmz ⟨mz8,fmz ⟨mz2,fmz ⟨.head _,fnz⟩⟩⟩)⟩
 .have hi:i=3:=by have h7:=nH e;have h8:=hx;omega
  exact tR<|rgQ ((24,.Z (uI (zO8 t p i)))::(4,.u (uI (zO8 t p i)))::[]) s
   (oc zA<|oc zE<|zB) fun a w8 s=>pU<|wF s (t:=4) rfl (fun v W h=>by rw[<-zVA,<-hi];exact h)
abbrev trn(t:V6):Rat:=crs t.1 t.2.1 t.2.2
def arK(ts:List V6):Nat->Rat
 |0=>((0:Int):Rat)
 |k+1=>arK ts k+trn (at3 ts k)
theorem zRn(h:∀p,p∈tl t->QB p.1 1/\QB p.2 1):QB (trn t) 13:=
 ((((h t.2.1 fC).1.sub (h t.1 fC).1).mul ((h t.2.2 fC).2.sub (h t.1 fC).2)).sub (((h t.2.1 fC).2.sub (h t.1 fC).2).mul ((h t.2.2 fC).1.sub (h t.1 fC).1))).mono dA
theorem zOU{ts:List V6}(h:∀i,i<ts.length->∀p,p∈tl (at3 ts i)->QB p.1 1/\QB p.2 1):∀k,k<=ts.length->QB (arK ts k) (14*k+1)
 |0,_=>QB.zero oA
 |k+1,hk=>((zOU h k oA).add (zRn (h k oA))).mono oA
def prK(ps:List V2):Nat->Rat
 |0=>((0:Int):Rat)
 |k+1=>prK ps k+crd (at_ ps k,at_ ps ((k+1)%ps.length))
theorem zNs{ps:List V2}(h:∀p,p∈ps->QB p.1 1/\QB p.2 1):∀k,k<=ps.length->QB (prK ps k) (6*k+1)
 |0,_=>QB.zero oA
 |k+1,hk=>by
  have I:=h _ (zA7 (show k<ps.length by omega))
  have h2:=h _ (zA7 (show(k+1)%ps.length<ps.length from vW _ oA))
  exact((zNs h k oA).add (((I.1.mul h2.2).sub (I.2.mul h2.1)).mono (m':=5) dA)).mono oA
theorem zVo(ps:List V2):prK ps ps.length=arE ps:=by
 unfold arE
 rw[zEk,List.map_map]
 have:∀k,prK ps k=((List.range k).map (crd ∘ fun i=>(at_ ps i,at_ ps ((i+1)%ps.length)))).sum:=by
  intro k
  induction k with
  |zero=>rfl
  |succ k ih=>
   show prK ps k+_=_
   rw[ih,cS,rR,sI]
   simp
   rw[Rat.add_zero]
 exact this _
theorem zUc{l:WE}(hl:(SF.row 18 (trs 1 ts)).p l W)(hn:ts.length<=12)(hT:Tab W):Calls prog 24 #[l] W (Ret W (fQN (arK ts ts.length)).tS):=by
 refine z5 [(UF.eq l).tS] func24 rfl kA ⟨rfl,trivial⟩ fun a s=>?_
 replace s:=s.renew [(0,.u (UF.eq l))] (fmz ⟨.inr ⟨_,rfl,.head _⟩,fnz⟩)
 refine lQ<|rgK 0 [] s
  zB fun a w1 s=>z9 (CU.len 3) (cs:=zR3) kA rfl s kA (fun W=>rfl) rfl fun b2 a w s=>zD rfl<|lQ<|rgK 1 ((6,.u (fQN (arK ts 0)))::[]) s
  (oc (zG zC zT7 (fun I W hb (J:I=.int .i64 0)=>zU3 0 J dA))<|zB) fun a w2 s=>z9 (CU.len 3) (cs:=zR3) kA rfl s kA (fun W=>rfl) rfl fun b3 a w s=>zR (CU.agg (fQN (arK ts 0))) ((fQN (arK ts 0)).tS) rfl s kA rfl rfl rfl iiz iiz yJ fun a w s=>zD rfl<|lQ<|rgQ ((7,.u (UF.eq l))::(8,.u (uI ((trs 1 ts).length:Int)))::(9,.u (uI 0))::[]) s
  (oc zA<|oc (zY (z:=18) (Cs:=trs 1 ts) kA (fun v W hb h=>(zU hl h (s.up hb))) (fun _=>rfl))<|oc zA<|zB) fun a w3 s=>tQ<|zDY 3 (fun k=>CU.agg (fQN (arK ts k))) (fun k=>k<=ts.length) (fun k=> [(7,.u (UF.eq l)),(8,.u (uI ((trs 1 ts).length:Int))),(9,.u (uI ((k:Nat):Int)))]) (fun k=>ts.length-k) (0:Nat) (vR _) (s.keepK _ (fmz ⟨.head _,fmz ⟨mz1,fmz ⟨mz2,fnz⟩⟩⟩)) rfl fun k a w hx s=>?_
 have h5:(trs 1 ts).length=ts.length:=by simp
 refine rgQ ((10,.u (uB (ltz k ((trs 1 ts).length))))::[]) s
  (oc (zM .i64 (k:Int) ((trs 1 ts).length:Int) (ltz k ((trs 1 ts).length)) iiz iiz rfl rfl)<|zB) fun a w4 s=>lQ<|StS.cond s (ltz k ((trs 1 ts).length)) iiz (fun e=>?_) (fun e=>?_)
 .have hk:k<ts.length:=by have:=xW e;rw[h5]at this;omega
  have O:=zRm dA hl hk
  have h9:QB (arK ts k) 200:=(zOU (fun i hi=>zRm dA hl hi) k oA).mono oA
  have h8:QB (trn (at3 ts k)) 200:=(zRn O).mono dA
  have U:QB (((at3 ts k).2.1).1-((at3 ts k).1).1,((at3 ts k).2.1).2-((at3 ts k).1).2).1 3/\QB (((at3 ts k).2.1).1-((at3 ts k).1).1,((at3 ts k).2.1).2-((at3 ts k).1).2).2 3:=⟨((O _ (cK _ (cM ..))).1.sub (O _ (cM ..)).1).mono dA,((O _ (cK _ (cM ..))).2.sub (O _ (cM ..)).2).mono dA⟩
  have h4:QB (((at3 ts k).2.2).1-((at3 ts k).1).1,((at3 ts k).2.2).2-((at3 ts k).1).2).1 3/\QB (((at3 ts k).2.2).1-((at3 ts k).1).1,((at3 ts k).2.2).2-((at3 ts k).1).2).2 3:=⟨((O _ (cK _ (cK _ (cM ..)))).1.sub (O _ (cM ..)).1).mono dA,((O _ (cK _ (cK _ (cM ..)))).2.sub (O _ (cM ..)).2).mono dA⟩
  refine pV<|lQ<|tQ<|lQ<|rgK 2 ((11,.Y (fTR 1 (at3 ts k)))::(12,.u (fTR 1 (at3 ts k)))::[]) s
   (oc (zQ (z:=18) (Cs:=trs 1 ts) (i:=k) (C:=CU.agg (fTR 1 (at3 ts k))) kA (zJo hk) (fun v W hb h=>(zU hl h (s.up hb))) iiz)<|oc (zH (f:=fTR 1 (at3 ts k)) 18 kA (hz:=zKk _ _))<|zB) fun a w5 s=>z9 (CU.len 18) (cs:=[.bool false, sN, sN,.bool false, sN, sN,.bool false, sN, sN,.bool false, sN, sN,.bool false, sN, sN,.bool false, sN, sN]) kA rfl s kA (fun W=>rfl) rfl fun b5 a w s=>zR (CU.agg (fTR 1 (at3 ts k))) ((fTR 1 (at3 ts k)).tS) rfl s kA rfl rfl rfl iiz iiz zKh fun a w s=>zD rfl<|yL [] 14 ((13,.Z (fQN (arK ts k)))::(14,.X (fTR 1 (at3 ts k)) 6)::(15,.Z (fPV 1 ((at3 ts k).2.1)))::(16,.X (fTR 1 (at3 ts k)) 0)::(17,.Z (fPV 1 ((at3 ts k).1)))::(18,.Z (fPN (((at3 ts k).2.1).1-((at3 ts k).1).1,((at3 ts k).2.1).2-((at3 ts k).1).2)))::(19,.X (fTR 1 (at3 ts k)) 12)::(20,.Z (fPV 1 ((at3 ts k).2.2)))::(21,.X (fTR 1 (at3 ts k)) 0)::(22,.Z (fPV 1 ((at3 ts k).1)))::(23,.Z (fPN (((at3 ts k).2.2).1-((at3 ts k).1).1,((at3 ts k).2.2).2-((at3 ts k).1).2)))::(24,.Z (fQN (trn (at3 ts k))))::(25,.s (fQS 200 [(arK ts k),(trn (at3 ts k))]))::(26,.u (fQN (arK ts (k+1))))::[]) hmix s kA
   (oc (zH (f:=fQN (arK ts k)) 3 kA (hz:=qW _))<|oc (zB0 (C:=cg (fTR 1 (at3 ts k))) 1 6 kA (fun _ _ h=>h.2) iiz)<|oc (zV (C:=cg (fTR 1 (at3 ts k))) (k:=6) 6 kA (h:=zMx))<|oc (zB0 (C:=cg (fTR 1 (at3 ts k))) 0 0 kA (fun _ _ h=>h.2) iiz)<|oc (zV (C:=cg (fTR 1 (at3 ts k))) (k:=0) 6 kA (h:=zKi))<|oc (zI zC zQX (fun I u1 W hb (J:(fPV 1 ((at3 ts k).2.1)).p I W) (h1:(fPV 1 ((at3 ts k).1)).p u1 W)=>zKc (m:=1) (p:=(at3 ts k).2.1) (q:=(at3 ts k).1) J h1 dA dA (hT.below (s.up hb))))<|oc (zB0 (C:=cg (fTR 1 (at3 ts k))) 2 12 kA (fun _ _ h=>h.2) iiz)<|oc (zV (C:=cg (fTR 1 (at3 ts k))) (k:=12) 6 kA (h:=zJp))<|oc (zB0 (C:=cg (fTR 1 (at3 ts k))) 0 0 kA (fun _ _ h=>h.2) iiz)<|oc (zV (C:=cg (fTR 1 (at3 ts k))) (k:=0) 6 kA (h:=zKi))<|oc (zI zC zQX (fun I u1 W hb (J:(fPV 1 ((at3 ts k).2.2)).p I W) (h1:(fPV 1 ((at3 ts k).1)).p u1 W)=>zKc (m:=1) (p:=(at3 ts k).2.2) (q:=(at3 ts k).1) J h1 dA dA (hT.below (s.up hb))))<|oc (zI zC zT5 (fun I u1 W hb (J:(fPN (((at3 ts k).2.1).1-((at3 ts k).1).1,((at3 ts k).2.1).2-((at3 ts k).1).2)).p I W) (h1:(fPN (((at3 ts k).2.2).1-((at3 ts k).1).1,((at3 ts k).2.2).2-((at3 ts k).1).2)).p u1 W)=>zGU (m:=3) (p:=(((at3 ts k).2.1).1-((at3 ts k).1).1,((at3 ts k).2.1).2-((at3 ts k).1).2)) (q:=(((at3 ts k).2.2).1-((at3 ts k).1).1,((at3 ts k).2.2).2-((at3 ts k).1).2)) (zBz (p:=(((at3 ts k).2.1).1-((at3 ts k).1).1,((at3 ts k).2.1).2-((at3 ts k).1).2)) (m:=3) U.1 U.2 J) (zBz (p:=(((at3 ts k).2.2).1-((at3 ts k).1).1,((at3 ts k).2.2).2-((at3 ts k).1).2)) (m:=3) h4.1 h4.2 h1) U h4 dA dA (hT.below (s.up hb))))<|oc (yH (fun u v W (hu:QNp (arK ts k) u W) (hv:QNp (trn (at3 ts k)) v W)=>zFy (m:=200) (wL hu h9) (wL hv h8)))<|oc (zG zC zT6 (fun I W hb (J:(fQS 200 [(arK ts k),(trn (at3 ts k))]).p I W)=>zJz (m:=200) (p:=arK ts k) (q:=trn (at3 ts k)) J h9 h8 dA (hT.below (s.up hb))))<|zB) fun Q' hQ a w6 s=>zR (CU.agg (fQN (arK ts (k+1)))) ((fQN (arK ts (k+1))).tS) rfl s kA rfl rfl rfl (qW _) iiz yJ fun a w s=>zD rfl (hQ _ _ ?_)
  refine zW 1 ((27,.u (uI ((k+1:Nat):Int)))::[]) s kA
   (oc (yI .i64 (k:Int) 1 ((k+1:Nat):Int) iiz iiz (wrap64 _ _ oA oA))<|zB) fun a w7 s=>?_
  replace s:=s.drop [9]
  refine zBF (uI ((k+1:Nat):Int)) rfl s kA zA kA fun a w s=>zD rfl ?_
  replace s:=s.popB
  exact⟨k+1,hk,(by show ts.length-(k+1)<ts.length-k;omega),s.keepK _ (fmz ⟨mz5,fmz ⟨mz6,fmz ⟨.head _,fnz⟩⟩⟩)⟩
 .have hd:k=ts.length:=by have h7:=nH e;rw[h5]at h7;omega
  subst hd
  exact tR<|lQ<|rgK 1 ((28,.u (fQN (arK ts ts.length)))::[]) s
   (oc (zH (f:=fQN (arK ts ts.length)) 3 kA (hz:=qW _))<|zB) fun a w8 s=>zR (CU.agg (fQN (arK ts ts.length))) ((fQN (arK ts ts.length)).tS) rfl s kA rfl rfl rfl iiz iiz yJ fun a w s=>zD rfl<|pU<|wI s (CU.agg (fQN (arK ts ts.length))) rfl kA rfl rfl (qW _) (fun cs W h=>h)
theorem zTO{l:WE}(hl:(SF.row 6 (pvs 1 ps)).p l W)(hn:ps.length<=12)(hT:Tab W):Calls prog 91 #[l] W (Ret W (fQN (prK ps ps.length)).tS):=by
 have I:=zKN dA hl
 refine z5 [(UF.eq l).tS] func91 rfl kA ⟨rfl,trivial⟩ fun a s=>?_
 replace s:=s.renew [(0,.u (UF.eq l))] (fmz ⟨.inr ⟨_,rfl,.head _⟩,fnz⟩)
 refine lQ<|rgK 0 [] s
  zB fun a w1 s=>z9 (CU.len 3) (cs:=zR3) kA rfl s kA (fun W=>rfl) rfl fun b2 a w s=>zD rfl<|lQ<|rgK 1 ((6,.u (fQN (prK ps 0)))::[]) s
  (oc (zG zC zT7 (fun O W hb (h0:O=.int .i64 0)=>zU3 0 h0 dA))<|zB) fun a w2 s=>z9 (CU.len 3) (cs:=zR3) kA rfl s kA (fun W=>rfl) rfl fun b3 a w s=>zR (CU.agg (fQN (prK ps 0))) ((fQN (prK ps 0)).tS) rfl s kA rfl rfl rfl iiz iiz yJ fun a w s=>zD rfl<|lQ<|rgQ ((7,.u (UF.eq l))::(8,.u (uI ((pvs 1 ps).length:Int)))::(9,.u (uI 0))::[]) s
  (oc zA<|oc (zY (z:=6) (Cs:=pvs 1 ps) kA (fun v W hb h=>(zU hl h (s.up hb))) (fun _=>rfl))<|oc zA<|zB) fun a w3 s=>tQ<|zDY 3 (fun k=>CU.agg (fQN (prK ps k))) (fun k=>k<=ps.length) (fun k=> [(0,.u (UF.eq l)),(7,.u (UF.eq l)),(8,.u (uI ((pvs 1 ps).length:Int))),(9,.u (uI ((k:Nat):Int)))]) (fun k=>ps.length-k) (0:Nat) (vR _) (s.keepK _ (fmz ⟨mz4,fmz ⟨.head _,fmz ⟨mz1,fmz ⟨mz2,fnz⟩⟩⟩⟩)) rfl fun k a w hx s=>?_
 have J:(pvs 1 ps).length=ps.length:=by simp
 refine rgQ ((10,.u (uB (ltz k ((pvs 1 ps).length))))::[]) s
  (oc (zM .i64 (k:Int) ((pvs 1 ps).length:Int) (ltz k ((pvs 1 ps).length)) iiz iiz rfl rfl)<|zB) fun a w4 s=>lQ<|StS.cond s (ltz k ((pvs 1 ps).length)) iiz (fun e=>?_) (fun e=>?_)
 .have U:k<ps.length:=by have:=xW e;rw[J]at this;omega
  have hj:(k+1)%ps.length<ps.length:=vW _ oA
  have h6:QB (prK ps k) 200:=(zNs I k oA).mono oA
  have h5:QB (crd ((at_ ps k),(tn ps k))) 200:=((((I _ (zA7 U)).1.mul (I _ (zA7 hj)).2).sub ((I _ (zA7 U)).2.mul (I _ (zA7 hj)).1)).mono (m':=5) dA).mono dA
  refine pV<|lQ<|tQ<|lQ<|rgK 3 ((11,.u (uI (k:Int)))::(12,.Y (fPV 1 (at_ ps k)))::(13,.u (fPV 1 (at_ ps k)))::[]) s
   (oc zA<|oc (zQ (z:=6) (Cs:=pvs 1 ps) (i:=k) (C:=CU.agg (fPV 1 (at_ ps k))) kA (qI U) (fun v W hb h=>(zU hl h (s.up hb))) iiz)<|oc (zH (f:=fPV 1 (at_ ps k)) 6 kA (hz:=zL _ _))<|zB) fun a w5 s=>z9 (CU.len 6) (cs:=zP6) kA rfl s kA (fun W=>rfl) rfl fun b5 a w s=>yO (uI (k:Int)) rfl s kA iiz fun a w s=>zR (CU.agg (fPV 1 (at_ ps k))) ((fPV 1 (at_ ps k)).tS) rfl s kA rfl rfl rfl iiz iiz y7 fun a w s=>zD rfl<|yL [2,3,5] 13 ((14,.Z (fQN (prK ps k)))::(15,.Z (fPV 1 (at_ ps k)))::(16,.Z (UF.eq l))::(17,.Z (uI (k:Int)))::(18,.Z (uI ((k+1:Nat):Int)))::(19,.Z (UF.eq l))::(20,.Z (uI ((pvs 1 ps).length:Int)))::(21,.Z (uI (((k+1)%ps.length:Nat):Int)))::(22,.Y (fPV 1 (tn ps k)))::(23,.Z (fPV 1 (tn ps k)))::(24,.Z (fQN (crd ((at_ ps k),(tn ps k)))))::(25,.s (fQS 200 [(prK ps k),(crd ((at_ ps k),(tn ps k)))]))::(26,.u (fQN (prK ps (k+1))))::[]) hmix s kA
   (oc (zH (f:=fQN (prK ps k)) 3 kA (hz:=qW _))<|oc (zH (f:=fPV 1 (at_ ps k)) 6 kA (hz:=zL _ _))<|oc zA<|oc zA<|oc (yI .i64 (k:Int) 1 ((k+1:Nat):Int) iiz iiz (wrap64 _ _ oA oA))<|oc zA<|oc (zY (z:=6) (Cs:=pvs 1 ps) kA (fun v W hb h=>(zU hl h (s.up hb))) (fun _=>rfl))<|oc (zBb .i64 ((k+1:Nat):Int) ((pvs 1 ps).length:Int) (((k+1)%ps.length:Nat):Int) iiz iiz (by rw[J];omega) (by rw[J];exact zBY _ _))<|oc (zQ (z:=6) (Cs:=pvs 1 ps) (i:=((k+1)%ps.length)) (C:=CU.agg (fPV 1 (tn ps k))) kA (qI hj) (fun v W hb h=>(zU hl h (s.up hb))) iiz)<|oc (zH (f:=fPV 1 (tn ps k)) 6 kA (hz:=zL _ _))<|oc (zI zC zT5 (fun O u1 W hb (h0:(fPV 1 (at_ ps k)).p O W) (h1:(fPV 1 (tn ps k)).p u1 W)=>zGU (m:=1) (p:=(at_ ps k)) (q:=(tn ps k)) h0 h1 (I _ (zA7 U)) (I _ (zA7 hj)) dA dA (hT.below (s.up hb))))<|oc (yH (fun u v W (hu:QNp (prK ps k) u W) (hv:QNp (crd ((at_ ps k),(tn ps k))) v W)=>zFy (m:=200) (wL hu h6) (wL hv h5)))<|oc (zG zC zT6 (fun O W hb (h0:(fQS 200 [(prK ps k),(crd ((at_ ps k),(tn ps k)))]).p O W)=>zJz (m:=200) (p:=prK ps k) (q:=(crd ((at_ ps k),(tn ps k)))) h0 h6 h5 dA (hT.below (s.up hb))))<|zB) fun Q' hQ a w6 s=>zR (CU.agg (fQN (prK ps (k+1)))) ((fQN (prK ps (k+1))).tS) rfl s kA rfl rfl rfl (qW _) iiz yJ fun a w s=>zD rfl (hQ _ _ ?_)
  refine zW 1 ((27,.u (uI ((k+1:Nat):Int)))::[]) s kA
   (oc (yI .i64 (k:Int) 1 ((k+1:Nat):Int) iiz iiz (wrap64 _ _ oA oA))<|zB) fun a w7 s=>?_
  replace s:=s.drop [9]
  refine zBF (uI ((k+1:Nat):Int)) rfl s kA zA kA fun a w s=>zD rfl ?_
  replace s:=s.popB
  exact⟨k+1,U,(by show ps.length-(k+1)<ps.length-k;omega),s.keepK _ (fmz ⟨mz7,fmz ⟨mz8,fmz ⟨mz9,fmz ⟨.head _,fnz⟩⟩⟩⟩)⟩
 .have ha:k=ps.length:=by have h7:=nH e;rw[J]at h7;omega
  subst ha
  exact tR<|lQ<|rgK 1 ((28,.u (fQN (prK ps ps.length)))::[]) s
   (oc (zH (f:=fQN (prK ps ps.length)) 3 kA (hz:=qW _))<|zB) fun a w8 s=>zR (CU.agg (fQN (prK ps ps.length))) ((fQN (prK ps ps.length)).tS) rfl s kA rfl rfl rfl iiz iiz yJ fun a w s=>zD rfl<|pU<|wI s (CU.agg (fQN (prK ps ps.length))) rfl kA rfl rfl (qW _) (fun cs W h=>h)
theorem zVy{l:WE}(hl:(SF.row 6 (pvs 1 ps)).p l W)(hn:ps.length<=12)(U:Tab W):Calls prog 62 #[l] W (Ret W (fI ((arE ps).num.sign)).tS):=by
 have I:=zKN dA hl
 refine z5 [SF.row 6 (pvs 1 ps)] func62 rfl kA ⟨hl,trivial⟩ fun a s=>rgQ ((2,.u (uI 0))::[]) s
  (oc zE<|zB) fun a w1 s=>lQ ?_
 replace s:=s.drop [2]
 exact rgE ((3,.s (SF.row 6 (pvs 1 ps)))::(4,.Z (fQN (prK ps ps.length)))::(5,.Z (uI ((arE ps).num.sign)))::(2,.u (uI ((arE ps).num.sign)))::[]) s
  (oc zA<|oc (zG zC zXz (fun J W hb (O:(SF.row 6 (pvs 1 ps)).p J W)=>zTO O hn (U.below (s.up hb))))<|oc (zG zC zVQ (fun J W hb (O:QNp (prK ps ps.length) J W)=>(zM7 (m:=200) (wL O ((zNs I _ lr).mono oA)) dA dA (U.below (s.up hb))).mono (wH (fun v W h=>by rw[<-zVo];exact h))))<|oc zE<|zB) fun a w2 s=>pU<|wF s (t:=2) rfl iiz
def atK(ps:List V2)(k:Nat):Int:=if k=0 then -1 else((fK ps k:Nat):Int)
theorem zEN(h:0<k):atK ps k=((fK ps k:Nat):Int):=if_neg oA
theorem zQT(ps:List V2){k:Nat}(h:0<k):fK ps k<k:=by
 obtain⟨n,rfl⟩:∃n,k=n+1:=⟨k-1,by omega⟩
 have:=zQS ps n
 omega
theorem zUn(ps:List V2):atK ps 1=((0:Nat):Int):=by
 rw[zEN dA]
 have:=zQT ps (show 0<1 by decide)
 omega
theorem zUp(e:decide (jZ (at_ ps k) (at_ ps (fK ps k))<0)=true):atK ps (k+1)=(k:Int):=by
 rw[zEN oA]
 congr 1
 show(if _ then k else fK ps k)=k
 exact if_pos (xW e)
theorem zUo(e:decide (jZ (at_ ps k) (at_ ps (fK ps k))<0)=false):atK ps (k+1)=((fK ps k:Nat):Int):=by
 rw[zEN oA]
 congr 1
 show(if _ then k else fK ps k)=fK ps k
 exact if_neg (nH e)
theorem zKl{m:Nat}{l:WE}(hl:(SF.row 6 (pvs m ps)).p l W)(hm:m<=100)(h5:0<m)(hn:ps.length<=1000000)(hT:Tab W):Calls prog 66 #[l] W (Ret W (fI (atK ps ps.length)).tS):=by
 refine z5 [(UF.eq l).tS] func66 rfl kA ⟨rfl,trivial⟩ fun a s=>?_
 replace s:=s.renew [(0,.u (UF.eq l))] (fmz ⟨.inr ⟨_,rfl,.head _⟩,fnz⟩)
 refine rgQ ((2,.u (uI 0))::[]) s
  (oc zE<|zB) fun a w1 s=>rgQ ((3,.u (uI (-1)))::[]) s
  (oc zE<|zB) fun a w2 s=>lQ<|rgQ ((6,.u (UF.eq l))::(7,.u (uI ((pvs m ps).length:Int)))::(8,.u (uI 0))::[]) s
  (oc zA<|oc (zY (z:=6) (Cs:=pvs m ps) kA (fun v W hb h=>(zU hl h (s.up hb))) (fun _=>rfl))<|oc zA<|zB) fun a w3 s=>tQ<|zAg (fun k=>k<=ps.length) (fun k=> [(0,.u (UF.eq l)),(6,.u (UF.eq l)),(7,.u (uI ((pvs m ps).length:Int))),(3,.u (uI (atK ps k))),(8,.u (uI ((k:Nat):Int)))]) (fun k=>ps.length-k) (0:Nat) (vR _) (s.keepK _ (fmz ⟨mz5,fmz ⟨.head _,fmz ⟨mz1,fmz ⟨mz3,fmz ⟨mz2,fnz⟩⟩⟩⟩⟩)) fun k a w hx s=>?_
 have I:(pvs m ps).length=ps.length:=by simp
 refine rgQ ((9,.u (uB (ltz k ((pvs m ps).length))))::[]) s
  (oc (zM .i64 (k:Int) ((pvs m ps).length:Int) (ltz k ((pvs m ps).length)) iiz iiz rfl rfl)<|zB) fun a w4 s=>lQ<|StS.cond s (ltz k ((pvs m ps).length)) iiz (fun e=>?_) (fun e=>?_)
 .have O:k<ps.length:=by have:=xW e;rw[I]at this;omega
  refine pV<|lQ<|tQ<|lQ<|rgK 3 ((10,.u (uI (k:Int)))::(11,.Y (fPV m (at_ ps k)))::(12,.u (fPV m (at_ ps k)))::[]) s
   (oc zA<|oc (zQ (z:=6) (Cs:=pvs m ps) (i:=k) (C:=CU.agg (fPV m (at_ ps k))) kA (qI O) (fun v W hb h=>(zU hl h (s.up hb))) iiz)<|oc (zH (f:=fPV m (at_ ps k)) 6 kA (hz:=zL _ _))<|zB) fun a w5 s=>z9 (CU.len 6) (cs:=zP6) kA rfl s kA (fun W=>rfl) rfl fun b5 a w s=>yO (uI (k:Int)) rfl s kA iiz fun a w s=>zR (CU.agg (fPV m (at_ ps k))) ((fPV m (at_ ps k)).tS) rfl s kA rfl rfl rfl iiz iiz y7 fun a w s=>zD rfl<|lQ ?_
  rcases uH k with J|J
  .refine rgE ((13,.Z (uI (atK ps k)))::(14,.Z (uB true))::(15,.Z (uB true))::(23,.u (uB true))::[]) s
    (oc zA<|oc (zM .i64 (atK ps k) 0 true iiz iiz (by subst J;rfl) rfl)<|oc zA<|oc (zF 15 true kA iiz (fun e=>by cases e) (fun _ _=>trivial))<|oc (zF 15 true kA iiz (fun e=>by cases e) (fun _ _=>trivial))<|oc (zF 15 true kA iiz (fun e=>by cases e) (fun _ _=>trivial))<|oc (zF 15 true kA iiz (fun e=>by cases e) (fun _ _=>trivial))<|oc (zF 15 true kA iiz (fun e=>by cases e) (fun _ _=>trivial))<|oc (zF 15 true kA iiz (fun e=>by cases e) (fun _ _=>trivial))<|oc (zF 15 true kA iiz (fun e=>by cases e) (fun _ _=>trivial))<|oc (yS true iiz fD (fun e=>by cases e))<|zB) fun a w6 s=>?_
   refine StS.cond s true iiz (fun e=>?_) (fun e=>by cases e)
   replace s:=s.drop [3]
   refine rgE ((24,.Z (uI (k:Int)))::(3,.u (uI (atK ps (k+1))))::[]) s
    (oc zA<|oc (zE (fun v W _ h=>by rw[show atK ps (k+1)=(k:Int) by subst J;exact zUn ps];exact h))<|zB) fun a w7 s=>zW 1 ((25,.u (uI ((k+1:Nat):Int)))::[]) s kA
    (oc (yI .i64 (k:Int) 1 ((k+1:Nat):Int) iiz iiz (wrap64 _ _ oA oA))<|zB) fun a w8 s=>?_
   replace s:=s.drop [8]
   refine zBF (uI ((k+1:Nat):Int)) rfl s kA zA kA fun a w s=>zD rfl ?_
   replace s:=s.popB
   exact⟨k+1,O,(by show ps.length-(k+1)<ps.length-k;omega),s.keepK _ (fmz ⟨mz8,fmz ⟨mz9,fmz ⟨zMe,fmz ⟨mz2,fmz ⟨.head _,fnz⟩⟩⟩⟩⟩)⟩
  .have hf:fK ps k<ps.length:=by have:=zQT ps J;omega
   rw[zEN J]at s
   refine rgE ((13,.Z (uI ((fK ps k:Nat):Int)))::(14,.Z (uB false))::(15,.Z (uB false))::(16,.Z (fPV m (at_ ps k)))::(17,.Z (UF.eq l))::(18,.Z (uI ((fK ps k:Nat):Int)))::(19,.Y (fPV m (at_ ps (fK ps k))))::(20,.Z (fPV m (at_ ps (fK ps k))))::(21,.Z (uI (jZ (at_ ps k) (at_ ps (fK ps k)))))::(22,.Z (uB (decide (jZ (at_ ps k) (at_ ps (fK ps k))<0))))::(23,.u (uB (decide (jZ (at_ ps k) (at_ ps (fK ps k))<0))))::[]) s
    (oc zA<|oc (zM .i64 ((fK ps k:Nat):Int) 0 false iiz iiz (xY oA) rfl)<|oc zA<|oc (zF 15 false kA iiz (fun _=>zH (f:=fPV m (at_ ps k)) 6 kA (hz:=zL _ _)) arf)<|oc (zF 15 false kA iiz (fun _=>zA) arf)<|oc (zF 15 false kA iiz (fun _=>zA) arf)<|oc (zF 15 false kA iiz (fun _=>zQ (z:=6) (Cs:=pvs m ps) (i:=(fK ps k)) (C:=CU.agg (fPV m (at_ ps (fK ps k)))) kA (qI hf) (fun v W hb h=>(zU hl h (s.up hb))) iiz) arf)<|oc (zF 15 false kA iiz (fun _=>zH (f:=fPV m (at_ ps (fK ps k))) 6 kA (hz:=zL _ _)) arf)<|oc (zF 15 false kA iiz (fun _=>zI zC zXy (fun u0 u1 W hb (h0:(fPV m (at_ ps k)).p u0 W) (h1:(fPV m (at_ ps (fK ps k))).p u1 W)=>zUF (m:=m) h0 h1 oA h5 (hT.below (s.up hb)))) arf)<|oc (zF 15 false kA iiz (fun _=>zM .i64 (jZ (at_ ps k) (at_ ps (fK ps k))) 0 (decide (jZ (at_ ps k) (at_ ps (fK ps k))<0)) iiz iiz rfl rfl) arf)<|oc (yS false iiz (fun e=>by cases e) fD)<|zB) fun a w9 s=>StS.cond s (decide (jZ (at_ ps k) (at_ ps (fK ps k))<0)) iiz (fun e=>?_) (fun e=>?_)
   .replace s:=s.drop [3]
    refine rgE ((24,.Z (uI (k:Int)))::(3,.u (uI (atK ps (k+1))))::[]) s
     (oc zA<|oc (zE (fun v W _ h=>by rw[zUp e];exact h))<|zB) fun a w10 s=>zW 1 ((25,.u (uI ((k+1:Nat):Int)))::[]) s kA
     (oc (yI .i64 (k:Int) 1 ((k+1:Nat):Int) iiz iiz (wrap64 _ _ oA oA))<|zB) fun a w11 s=>?_
    replace s:=s.drop [8]
    refine zBF (uI ((k+1:Nat):Int)) rfl s kA zA kA fun a w s=>zD rfl ?_
    replace s:=s.popB
    exact⟨k+1,O,(by show ps.length-(k+1)<ps.length-k;omega),s.keepK _ (fmz ⟨mz8,fmz ⟨mz9,fmz ⟨zMe,fmz ⟨mz2,fmz ⟨.head _,fnz⟩⟩⟩⟩⟩)⟩
   .rw[<-zUo e]at s
    refine pV<|zW 1 ((25,.u (uI ((k+1:Nat):Int)))::[]) s kA
     (oc (yI .i64 (k:Int) 1 ((k+1:Nat):Int) iiz iiz (wrap64 _ _ oA oA))<|zB) fun a w12 s=>?_
    replace s:=s.drop [8]
    refine zBF (uI ((k+1:Nat):Int)) rfl s kA zA kA fun a w s=>zD rfl ?_
    replace s:=s.popB
    exact⟨k+1,O,(by show ps.length-(k+1)<ps.length-k;omega),s.keepK _ (fmz ⟨mz7,fmz ⟨mz8,fmz ⟨mz9,fmz ⟨zMe,fmz ⟨.head _,fnz⟩⟩⟩⟩⟩)⟩
 .have U:k=ps.length:=by have h7:=nH e;rw[I]at h7;omega
  exact tR<|rgQ ((26,.Z (uI (atK ps k)))::(2,.u (uI (atK ps k)))::[]) s
   (oc zA<|oc zE<|zB) fun a w13 s=>pU<|wF s (t:=2) rfl (fun v W h=>by rw[<-U];exact h)
abbrev eR(m:Nat)(ps:List V2)(idx:Nat->Nat)(k:Nat):List UF:=[fPV m (at_ ps (idx k))]
def zO1(F S:Int)(n:Nat)(idx:Nat->Nat):Prop:= -1<=S/\S<=1/\-1000000<=F/\F<=1000000/\∀i,i<n->idx i<n/\((0<=(F+(i:Int)*S).tmod (n:Int)/\(F+(i:Int)*S).tmod (n:Int)=((idx i:Nat):Int))∨((F+(i:Int)*S).tmod (n:Int)<0/\(F+(i:Int)*S).tmod (n:Int)+(n:Int)=((idx i:Nat):Int)))
theorem zS3{m b1 b2 b3:Nat}{F S:Int}{l:WE}(hC:w_.heap[b1]?=some (.cells #[l] 22 (0,0)))(hD:w_.heap[b2]?=some (.cells #[.int .i64 F] 3 (0,0)))(hs:w_.heap[b3]?=some (.cells #[.int .i64 S] 3 (0,0)))(hl:(SF.row 6 (pvs m ps)).p l w0)(hA:bW w0 w_)(hS:∀k,C k->w0.heap.size<=k)(hZ: ¬C b1)(qe: ¬C b2)(hX: ¬C b3)(hn:ps.length<=1000000)(hR:zO1 F S ps.length idx):
  ItD prog 122 #[pO b1 0,pO b2 0,pO b3 0] (eR m ps idx) ps.length C w_:=by
 intro l_ J Z W hwW hh hkW h5 hM U q1
 obtain⟨hS1,hS2,hF1,hF2,hW⟩:=hR
 have q0:=zD2 hl
 have hO:w0.heap.size<=w_.heap.size:=hA.size
 have hd:bW w0 W:=hA.trans (hh.mono hA.size)
 have qf:=(SF.row 6 (pvs m ps)).st _ _ _ hl hd
 have q2:W.heap[b1]?=some (.cells #[l] 22 (0,0)):=(hh.block b1 (xP.1 hC).1).trans hC
 have q5:W.heap[b2]?=some (.cells #[.int .i64 F] 3 (0,0)):=(hh.block b2 (xP.1 hD).1).trans hD
 have q7:W.heap[b3]?=some (.cells #[.int .i64 S] 3 (0,0)):=(hh.block b3 (xP.1 hs).1).trans hs
 refine zHL func122 rfl ?_
 have s:=zG5 (w:=W) (fn:=f122) (args:=#[.func (.yield l_) #[] #[]]++#[pO b1 0,pO b2 0,pO b3 0]) noS [(0,UF.eq (.func (.yield l_) #[] #[]))] [⟨1,22,wC [l],b1,true⟩,⟨2,3,wC [.int .i64 F],b2,true⟩,⟨3,3,wC [.int .i64 S],b3,true⟩] kA (fun q O=>by obtain rfl:=tS.1 O;exact⟨by simp,rfl⟩) ⟨⟨[l],rfl,.inl rfl,q2,rfl,by simp[q0.2],fun y hy=>.inr ⟨rfl,by rcases xS.1 hy with rfl|hy;rfl;obtain rfl:=tS.1 hy;rfl⟩⟩,⟨[.int .i64 F],rfl,.inl rfl,q5,rfl,rfl,fun y hy=>.inr ⟨rfl,by obtain rfl:=tS.1 hy;rfl⟩⟩,⟨[.int .i64 S],rfl,.inl rfl,q7,rfl,rfl,fun y hy=>by cases hy⟩,trivial⟩ (fun x hx=>by
  simp only[xS,rO,rN]at hx
  rcases hx with rfl|rfl|rfl
  .show 1<4;decide
  .show 2<4;decide
  .show 3<4;decide)
 generalize({ tmps:=#[.func (.yield l_) #[] #[]]++#[pO b1 0,pO b2 0,pO b3 0]++Array.replicate (f122.ntmps-(#[.func (.yield l_) #[] #[]]++#[pO b1 0,pO b2 0,pO b3 0]:Array WE).size) undef,defers:=[] }:Act)=a at s ⊢
 have ha:(pvs m ps).length=ps.length:=by simp
 have hp:∀q, ¬inB [⟨1,22,wC [l],b1,true⟩,⟨2,3,wC [.int .i64 F],b2,true⟩,⟨3,3,wC [.int .i64 S],b3,true⟩] q:=fun q ⟨x,hx,_,hr⟩=>by
  simp only[xS,rO,rN]at hx
  rcases hx with rfl|rfl|rfl<;>cases hr
 have hV:∀x,x∈([⟨1,22,wC [l],b1,true⟩,⟨2,3,wC [.int .i64 F],b2,true⟩,⟨3,3,wC [.int .i64 S],b3,true⟩]:List Bx)->x.b<w_.heap.size/\ ¬C x.b:=fun x hx=>by
  simp only[xS,rO,rN]at hx
  rcases hx with rfl|rfl|rfl
  .exact⟨(xP.1 hC).1,hZ⟩
  .exact⟨(xP.1 hD).1,qe⟩
  .exact⟨(xP.1 hs).1,hX⟩
 refine rgQ ((7,.u (UF.eq l))::(8,.u (uI ((pvs m ps).length:Int)))::(9,.u (uI 0))::[]) s
  (oc (qB (C:=(wC [l]).cf) kA (fun _ _ h=>h.2) zAK)<|oc (zY (z:=6) (Cs:=pvs m ps) kA (fun v W hb h=>(zU qf h (s.up hb))) (fun _=>rfl))<|oc zA<|zB) fun a w1 s=>tQ ?_
 have qj:J 0 (fun _=>False) w1:=h5 _ _ _ _ _ q1 s.below (fun q O=>O.elim)
 have qd:=hd.trans (s.below.mono hd.size)
 have q3:=s.gr.size
 replace s:=(s.keepK [(0,.u (UF.eq (.func (.yield l_) #[] #[]))),(7,.u (UF.eq l)),(8,.u (uI ((pvs m ps).length:Int))),(9,.u (uI ((0:Nat):Int)))] (fmz ⟨mz3,fmz ⟨.head _,fmz ⟨mz1,fmz ⟨mz2,fnz⟩⟩⟩⟩)).self (yX kA)
 refine zDu (fun k a w=>k<=ps.length/\J k (fun _=>False) w/\bW w0 w/\W.heap.size<=w.heap.size/\StS (inB [⟨1,22,wC [l],b1,true⟩,⟨2,3,wC [.int .i64 F],b2,true⟩,⟨3,3,wC [.int .i64 S],b3,true⟩]) w [(0,.u (UF.eq (.func (.yield l_) #[] #[]))),(7,.u (UF.eq l)),(8,.u (uI ((pvs m ps).length:Int))),(9,.u (uI ((k:Nat):Int)))] [⟨1,22,wC [l],b1,true⟩,⟨2,3,wC [.int .i64 F],b2,true⟩,⟨3,3,wC [.int .i64 S],b3,true⟩] f122.ntmps [] a w) (fun k=>ps.length-k) 0 ⟨vR _,qj,qd,q3,s⟩ fun k a w ⟨hk',hJ,he,hN,s⟩=>?_
 replace s:=s.toSt hp rfl
 have hf:=(SF.row 6 (pvs m ps)).st _ _ _ hl he
 refine rgQ ((10,.u (uB (ltz k ((pvs m ps).length))))::[]) s
  (oc (zM .i64 (k:Int) ((pvs m ps).length:Int) (ltz k ((pvs m ps).length)) iiz iiz rfl rfl)<|zB) fun a w2 s=>lQ<|StS.cond s (ltz k ((pvs m ps).length)) iiz (fun e=>?_) (fun e=>?_)
 .have hk:k<ps.length:=by have h7:=xW e;rw[ha]at h7;omega
  obtain⟨hP,qa⟩:=hW k hk
  have hkS: -1000000<=(k:Int)*S/\(k:Int)*S<=1000000:=by
   rcases(by omega:S= -1∨S=0∨S=1)with rfl|rfl|rfl<;>omega
  refine pV<|lQ<|tQ<|rgQ ((11,.s (uI (k:Int)).tS)::(5,.u (uI (k:Int)))::[]) s
   (oc zA<|oc zE<|zB) fun a w3 s=>rgQ ((12,.s (uI F).tS)::(13,.s (uI (k:Int)).tS)::(14,.s (uI S).tS)::(15,.s (uI ((k:Int)*S)).tS)::(16,.s (uI (F+(k:Int)*S)).tS)::(17,.s (UF.eq l).tS)::(18,.s (uI ((pvs m ps).length:Int)).tS)::(19,.s (uI ((F+(k:Int)*S).tmod (ps.length:Int))).tS)::(6,.u (uI ((F+(k:Int)*S).tmod (ps.length:Int))))::[]) s
   (oc (qB (C:=(wC [.int .i64 F]).cf) kA (fun _ _ h=>h.2) zAK)<|oc zA<|oc (qB (C:=(wC [.int .i64 S]).cf) kA (fun _ _ h=>h.2) zAK)<|oc (zTF .i64 (k:Int) S ((k:Int)*S) iiz iiz (by rw[sS];omega))<|oc (yI .i64 F ((k:Int)*S) (F+(k:Int)*S) iiz iiz (by rw[sS];omega))<|oc (qB (C:=(wC [l]).cf) kA (fun _ _ h=>h.2) zAK)<|oc (zY (z:=6) (Cs:=pvs m ps) kA (fun v W hb h=>(zU hf h (s.up hb))) (fun _=>rfl))<|oc (zBb .i64 (F+(k:Int)*S) ((pvs m ps).length:Int) ((F+(k:Int)*S).tmod (ps.length:Int)) iiz iiz (by rw[ha];omega) (by rw[ha]))<|oc zE<|zB) fun a w4 s=>lQ ?_
  rcases qa with⟨qi,hF⟩|⟨qi,hF⟩
  .refine lQ ?_
   refine rgE ((20,.s (uI ((F+(k:Int)*S).tmod (ps.length:Int))).tS)::(21,.u (uB false))::[]) s
    (oc zA<|oc (zM .i64 ((F+(k:Int)*S).tmod (ps.length:Int)) 0 false iiz iiz (xY oA) rfl)<|zB) fun a w5 s=>StS.cond s false iiz (fun e=>by cases e) (fun e=>?_)
   refine pV ?_
   rw[hF]at s
   refine lQ<|rgK 5 ((26,.u (UF.eq (.func (.yield l_) #[] #[])))::(27,.s (UF.eq l).tS)::(28,.s (uI ((idx k:Nat):Int)).tS)::(29,.Y (fPV m (at_ ps (idx k))))::(30,.u (fPV m (at_ ps (idx k))))::[]) s
    (oc zA<|oc (qB (C:=(wC [l]).cf) kA (fun _ _ h=>h.2) zAK)<|oc zA<|oc (zQ (z:=6) (Cs:=pvs m ps) (i:=idx k) (C:=CU.agg (fPV m (at_ ps (idx k)))) kA (qI hP) (fun v W hb h=>(zU hf h (s.up hb))) iiz)<|oc (zH (f:=fPV m (at_ ps (idx k))) 6 kA (hz:=zL _ _))<|zB) fun a w4 s=>?_
   have hu:J k (fun _=>False) w4:=h5 _ _ _ _ _ hJ s.below (fun q O=>O.elim)
   have h6:=he.trans (s.below.mono he.size)
   have qk:W.heap.size<=w4.heap.size:=xQ hN s.gr.size
   refine zG0 rfl s iiz kA (yX kA) hV (U _ _ _ _ hk hu (fun q O=>O.elim) ⟨by simp,fun i f hi=>?_⟩) fun a w5 bv hr hc s=>?_
   .match i,hi with
    |0,hi=>obtain rfl:=nO hi;rw[zVM];exact s.at.sl 30
   have hT:=hr.size
   have I:=zGt h6 hr hO hS
   have hw:bv=false->Z w5:=fun e2=>by rcases hc with⟨e3,_⟩|⟨_,hz⟩;rw[e2]at e3;cases e3;exact hz
   have hE:bv=true->J (k+1) (fun _=>False) w5:=fun e2=>by rcases hc with⟨_,hj⟩|⟨e3,_⟩;exact hj;rw[e2]at e3;cases e3
   replace s:=s.toSt hp rfl
   refine zBF (uB (!bv)) rfl s kA (zDB bv iiz (fun _=>rfl)) kA fun a w s=>zD rfl<|StS.cond s (!bv) iiz (fun e=>?_) (fun e=>?_)
   .have hz:=hw (by simpa using e)
    exact pU<|⟨s.nd,.tuple #[],by simp[results,results122],⟨_,rfl⟩,.inr (hM _ _ hz s.below)⟩
   .have hK:=hE (by simpa using e)
    refine pV<|zW 1 ((33,.u (uI ((k+1:Nat):Int)))::[]) s kA
     (oc (yI .i64 (k:Int) 1 ((k+1:Nat):Int) iiz iiz (wrap64 _ _ oA oA))<|zB) fun a w6 s=>?_
    replace s:=s.drop [9]
    refine zBF (uI ((k+1:Nat):Int)) rfl s kA zA kA fun a w7 s=>zD rfl ?_
    have hU:=s.gr.size
    refine⟨k+1,by show ps.length-(k+1)<ps.length-k;omega,hk,h5 _ _ _ _ _ hK s.below (fun q O=>O.elim),I.trans (s.below.mono I.size),by omega,(s.keepK _ ?_).self (yX kA)⟩
    exact fmz ⟨zMe,fmz ⟨zUz,fmz ⟨zWN,fmz ⟨.head _,fnz⟩⟩⟩⟩
  .refine lQ ?_
   refine rgE ((20,.s (uI ((F+(k:Int)*S).tmod (ps.length:Int))).tS)::(21,.u (uB true))::[]) s
    (oc zA<|oc (zM .i64 ((F+(k:Int)*S).tmod (ps.length:Int)) 0 true iiz iiz (lI oA) rfl)<|zB) fun a w5 s=>StS.cond s true iiz (fun e=>?_) (fun e=>by cases e)
   refine zW 4 ((22,.s (uI ((F+(k:Int)*S).tmod (ps.length:Int))).tS)::(23,.s (UF.eq l).tS)::(24,.s (uI ((pvs m ps).length:Int)).tS)::(25,.u (uI ((idx k:Nat):Int)))::[]) s kA
    (oc zA<|oc (qB (C:=(wC [l]).cf) kA (fun _ _ h=>h.2) zAK)<|oc (zY (z:=6) (Cs:=pvs m ps) kA (fun v W hb h=>(zU hf h (s.up hb))) (fun _=>rfl))<|oc (yI .i64 ((F+(k:Int)*S).tmod (ps.length:Int)) ((pvs m ps).length:Int) ((idx k:Nat):Int) iiz iiz (by rw[ha,hF];exact wrap64 _ _ rfl oA))<|zB) fun a w6 s=>?_
   replace s:=s.drop [6]
   refine yO (uI ((idx k:Nat):Int)) rfl s kA iiz fun a w s=>zD rfl<|lQ<|rgK 5 ((26,.u (UF.eq (.func (.yield l_) #[] #[])))::(27,.s (UF.eq l).tS)::(28,.s (uI ((idx k:Nat):Int)).tS)::(29,.Y (fPV m (at_ ps (idx k))))::(30,.u (fPV m (at_ ps (idx k))))::[]) s
    (oc zA<|oc (qB (C:=(wC [l]).cf) kA (fun _ _ h=>h.2) zAK)<|oc zA<|oc (zQ (z:=6) (Cs:=pvs m ps) (i:=idx k) (C:=CU.agg (fPV m (at_ ps (idx k)))) kA (qI hP) (fun v W hb h=>(zU hf h (s.up hb))) iiz)<|oc (zH (f:=fPV m (at_ ps (idx k))) 6 kA (hz:=zL _ _))<|zB) fun a w4 s=>?_
   have hu:J k (fun _=>False) w4:=h5 _ _ _ _ _ hJ s.below (fun q O=>O.elim)
   have h6:=he.trans (s.below.mono he.size)
   have qk:W.heap.size<=w4.heap.size:=xQ hN s.gr.size
   refine zG0 rfl s iiz kA (yX kA) hV (U _ _ _ _ hk hu (fun q O=>O.elim) ⟨by simp,fun i f hi=>?_⟩) fun a w5 bv hr hc s=>?_
   .match i,hi with
    |0,hi=>obtain rfl:=nO hi;rw[zVM];exact s.at.sl 30
   have hT:=hr.size
   have I:=zGt h6 hr hO hS
   have hw:bv=false->Z w5:=fun e2=>by rcases hc with⟨e3,_⟩|⟨_,hz⟩;rw[e2]at e3;cases e3;exact hz
   have hE:bv=true->J (k+1) (fun _=>False) w5:=fun e2=>by rcases hc with⟨_,hj⟩|⟨e3,_⟩;exact hj;rw[e2]at e3;cases e3
   replace s:=s.toSt hp rfl
   refine zBF (uB (!bv)) rfl s kA (zDB bv iiz (fun _=>rfl)) kA fun a w s=>zD rfl<|StS.cond s (!bv) iiz (fun e=>?_) (fun e=>?_)
   .have hz:=hw (by simpa using e)
    exact pU<|⟨s.nd,.tuple #[],by simp[results,results122],⟨_,rfl⟩,.inr (hM _ _ hz s.below)⟩
   .have hK:=hE (by simpa using e)
    refine pV<|zW 1 ((33,.u (uI ((k+1:Nat):Int)))::[]) s kA
     (oc (yI .i64 (k:Int) 1 ((k+1:Nat):Int) iiz iiz (wrap64 _ _ oA oA))<|zB) fun a w6 s=>?_
    replace s:=s.drop [9]
    refine zBF (uI ((k+1:Nat):Int)) rfl s kA zA kA fun a w7 s=>zD rfl ?_
    have hU:=s.gr.size
    refine⟨k+1,by show ps.length-(k+1)<ps.length-k;omega,hk,h5 _ _ _ _ _ hK s.below (fun q O=>O.elim),I.trans (s.below.mono I.size),by omega,(s.keepK _ ?_).self (yX kA)⟩
    exact fmz ⟨zUz,fmz ⟨zWN,fmz ⟨zVx,fmz ⟨.head _,fnz⟩⟩⟩⟩
 .have hY:k=ps.length:=by have h7:=nH e;rw[ha]at h7;omega
  exact tR<|⟨s.nd,.tuple #[],by simp[results,results122],⟨_,rfl⟩,.inl ⟨_,by rw[<-hY];exact h5 _ _ _ _ _ hJ s.below (fun q O=>.inl O)⟩⟩
theorem zQe(m:Nat)(ps:List V2)(k:Nat):(pvs m ps).drop k=pvs m (ps.drop k):=by unfold pvs;rw[List.map_drop]
theorem zQc(m:Nat)(ps:List V2)(k:Nat):(pvs m ps).take k=pvs m (ps.take k):=by unfold pvs;rw[List.map_take]
theorem zTs(m:Nat)(ps:List V2)(k:Nat):pvs m (ps.drop k)++pvs m (ps.take k)=pvs m (zCa ps k):=by unfold pvs zCa;rw[rR]
theorem zXb(z:Int){n:Nat}(h:0<n):∃k:Nat,k<n/\(z.tmod n+n).tmod n=(k:Int):=by
 have h1: -(n:Int)<z.tmod n:=Int.lt_tmod_of_pos z oA
 have h2:z.tmod n<n:=zZf z oA
 have h3:0<=(z.tmod n+n).tmod n:=Int.tmod_nonneg _ oA
 have h4:(z.tmod n+n).tmod n<n:=zZf _ oA
 exact⟨((z.tmod n+n).tmod n).toNat,by omega,by omega⟩
theorem zSr{z:Int}(h1: -9223372036854775808<=z)(h2:z<=9223372036854775807):IntKind.i64.wrap z=z:=by
 rw[sS]
 omega
def zXr(m:Nat)(ps:List V2):SF:=⟨fun v W=>∃kk,kk<ps.length/\(SF.row 6 (pvs m (zCa ps kk))).p v W,fun _ _ _ ⟨kk,h,hr⟩ hb=>⟨kk,h,(SF.row 6 _).st _ _ _ hr hb⟩⟩
theorem zJF(m:Nat)(ps:List V2):∀C,C∈pvs m ps->CU.ok 6 C:=fun C I=>by
 obtain⟨t,_,rfl⟩:=xG.1 I
 exact zBP _ _
theorem zPO{m:Nat}(h:k<ps.length):pvs m ((zAX ps).take (k+1))=pvs m ((zAX ps).take k)++ [CU.agg (fPV m (at_ ps ((ps.length-k)%ps.length)))]:=by
 have e:(zAX ps)[k]?=some (at_ ps ((ps.length-k)%ps.length)):=by
  rw[<-zDe h]
  unfold at_
  rw[rH,nG (by rw[qX];exact h)]
  rfl
 rw[nY,e]
 simp[pvs]
theorem zLS{m:Nat}{l:WE}{z:Int}(hu:u=.int .i64 z)(U:(SF.row 6 (pvs m ps)).p l W)(h0:0<ps.length)(hn:ps.length<=1000000):Calls prog 20 #[u,l] W (Ret W (zXr m ps)):=by
 have hNl:(pvs m ps).length=ps.length:=by simp
 obtain⟨kk,h4,h6⟩:=zXb z (show 0<(pvs m ps).length by omega)
 have hk:kk<ps.length:=by omega
 refine z5 [(uI z).tS,(UF.eq l).tS] func20 rfl kA ⟨hu,rfl,trivial⟩ fun a s=>?_
 replace s:=s.renew [(0,.u (uI z)),(1,.u (UF.eq l))] (fmz ⟨.inr ⟨_,rfl,.head _⟩,fmz ⟨.inr ⟨_,rfl,mz1⟩,fnz⟩⟩)
 refine rgQ ((4,.u (UF.eq (sN)))::[]) s
  (oc zE<|zB) fun a w1 s=>lQ<|rgQ ((5,.Z (UF.eq l))::(6,.Z (uI ((pvs m ps).length:Int)))::(7,.u (uB false))::[]) s
  (oc zA<|oc (zY (z:=6) (Cs:=pvs m ps) kA (fun v W hb h=>(zU U h (s.up hb))) (fun _=>rfl))<|oc (zM .i64 ((pvs m ps).length:Int) 0 false iiz iiz (nJ.2 oA) rfl)<|zB) fun a w2 s=>StS.cond s false iiz (fun e=>by cases e) (fun e=>?_)
 refine pV<|lQ<|zW 10 ((8,.Z (uI z))::(9,.Z (UF.eq l))::(10,.Z (uI ((pvs m ps).length:Int)))::(11,.Z (uI ((z).tmod ((pvs m ps).length:Int))))::(12,.Z (UF.eq l))::(13,.Z (uI ((pvs m ps).length:Int)))::(14,.Z (uI (z.tmod ((pvs m ps).length:Int)+((pvs m ps).length:Int))))::(15,.Z (UF.eq l))::(16,.Z (uI ((pvs m ps).length:Int)))::(17,.u (uI (kk:Int)))::[]) s kA
  (oc zA<|oc zA<|oc (zY (z:=6) (Cs:=pvs m ps) kA (fun v W hb h=>(zU U h (s.up hb))) (fun _=>rfl))<|oc (zBb .i64 z ((pvs m ps).length:Int) ((z).tmod ((pvs m ps).length:Int)) iiz iiz oA rfl)<|oc zA<|oc (zY (z:=6) (Cs:=pvs m ps) kA (fun v W hb h=>(zU U h (s.up hb))) (fun _=>rfl))<|oc (yI .i64 ((z).tmod ((pvs m ps).length:Int)) ((pvs m ps).length:Int) (z.tmod ((pvs m ps).length:Int)+((pvs m ps).length:Int)) iiz iiz (by have h1: -((pvs m ps).length:Int)<z.tmod ((pvs m ps).length:Int):=Int.lt_tmod_of_pos z oA;have h2:z.tmod ((pvs m ps).length:Int)<((pvs m ps).length:Int):=zZf z oA;exact zSr oA oA))<|oc zA<|oc (zY (z:=6) (Cs:=pvs m ps) kA (fun v W hb h=>(zU U h (s.up hb))) (fun _=>rfl))<|oc (zBb .i64 (z.tmod ((pvs m ps).length:Int)+((pvs m ps).length:Int)) ((pvs m ps).length:Int) (kk:Int) iiz iiz oA h6)<|zB) fun a w3 s=>?_
 replace s:=s.drop [0]
 refine yO (uI (kk:Int)) rfl s kA iiz fun a w s=>zD rfl<|lQ ?_
 replace s:=s.drop [4]
 have sb:=s;have so:=s.old;have sg:=s.gr.size
 refine zJy (GW w) hmix s fun w4 I s=>?_
 have hz:=I.size
 refine zEy [] [0,1,2,3,4,5,6,7] ((18,.s (vC w4 30))::(19,.Z (UF.eq l))::(20,.Z (uI (kk:Int)))::(21,.s (SF.row 6 (pvs m (ps.drop kk))))::(22,.s (wG w4 30 6 (pvs m (ps.drop kk))))::(23,.Z (UF.eq l))::(24,.Z (uI (kk:Int)))::(25,.s (SF.row 6 (pvs m (ps.take kk))))::[]) (zJU I) s kA
  (oc (zIM (z:=6) kA)<|oc zA<|oc zA<|oc (zGA (z:=6) (k:=kk) (Cs:=pvs m ps) kA (nL h4) (fun v W hb h=>(zU U h (s.up hb))) iiz (fun v W h=>by rw[zQe]at h;exact h))<|oc (zNO (pvs m (ps.drop kk)) kA iiz (fun v W hb h=>h) (zJF _ _) (by simp;omega))<|oc zA<|oc zA<|oc (zKV (z:=6) (k:=kk) (Cs:=pvs m ps) kA (nL h4) (fun v W hb h=>(zU U h (s.up hb))) iiz (fun v W h=>by rw[zQc]at h;exact h))<|zB)
  zEI fun a w5 J s hr=>?_
 replace I:=I.trans (J.mono I.size)
 refine zHh (i:=8) (x:=.tmp 22) (y:=.tmp 25) (pvs m (ps.take kk)) I s sg (zAk.mono (hr (_,_) mz4) hz) rfl (zCy rfl) kA kA kA rfl (hr (_,_) mz7) (zJF _ _) (by simp;omega) so fun h7 a w6 I h5 s=>?_
 have O:=h5.row
 rw[zTs]at O
 have hz:=I.size
 refine zEy [] [9] ((4,.u (UF.eq h7))::[]) (zJU I) s kA
  (oc zE<|zB)
  zEI fun a w7 J s hr=>?_
 replace I:=I.trans (J.mono I.size)
 exact zHg kA<|pU<|StS.resN s (xF _ _) (t:=4) rfl (by rw[s.val (.head _)];exact⟨kk,hk,(SF.row 6 _).st _ _ _ O J⟩)
theorem zP8{m:Nat}{l:WE}(hl:(SF.row 6 (pvs m ps)).p l W)(hn:ps.length<=1000000):Calls prog 21 #[l] W (Ret W (SF.row 6 (pvs m (zAX ps)))):=by
 refine z5 [(UF.eq l).tS] func21 rfl kA ⟨rfl,trivial⟩ fun a s=>?_
 replace s:=s.renew [(0,.u (UF.eq l))] (fmz ⟨.inr ⟨_,rfl,.head _⟩,fnz⟩)
 refine rgQ ((2,.u (UF.eq (sN)))::[]) s
  (oc zE<|zB) fun a w1 s=>rgQ ((3,.u (UF.eq (sN)))::[]) s
  (oc zE<|zB) fun a w2 s=>lQ<|rgQ ((4,.u (uI 0))::[]) s
  (oc zE<|zB) fun a w3 s=>tQ ?_
 obtain⟨base,hbase⟩:∃b,b=w3.heap.size:=⟨_,rfl⟩
 have O:W.heap.size<=base:=by rw[hbase];exact s.gr.size
 have U:base<=w3.heap.size:=by rw[hbase];exact vP _
 refine zDE (fun(p:Nat×WE) w=>p.1<=ps.length/\base<=w.heap.size/\zAk w base 30 6 p.2 (pvs m ((zAX ps).take p.1))) (fun p=> [(0,.u (UF.eq l)),(3,.u (UF.eq (p.2))),(4,.u (uI (p.1:Int)))]) (fun p=>ps.length-p.1) (0, sN) (⟨vR _,U,zAk.nil _ _ _ _⟩) (s.keepK _ (fmz ⟨mz3,fmz ⟨mz1,fmz ⟨.head _,fnz⟩⟩⟩)) fun p a w hI s=>?_
 have s0:=s
 have I:=(SF.row 6 (pvs m ps)).st _ _ _ hl s0.below
 replace s:=s.reb rfl [(0,.u (UF.eq l)),(3,.u (UF.eq (p.2))),(4,.u (uI (p.1:Int)))] (fmz ⟨.inl (.head _),fmz ⟨.inl mz1,fmz ⟨.inl mz2,fnz⟩⟩⟩)
 refine lQ<|rgQ ((5,.Z (uI (p.1:Int)))::(6,.Z (UF.eq l))::(7,.Z (uI ((pvs m ps).length:Int)))::(8,.u (uB (ltz p.1 ((pvs m ps).length))))::[]) s
  (oc zA<|oc zA<|oc (zY (z:=6) (Cs:=pvs m ps) kA (fun v W hb h=>(zU I h (s.up hb))) (fun _=>rfl))<|oc (zM .i64 (p.1:Int) ((pvs m ps).length:Int) (ltz p.1 ((pvs m ps).length)) iiz iiz rfl rfl)<|zB) fun a w4 s=>StS.cond s (ltz p.1 ((pvs m ps).length)) iiz (fun e=>?_) (fun e=>?_)
 .have hk:p.1<ps.length:=by have:=xW e;simp at this;omega
  have hj:((ps.length-p.1)%ps.length)<ps.length:=vW _ oA
  have J:(pvs m ps).length=ps.length:=by simp
  refine pV<|lQ<|tQ<|zCB 12 ((11,.u (UF.eq (p.2)))::(12,.Z (UF.eq l))::(13,.Z (UF.eq l))::(14,.Z (uI ((pvs m ps).length:Int)))::(15,.Z (uI (p.1:Int)))::(16,.Z (uI ((ps.length-p.1:Nat):Int)))::(17,.Z (UF.eq l))::(18,.Z (uI ((pvs m ps).length:Int)))::(19,.Z (uI ((((ps.length-p.1)%ps.length):Nat):Int)))::(20,.Y (fPV m (at_ ps ((ps.length-p.1)%ps.length))))::(21,.Z (fPV m (at_ ps ((ps.length-p.1)%ps.length))))::(22,.s (SF.row 6 [CU.agg (fPV m (at_ ps ((ps.length-p.1)%ps.length)))]))::[]) s kA
   (oc zA<|oc zA<|oc zA<|oc (zY (z:=6) (Cs:=pvs m ps) kA (fun v W hb h=>(zU I h (s.up hb))) (fun _=>rfl))<|oc zA<|oc (zCF .i64 ((pvs m ps).length:Int) (p.1:Int) ((ps.length-p.1:Nat):Int) iiz iiz (by rw[J,sS];omega))<|oc zA<|oc (zY (z:=6) (Cs:=pvs m ps) kA (fun v W hb h=>(zU I h (s.up hb))) (fun _=>rfl))<|oc (zBb .i64 ((ps.length-p.1:Nat):Int) ((pvs m ps).length:Int) ((((ps.length-p.1)%ps.length):Nat):Int) iiz iiz oA (by rw[J];exact zBY _ _))<|oc (zQ (z:=6) (Cs:=pvs m ps) (i:=((ps.length-p.1)%ps.length)) (C:=CU.agg (fPV m (at_ ps ((ps.length-p.1)%ps.length)))) kA (qI hj) (fun v W hb h=>(zU I h (s.up hb))) iiz)<|oc (zH (f:=fPV m (at_ ps ((ps.length-p.1)%ps.length))) 6 kA (hz:=zL _ _))<|oc (jX (fun u W (hu:(fPV m (at_ ps ((ps.length-p.1)%ps.length))).p u W)=>zGp hu))<|zB) fun a w5 s hr=>zLF ([CU.agg (fPV m (at_ ps ((ps.length-p.1)%ps.length)))]) s0 (s.keepK [(11,.u (UF.eq (p.2))),(8,.u (uB (ltz p.1 ((pvs m ps).length)))),(0,.u (UF.eq l)),(3,.u (UF.eq (p.2))),(4,.u (uI (p.1:Int)))] (fmz ⟨.head _,fmz ⟨mz1,fmz ⟨mz2,fmz ⟨mz3,fmz ⟨mz4,fnz⟩⟩⟩⟩⟩)) O hI.2 rfl kA kA kA (s.fct (.tmp 11)) (hr (_,_) zUz) (zKT _ _) (by simp[qX];omega) (fun q hq=>by cases hq) fun v' a w h0 s=>?_
  have s1:=s
  replace s:=s.reb rfl [(23,.u (UF.eq v')),(11,.u (UF.eq (p.2))),(8,.u (uB (ltz p.1 ((pvs m ps).length)))),(0,.u (UF.eq l)),(3,.u (UF.eq (p.2))),(4,.u (uI (p.1:Int)))] (fmz ⟨.inl (.head _),fmz ⟨.inl mz1,fmz ⟨.inl mz2,fmz ⟨.inl mz3,fmz ⟨.inl mz4,fmz ⟨.inl mz5,fnz⟩⟩⟩⟩⟩⟩)
  replace s:=s.drop [3]
  refine yO (UF.eq v') rfl s kA iiz fun a w s=>zD rfl<|zW 2 ((9,.Z (uI (p.1:Int)))::(10,.u (uI ((p.1+1:Nat):Int)))::[]) s kA
   (oc zA<|oc (yI .i64 (p.1:Int) 1 ((p.1+1:Nat):Int) iiz iiz (wrap64 _ _ oA oA))<|zB) fun a w6 s=>?_
  replace s:=s.drop [4]
  refine yO (uI ((p.1+1:Nat):Int)) rfl s kA iiz fun a w s=>zD rfl ?_
  have h1:=s.below
  replace s:=s1.back (s.keepK [(4,.u (uI ((p.1+1:Nat):Int))),(10,.u (uI ((p.1+1:Nat):Int))),(3,.u (UF.eq v')),(23,.u (UF.eq v')),(11,.u (UF.eq (p.2))),(8,.u (uB (ltz p.1 ((pvs m ps).length)))),(0,.u (UF.eq l))] (fmz ⟨.head _,fmz ⟨mz1,fmz ⟨mz2,fmz ⟨mz3,fmz ⟨mz4,fmz ⟨mz5,fmz ⟨mz6,fnz⟩⟩⟩⟩⟩⟩⟩)) rfl
  exact⟨(p.1+1,v'),(by show ps.length-(p.1+1)<ps.length-p.1;omega),⟨hk,xQ h0.1 h1.size,by rw[zPO hk];exact h0.2.below h1⟩,s.keepK _ (fmz ⟨mz6,fmz ⟨mz2,fmz ⟨.head _,fnz⟩⟩⟩)⟩
 .have hk:p.1=ps.length:=by have h7:=nH e;have h8:=hI.1;simp at h7;omega
  exact tR<|rgQ ((24,.Z (UF.eq (p.2)))::(2,.u (UF.eq (p.2)))::[]) s
   (oc zA<|oc zE<|zB) fun a w7 s=>pU<|StS.resN s s0.below rfl (by rw[s.val (.head _)];have:=((hI.2.2.below s.below).mono O).row;rw[hk,nK (by rw[qX];exact vP _)]at this;exact this)
def rgV(ps:List V2)(idx:Nat->Nat):List V2:=(List.range ps.length).map fun k=>at_ ps (idx k)
theorem zS4{m:Nat}(h:k<ps.length):pvs m ((rgV ps idx).take (k+1))=pvs m ((rgV ps idx).take k)++ [CU.agg (fPV m (at_ ps (idx k)))]:=by
 have e:(rgV ps idx)[k]?=some (at_ ps (idx k)):=by unfold rgV;rw[tJ,zY9 h];rfl
 rw[nY,e]
 simp[pvs]
section
variable {S:Nat->Prop}{P:Program}{Q:Exit->Act->WB->Prop}{w0:WB}{K:List (Nat×KF)}{n:Nat}{ds:List Deferred}{a:Act}{w:WB}
theorem ItD.m(h:ItD P gf lb Ef N C w):ItM P gf lb Ef N C (fun _=>False) w:=fun l J Z W I h2 h3 O h5 _ U h7=>h l J Z W I h2 h3 O h5 (by simpa only[rN]using U) h7
theorem zMH{g:Operand}{ps:Array Tmp}{assign body:Code}
    (I:Nat->List Bx)(U:List Bx)(cz:Code)(Kr:Nat->List (Nat×KF))(h:StS S w0 K (I 0) n ds a w)
    (hg:∀v W,(Wd.fct (jM K (I 0)) g).p v W->v=.func (.func gf) #[] lb)(eg:∀args w,(callFunc gf args).run P w=.ok (.enter gf args) w)
    (h6:ItD P gf lb Ef N (inB (I 0)) w){X:Nat->(Nat->Prop)->WB->Prop}{XZ:WB->Prop}(hX:∀k R W W',zDQ W W'->X k R W->X k R W')(h8:∀W W',zDQ W W'->XZ W->XZ W')(h7:X 0 (fun _=>False) w)(hc:∀k,(Ef k).length=ps.size)
    (h5:∀k q,q∈Kr k->(q∈K/\zJg q.2=true/\ps.toList.contains q.1=false)∨ ∃(j:Nat) (f:UF),ps[j]?=some q.1/\(Ef k)[j]?=some f/\q.2=.u f)
    (hps:jY ps.toList=true)(he:(ps.toList.all fun p=>Nat.blt p n)=true)(h4:((I 0).all fun x=> !ps.toList.contains x.t)=true)
    (hh:∀k,(I k).map zGb=(I 0).map zGb)(hf:U.map zGb=(I 0).map zGb)
    (J:∀l k R xs W,k<N->X k R W->(∀q,R q->w.heap.size+2<=q/\q<W.heap.size)->w.heap.size+2<=W.heap.size->StS S w0 K (I k) n ds a W->StS (fun q=>inB (I 0) q∨W.heap.size<=q∨R q) W (Kr k) (I k) n [] { tmps:=(ps.zip xs).foldl (fun t (p,v)=>t.setIfInBounds p v) a.tmps,defers:=[] } W->
      assign.wpIn (Fence.wide.inRound l) 0 P (Exit.then (fun a1 W1=>BlS (fun q=>inB (I 0) q∨W.heap.size<=q∨R q) W W1/\∀W2,zDQ W1 W2->(∀p,W2.cell? p=W1.cell? p)->(∀K B,StS (fun q=>inB (I 0) q∨W.heap.size<=q∨R q) W K B n [] a1 W1->StS (fun q=>inB (I 0) q∨W.heap.size<=q∨R q) W2 K B n [] a1 W2)->
        body.wpIn (Fence.wide.inRound l) 0 P (zYq (fun a2 W3=>StS (fun q=>inB (I 0) q∨W.heap.size<=q∨R q) W2 [] (I (k+1)) n [] a2 W3/\∃R',(∀q,R' q->R q∨W.heap.size<=q)/\(∀q,R' q->q<W3.heap.size/\∃(cs:Array WE) (t:WF) (z:Nat×Nat),W3.heap[q]?=some (.cells cs t z)/\cs.toList.all zX=true)/\X (k+1) R' W3) cz (fun a2 W3=>StS (fun q=>inB (I 0) q∨W.heap.size<=q∨R q) W2 [] U n [] a2 W3/\XZ W3)) a1 W2) (fun _ _ _=>False))
        { tmps:=(ps.zip xs).foldl (fun t (p,v)=>t.setIfInBounds p v) a.tmps,defers:=[] } W)
    (done:∀D W R,X N R W->StS S w0 K (I N) n (mark D::ds) { a with defers:=mark D::a.defers } W->Q .normal { a with defers:=mark D::a.defers } W)
    (O:∀D W,XZ W->StS S w0 K U n (mark D::ds) { a with defers:=mark D::a.defers } W->cz.wpIn Fence.wide 0 P Q { a with defers:=mark D::a.defers } W):
    (Code.rangeFunc g ps assign body).wpIn Fence.wide 0 P Q a w:=by
  refine zFv I U cz Kr h hg eg (M:=fun _=>False) (fun q hq=>hq.elim) h6.m hX h8 h7 hc h5 hps he h4 hh hf (fun l k R xs W hk h9 _ hR hz so s=>?_) done O
  simp only[rN]at s ⊢
  refine eB (fun e a W h=>?_) (J l k R xs W hk h9 hR hz so s)
  cases e<;>first
    |exact⟨h.1,fun W2 h1 h2 h3=>eB (fun e a W h=>by
        cases e<;>first
          |exact h
          |exact⟨h.1,h.2.choose,h.2.choose_spec.1,h.2.choose_spec.2.1,h.2.choose_spec.2.2,fun q hq=>hq.elim⟩) (h.2 W2 h1 h2 h3)⟩
    |exact h
end
theorem zTy{m:Nat}{l:WE}(hp:bW w00 W)(hh:W.heap[c1]?=some (.cells #[l] 22 (0,0)))(hf:W.heap[c2]?=some (.cells #[.int .i64 FF] 3 (0,0)))(hd:W.heap[c3]?=some (.cells #[.int .i64 SS] 3 (0,0)))(hl:(SF.row 6 (pvs m ps)).p l w00)(q0:ps.length<=1000000)(hR:zO1 FF SS ps.length idx):Calls prog 121 #[sN,(.func (.func 122) #[] #[pO c1 0,pO c2 0,pO c3 0])] W (Ret W (wG W 30 6 (pvs m (rgV ps idx)))):=by
 refine zMW [(UF.eq (sN)).tS,(UF.eq (.func (.func 122) #[] #[pO c1 0,pO c2 0,pO c3 0])).tS] func121 rfl kA ⟨rfl,rfl,trivial⟩ fun a s=>?_
 replace s:=s.renew [(0,.u (UF.eq (sN))),(1,.u (UF.eq (.func (.func 122) #[] #[pO c1 0,pO c2 0,pO c3 0])))] (fmz ⟨.inr ⟨_,rfl,.head _⟩,fmz ⟨.inr ⟨_,rfl,mz1⟩,fnz⟩⟩)
 refine lQ<|rgK 0 [] s
  zB fun a w1 s=>yN (wC [sN]) rfl s kA (fun v W h=>zGE h rfl rfl) fun b2 a w s=>yO (UF.eq (sN)) rfl s kA iiz fun a w s=>zD rfl<|lQ<|rgQ ((6,.u (UF.eq (.func (.func 122) #[] #[pO c1 0,pO c2 0,pO c3 0])))::[]) s
  (oc zA<|zB) fun a w2 s=>tQ ?_
 obtain⟨hX,hY,hn,_⟩:=s.boxAt (c:=2) rfl
 obtain rfl:hX=[sN]:=hn
 obtain⟨base,hbase⟩:∃b,b=w2.heap.size:=⟨_,rfl⟩
 have hT:b2<base:=by rw[hbase];exact s.old _ (.head _)
 have hW2b:W.heap.size<=b2:=s.inB_new ⟨_,.head _,rfl,rfl⟩
 replace s:=s.keepK [(6,.u (UF.eq (.func (.func 122) #[] #[pO c1 0,pO c2 0,pO c3 0])))] (fmz ⟨.head _,fnz⟩)
 replace s:StS noS W _ [⟨2,22,CU.len 1,b2,false⟩] f121.ntmps _ a w2:=s.weakB 2 (CU.len 1) rfl (qD kA) (fun cs W h=>by rw[show cs=_ from h];rfl)
 have U:∀q,inB ([⟨2,22,CU.len 1,b2,false⟩]) q->q=b2:=fun q ⟨x,O,e,_⟩=>by obtain rfl:=tS.1 O;exact e.symm
 have q1:w2.heap[c1]?=some (.cells #[l] 22 (0,0)):=(s.below.block c1 (xP.1 hh).1).trans hh
 have hn:w2.heap[c2]?=some (.cells #[.int .i64 FF] 3 (0,0)):=(s.below.block c2 (xP.1 hf).1).trans hf
 have hW:w2.heap[c3]?=some (.cells #[.int .i64 SS] 3 (0,0)):=(s.below.block c3 (xP.1 hd).1).trans hd
 have hq1:c1<W.heap.size:=(xP.1 hh).1
 have hq2:c2<W.heap.size:=(xP.1 hf).1
 have hq3:c3<W.heap.size:=(xP.1 hd).1
 refine zMH (N:=ps.length) (fun k=> [⟨2,22,CU.len 1,b2,false⟩]) ([⟨2,22,CU.len 1,b2,false⟩]) (.exit 0) (fun k=> [(7,.u (fPV m (at_ ps (idx k))))]) s iiz (enters_of func122 kA rfl) (zS3 (w0:=w00) q1 hn hW hl (hp.trans (s.below.mono hp.size)) (fun q I=>by have:=hp.size;rw[U q I];omega) (fun hc=>by have:=U _ hc;omega) (fun hc=>by have:=U _ hc;omega) (fun hc=>by have:=U _ hc;omega) q0 hR) (X:=fun k R W'=>base<=W'.heap.size/\∃v,W'.heap[b2]?=some (.cells #[v] 22 (0,0))/\(∀g,v.ownBlock=some g->R g)/\zAk W' base 30 6 v (pvs m ((rgV ps idx).take k))) (XZ:=fun _=>False) (fun k R A B h6 ⟨h1,v,h2,h3,h4⟩=>⟨xQ h1 h6.1,v,h6.2 _ _ h2 rfl,h3,h4.keepC h6⟩) fD ⟨by rw[hbase];exact vP _,_,hY,fun g J=>by simp[Value.ownBlock]at J,zAk.nil _ _ _ _⟩ (fun k=>rfl) ?_ rfl rfl rfl (fun k=>rfl) rfl (fun l_ k R xs WR hk hV hRr hsz so s=>?_) (fun D WD R hZ s=>?_) (fun D WD hz s=>hz.elim)
 .intro k q I
  obtain rfl:=tS.1 I
  exact .inr ⟨0,_,rfl,rfl,rfl⟩
 .obtain⟨he,v,hm,hj,h5⟩:=hV
  replace s:=s.is1 hm
  obtain⟨A9,n9,c9,rfl⟩:=zCY h5
  have hWR:b2<WR.heap.size:=vU hT he
  generalize({ tmps:=_,defers:=[] }:Act)=a at s ⊢
  replace s:=s.move (fun q=>q=b2) (fun q ⟨x,O,e,_⟩=>by obtain rfl:=tS.1 O;exact e.symm) kA
  have sR:=s
  refine rgK 0 [] s
   zB fun a w3 s=>?_
  have hszR:=s.gr.size
  have hE:=s.gr.size
  refine zG2 (CU.len 6) (cs:=zP6) kA rfl s kA (fun W=>rfl) rfl fun b5 a w h8 s=>?_
  replace h8:=xQ hE h8
  refine zR (CU.agg (fPV m (at_ ps (idx k)))) ((fPV m (at_ ps (idx k))).tS) rfl s kA rfl rfl rfl iiz iiz y7 fun a w s=>zD rfl ?_
  have hbl:=s.gr
  have hA:WR.heap.size<=b5:=h8
  refine⟨s.gr.sub (fun q I=>.inl ⟨_,.head _,I.symm,rfl⟩),fun W2 h6 hcell q2=>?_⟩
  have hy:y9 WR _:=qN (s.gr.sub (fun q I=>⟨_,.head _,I.symm,rfl⟩)) sR.bx
  have h7:∀g,Value.ownBlock (.slice A9 n9 c9)=some g->g≠b2/\g≠b5/\g<WR.heap.size:=fun g J=>by have h1:=h5.lt g J;omega
  have qa:=h5.keep (fun g J=>s.gr.block g (h7 g J).2.2 (h7 g J).1) hy
  have hQ:=qa.keepC h6
  have ha:WR.heap.size<=W2.heap.size:=xQ s.gr.size h6.1
  replace s:=q2 _ _ (s.wider (fun q=>inB ([⟨2,22,CU.len 1,b2,false⟩]) q∨WR.heap.size<=q∨R q) (fun q I=>.inl ⟨_,.head _,I.symm,rfl⟩) kA)
  have sW:=s
  replace s:=s.move (fun q=>q=b2∨q=b5) (fun q ⟨x,O,e,_⟩=>by rcases xS.1 O with rfl|O;exact .inr e.symm;obtain rfl:=tS.1 O;exact .inl e.symm) kA
  have sM:=s
  refine tQ<|rgL 3 ((8,.u (UF.eq (.slice A9 n9 c9)))::(9,.Z (fPV m (at_ ps (idx k))))::(10,.s (SF.row 6 [CU.agg (fPV m (at_ ps (idx k)))]))::[]) s
   (oc (qB (C:=(wC [.slice A9 n9 c9]).cf) kA (fun _ _ h=>h.2) zAK)<|oc (zH (f:=fPV m (at_ ps (idx k))) 6 kA (hz:=zL _ _))<|oc (jX (fun u W (hu:(fPV m (at_ ps (idx k))).p u W)=>zGp hu))<|zB) fun a w4 s hr=>?_
  have hC:y9 W2 _:=qN (s.gr.sub (fun q I=>by rcases I with I|I;exact⟨_,mz1,I.symm,rfl⟩;exact⟨_,.head _,I.symm,rfl⟩)) sM.bx
  have hO:=hQ.keep (fun g J=>s.gr.block g (vU (h7 g J).2.2 ha) (fun I=>by have:=h7 g J;rcases I with I|I<;>omega)) hC
  have hD:=s.gr.size
  replace s:=wN sW s (fun q I=>by rcases I with rfl|rfl;exact .inl (.inl ⟨_,.head _,rfl,rfl⟩);exact .inl (.inr (.inl hA))) kA
  refine zRu ([CU.agg (fPV m (at_ ps (idx k)))]) s (xQ he (xQ ha hD)) hO (fun g J=>.inl (.inr (.inr (hj g J)))) rfl kA kA kA (s.val (.head _)) (hr (_,_) mz2) (zJF m [_]) (by simp;omega) (fun x O e=>by have:=h7 _ e;rcases xS.1 O with rfl|O;exact this.2.1 rfl;obtain rfl:=tS.1 O;exact this.1 rfl) fun v' a w hwz h9 hU hB s=>?_
  rw[<-zS4 hk]at h9
  obtain⟨A8,n8,c8,rfl⟩:=zCY h9
  have sA:=s
  replace s:=s.move (fun q=>q=b2∨q=b5) (fun q ⟨x,O,e,_⟩=>by rcases xS.1 O with rfl|O;exact .inr e.symm;obtain rfl:=tS.1 O;exact .inl e.symm) kA
  have sN:=s
  refine zAc (c:=2) (o:=0) (kk:=1) (wC [.slice A8 n8 c8]) ((UF.eq (.slice A8 n8 c8)).tS) rfl s kA rfl rfl (fun _ _ h=>h.1) iiz (zGd fun cs W h=>by rw[show cs=_ from h];rfl) fun a w s=>zD rfl ?_
  have hG:y9 _ _:=qN (s.gr.sub (fun q I=>by rcases I with I|I;exact⟨_,mz1,I.symm,rfl⟩;exact⟨_,.head _,I.symm,rfl⟩)) sN.bx
  have hv:=h9.keep (fun g J=>s.gr.block g (h9.lt g J).2 (fun I=>by rcases I with I|I;exact hB _ mz1 (by rw[J,I]);exact hB _ (.head _) (by rw[J,I]))) hG
  have hsz5:=s.gr.size
  obtain⟨hN,q3,hS,_⟩:=s.boxAt (c:=2) rfl
  obtain rfl:hN=[.slice A8 n8 c8]:=hS
  replace s:=wN sA s (fun q I=>by rcases I with rfl|rfl;exact .inl (.inl ⟨_,.head _,rfl,rfl⟩);exact .inl (.inr (.inl hA))) kA
  replace s:=s.popB
  exact⟨(s.keepK [] fnz).weakB 2 (CU.len 1) rfl (qD kA) (fun cs W h=>by rw[show cs=_ from h];rfl),fun q=>Value.ownBlock (.slice A8 n8 c8)=some q,fun q I=>by rcases hU with e|e;exact .inl (hj q (e.symm.trans I));rw[e]at I;injection I with I;exact .inr oA,fun q I=>zDo hv I,by omega,_,q3,fun g J=>J,hv⟩
 .obtain⟨he,v,hm,hj,h5⟩:=hZ
  replace s:=s.is1 hm
  rw[nK (by simp[rgV])]at h5
  have hF:W.heap.size<=base:=by omega
  generalize({ a with defers:=mark D::a.defers }:Act)=a at s ⊢
  exact lQ<|rgN ((12,.s (wG W 30 6 (pvs m (rgV ps idx))))::(4,.s (wG W 30 6 (pvs m (rgV ps idx))))::[]) s
   (oc (zCr (v:=v) (f:=wG W 30 6 (pvs m (rgV ps idx))) kA (fun _ _ h=>h.2) (h5.mono hF))<|oc zE<|zB) fun a w5 s hr=>pU<|s.resM (v:=a.tmps.getD 4 undef) (fun w' _=>by simp[results,results121]) (fun w' ho=>zAk.keepC (hr (_,_) mz1) (zEg ho))
theorem zNC{m:Nat}{l:WE}(U:bW w00 W)(I:W.heap[c1]?=some (.cells #[l] 22 (0,0)))(J:W.heap[c2]?=some (.cells #[.int .i64 FF] 3 (0,0)))(h4:W.heap[c3]?=some (.cells #[.int .i64 SS] 3 (0,0)))(hl:(SF.row 6 (pvs m ps)).p l w00)(h5:ps.length<=1000000)(hR:zO1 FF SS ps.length idx):Calls prog 92 #[(.func (.func 122) #[] #[pO c1 0,pO c2 0,pO c3 0])] W (Ret W (wG W 30 6 (pvs m (rgV ps idx)))):=by
 refine z5 [(UF.eq (.func (.func 122) #[] #[pO c1 0,pO c2 0,pO c3 0])).tS] func92 rfl kA ⟨rfl,trivial⟩ fun a s=>rgQ ((2,.u (UF.eq (sN)))::[]) s
  (oc zE<|zB) fun a w1 s=>lQ ?_
 have O:=s.gr.size
 replace s:=s.drop [2]
 exact rgN ((3,.Z (UF.eq (.func (.func 122) #[] #[pO c1 0,pO c2 0,pO c3 0])))::(4,.s (wG w1 30 6 (pvs m (rgV ps idx))))::(2,.s (wG w1 30 6 (pvs m (rgV ps idx))))::[]) s
  (oc zA<|oc (zI zC zWf (fun u0 u1 W hb (h0:u0= sN) h1=>by rw[show u0=_ from h0,show u1=_ from h1];exact(zTy (U.trans ((s.up hb).mono U.size)) (((s.up hb).block c1 (xP.1 I).1).trans I) (((s.up hb).block c2 (xP.1 J).1).trans J) (((s.up hb).block c3 (xP.1 h4).1).trans h4) hl h5 hR).mono (wH (jA hb.size))))<|oc zE<|zB) fun a w2 s hr=>pU<|StS.resN s (xF _ _) rfl (by have:=hr (_,_) mz2;exact zAk.mono this O)
section
variable {F:Fence}{m:Nat}{P:Program}{w0:WB}{ops:Array Oper}{G:Nat->SF}{d:Tmp}{ty:WF}{pos:String}{aft:Array Edge}
theorem zQs{f:FuncId}{z:Operand}(h:∀u v q W,bW w0 W->(fct G x).p u W->(fct G y).p v W->(fct G z).p q W->(G d).p (.func (.func f) #[] #[u,v,q]) W):qO F m P w0 ops G ⟨some d,.makeFunc (.func f) #[] #[x,y,z],ty,pos,aft,none⟩:=
 zNM fun b W hb I=>by simpa using h _ _ _ W hb (I x fC) (I y fC) (I z fC)
end
def zOv(l:WE)(FF SS:Int):SF:=⟨fun v w=>∃b1 b2 b3,v=.func (.func 122) #[] #[pO b1 0,pO b2 0,pO b3 0]/\w.heap[b1]?=some (.cells #[l] 22 (0,0))/\w.heap[b2]?=some (.cells #[.int .i64 FF] 3 (0,0))/\w.heap[b3]?=some (.cells #[.int .i64 SS] 3 (0,0)),
 fun _v _w _w' ⟨b1,b2,b3,e,h1,h2,h3⟩ hb=>⟨b1,b2,b3,e,(hb.block b1 (xP.1 h1).1).trans h1,(hb.block b2 (xP.1 h2).1).trans h2,(hb.block b3 (xP.1 h3).1).trans h3⟩⟩
theorem zM2:zO1 0 (-1) n fun k=>(n-k)%n:=by
 refine⟨by decide,by decide,by decide,by decide,fun i hi=>⟨vW _ oA,?_⟩⟩
 have e:(0+(i:Int)* -1).tmod (n:Int)= -(i:Int):=by
  rw[show(0:Int)+(i:Int)* -1= -(i:Int) by omega,Int.neg_tmod]
  congr 1
  exact Int.tmod_eq_of_lt oA oA
 rw[e]
 by_cases h:i=0
 .subst h
  left
  simp
 .right
  show -(i:Int)<0/\-(i:Int)+(n:Int)=(((n-i)%n:Nat):Int)
  rw[uC (show n-i<n by omega)]
  omega
theorem zS2{f:Nat}(hf:f<n)(hn:n<=1000000):zO1 (f:Int) 1 n fun k=>(k+f)%n:=by
 refine⟨by decide,by decide,by omega,by omega,fun i hi=>⟨vW _ oA,.inl ?_⟩⟩
 have e:((f:Int)+(i:Int)*1).tmod (n:Int)=(((i+f)%n:Nat):Int):=by
  rw[show(f:Int)+(i:Int)*1=((i+f:Nat):Int) by omega]
  exact zBY _ _
 rw[e]
 exact⟨by omega,rfl⟩
theorem zU5(ps:List V2):rgV ps (fun k=>(ps.length-k)%ps.length)=zAX ps:=rfl
theorem zU4{f:Nat}(I:f<ps.length):rgV ps (fun k=>(k+f)%ps.length)=zCa ps f:=zI1 (by simp[rgV,zAv]) fun i hi=>by
 have hi:i<ps.length:=by simpa[rgV]using hi
 rw[zDC I hi]
 unfold rgV
 show((List.range ps.length).map _).getD i (0,0)=_
 rw[rH,tJ,zY9 hi]
 rfl
theorem zMu{l:WE}(I:l.cells=#[l]/\zX l=true)(hu:u=.int .i64 FF)(hv:v=.int .i64 SS):Calls prog 93 #[l,u,v] W (Ret W (zOv l FF SS)):=by
 refine z5 [(UF.eq l).tS,(uI FF).tS,(uI SS).tS] func93 rfl kA ⟨rfl,hu,hv,trivial⟩ fun a s=>lQ<|rgK 0 [] s
  zB fun a w1 s=>yN (wC [l]) rfl s kA (fun v W h=>zGE h I.1 I.2) fun O a w s=>yN (wC [.int .i64 FF]) rfl s kA (fun v W h=>zGE h rfl rfl) fun b4 a w s=>yN (wC [.int .i64 SS]) rfl s kA (fun v W h=>zGE h rfl rfl) fun U a w s=>yO (UF.eq (.nilFunc)) rfl s kA iiz fun a w s=>zD rfl<|lQ ?_
 replace s:=s.drop [6]
 refine rgE ((7,.Z (UF.eq (.func (.func 122) #[] #[pO O 0,pO b4 0,pO U 0])))::(6,.u (UF.eq (.func (.func 122) #[] #[pO O 0,pO b4 0,pO U 0])))::[]) s
  (oc (zQs (fun u v q W hb (h:(wJ O (wC [l]).cf).p u W) (h':(wJ b4 (wC [.int .i64 FF]).cf).p v W) (h'':(wJ U (wC [.int .i64 SS]).cf).p q W)=>by rw[h.1,h'.1,h''.1];rfl))<|oc zE<|zB) fun a w2 s=>pU ?_
 obtain⟨cs,e1,e2,e3⟩:=s.boxAt (c:=3) rfl
 obtain⟨cs',f1,f2,f3⟩:=s.boxAt (c:=4) rfl
 obtain⟨J,g1,g2,g3⟩:=s.boxAt (c:=5) rfl
 obtain rfl:cs=_:=e2
 obtain rfl:cs'=_:=f2
 obtain rfl:J=_:=g2
 exact StS.resN s (xF _ _) rfl ⟨O,b4,U,s.val (.head _),e1,f1,g1⟩
theorem zUI{m:Nat}{l:WE}(U:(SF.row 6 (pvs m ps)).p l W)(hn:ps.length<=1000000):Calls prog 63 #[l] W (Ret W (wG W 30 6 (pvs m (zAX ps)))):=by
 refine z5 [(UF.eq l).tS] func63 rfl kA ⟨rfl,trivial⟩ fun a s=>?_
 replace s:=s.renew [(0,.u (UF.eq l))] (fmz ⟨.inr ⟨_,rfl,.head _⟩,fnz⟩)
 refine rgQ ((2,.u (UF.eq (sN)))::[]) s
  (oc zE<|zB) fun a w1 s=>lQ ?_
 replace s:=s.drop [2]
 exact rgN ((3,.Z (UF.eq l))::(4,.s (zOv l 0 (-1)))::(5,.s (wG W 30 6 (pvs m (zAX ps))))::(2,.s (wG W 30 6 (pvs m (zAX ps))))::[]) s
  (oc zA<|oc (zBc zC zVO (fun I u1 u2 W hb (O:I=l) (J:u1=.int .i64 0) (h2:u2=.int .i64 (-1))=>by rw[show I=l from O];exact zMu (zD2 U) J h2))<|oc (zG zC zVP (fun I W hb (O:(zOv l 0 (-1)).p I W)=>by obtain⟨b1,b2,b3,e9,J,h2,h3⟩:=O;rw[e9];exact(zNC (idx:=fun k=>(ps.length-k)%ps.length) (s.up hb) J h2 h3 U hn zM2).mono (wH (fun v W h=>jA (s.up hb).size v W (by rw[zU5]at h;exact h)))))<|oc zE<|zB) fun a w2 s hr=>pU<|StS.resN s (xF _ _) rfl (hr _ mz3)
theorem zKg{m:Nat}{l:WE}{f:Nat}(hu:u=.int .i64 (f:Int))(J:(SF.row 6 (pvs m ps)).p l W)(O:f<ps.length)(hn:ps.length<=1000000):Calls prog 65 #[u,l] W (Ret W (wG W 30 6 (pvs m (zCa ps f)))):=by
 refine z5 [(uI (f:Int)).tS,(UF.eq l).tS] func65 rfl kA ⟨hu,rfl,trivial⟩ fun a s=>?_
 replace s:=s.renew [(0,.u (uI (f:Int))),(1,.u (UF.eq l))] (fmz ⟨.inr ⟨_,rfl,.head _⟩,fmz ⟨.inr ⟨_,rfl,mz1⟩,fnz⟩⟩)
 refine rgQ ((4,.u (UF.eq (sN)))::[]) s
  (oc zE<|zB) fun a w1 s=>lQ<|rgQ ((5,.Z (UF.eq l))::(6,.Z (uI ((pvs m ps).length:Int)))::(7,.u (uB false))::[]) s
  (oc zA<|oc (zY (z:=6) (Cs:=pvs m ps) kA (fun v W hb h=>(zU J h (s.up hb))) (fun _=>rfl))<|oc (zM .i64 ((pvs m ps).length:Int) 0 false iiz iiz (nJ.2 (by simp only[bC];omega)) rfl)<|zB) fun a w2 s=>StS.cond s false iiz (fun e=>by cases e) (fun e=>?_)
 refine pV<|lQ ?_
 replace s:=s.drop [4]
 exact rgN ((8,.Z (UF.eq l))::(9,.Z (uI (f:Int)))::(10,.Z (UF.eq l))::(11,.Z (uI ((pvs m ps).length:Int)))::(12,.Z (uI (f:Int)))::(13,.s (zOv l (f:Int) 1))::(14,.s (wG W 30 6 (pvs m (zCa ps f))))::(4,.s (wG W 30 6 (pvs m (zCa ps f))))::[]) s
  (oc zA<|oc zA<|oc zA<|oc (zY (z:=6) (Cs:=pvs m ps) kA (fun v W hb h=>(zU J h (s.up hb))) (fun _=>rfl))<|oc (zBb .i64 (f:Int) ((pvs m ps).length:Int) (f:Int) iiz iiz (by simp only[bC];omega) (by simp only[bC];rw[zBY,uC O]))<|oc (zBc zC zVO (fun I u1 u2 W hb (h0:I=l) (U:u1=.int .i64 (f:Int)) (h2:u2=.int .i64 1)=>by rw[show I=l from h0];exact zMu (zD2 J) U h2))<|oc (zG zC zVP (fun I W hb (h0:(zOv l (f:Int) 1).p I W)=>by obtain⟨b1,b2,b3,e9,U,h2,h3⟩:=h0;rw[e9];exact(zNC (idx:=fun k=>(k+f)%ps.length) (s.up hb) U h2 h3 J hn (zS2 O hn)).mono (wH (fun v W h=>jA (s.up hb).size v W (by rw[zU4 O]at h;exact h)))))<|oc zE<|zB) fun a w3 s hr=>pU<|StS.resN s (xF _ _) rfl (hr _ mz7)
theorem zQy(h:arE ps<0):zCa (zAX ps) (fK (zAX ps) (zAX ps).length)=jV ps:=by
 unfold jV ways
 rw[if_pos h]
theorem zQx(h: ¬arE ps<0):zCa ps (fK ps ps.length)=jV ps:=by
 unfold jV ways
 rw[if_neg h]
theorem zMz{l:WE}(hl:(SF.row 6 (pvs 1 ps)).p l W)(h7:0<ps.length)(hn:ps.length<=12)(U:Tab W):Calls prog 34 #[l] W (Ret W (wG W 30 6 (pns (jV ps)))):=by
 refine z5 [(UF.eq l).tS] func34 rfl kA ⟨rfl,trivial⟩ fun a s=>?_
 replace s:=s.renew [(0,.u (UF.eq l))] (fmz ⟨.inr ⟨_,rfl,.head _⟩,fnz⟩)
 refine rgQ ((2,.u (UF.eq (sN)))::[]) s
  (oc zE<|zB) fun a w1 s=>lQ<|rgQ ((3,.s (UF.eq l).tS)::(4,.s (UF.eq (.int .i64 (arE ps).num.sign)).tS)::(5,.u (uB (decide ((arE ps).num.sign<0))))::[]) s
  (oc zA<|oc (zG zC zXM (fun I X hb (J:I=l)=>zVy (by rw[show I=l from J];exact(SF.row 6 (pvs 1 ps)).st _ _ _ hl (s.up hb)) hn (U.below (s.up hb))))<|oc (zM .i64 ((arE ps).num.sign) 0 (decide ((arE ps).num.sign<0)) iiz iiz rfl rfl)<|zB) fun a w2 s=>StS.cond s (decide ((arE ps).num.sign<0)) iiz (fun e=>?_) (fun e=>?_)
 .have h6:=zJw.1 (xW e)
  refine zCB 2 ((6,.s (UF.eq l).tS)::(7,.s (wG W 30 6 (pvs 1 (zAX ps))))::[]) s kA
   (oc zA<|oc (zG zC zXL (fun I X hb (J:I=l)=>(zUI (m:=1) (by rw[show I=l from J];exact(SF.row 6 (pvs 1 ps)).st _ _ _ hl (s.up hb)) oA).mono (wH (jA (s.up hb).size))))<|zB) fun a w3 s hr=>?_
  obtain⟨v7,e7⟩:∃v,a.tmps.getD 7 undef=v:=⟨_,rfl⟩
  have ha:(SF.row 6 (pvs 1 (zAX ps))).p v7 w3:=e7▸qY _ _ (hr (_,_) mz1)
  replace s:=s.learn 7 v7 e7
  have h5:=s.below
  have hd:=U
  have U:=hd.below h5
  replace s:=s.drop [0]
  replace s:=s.reb rfl [(7,.u (UF.eq v7)),(2,.u (UF.eq (sN)))] (fmz ⟨.inl (.head _),fmz ⟨.inl mz2,fnz⟩⟩)
  refine yO (UF.eq v7) rfl s kA iiz fun a w s=>zD rfl ?_
  have O:0<(zAX ps).length:=by rw[qX];exact h7
  have hqn:(zAX ps).length<=12:=by rw[qX];exact hn
  refine lQ ?_
  replace s:=s.drop [2]
  refine rgN ((8,.s (UF.eq v7).tS)::(9,.s (uI ((fK (zAX ps) (zAX ps).length:Nat):Int)).tS)::(10,.s (UF.eq v7).tS)::(11,.s (SF.row 6 (pvs 1 (zCa (zAX ps) (fK (zAX ps) (zAX ps).length)))))::(12,.s (wG w3 30 6 (pns (zCa (zAX ps) (fK (zAX ps) (zAX ps).length)))))::(2,.s (wG w3 30 6 (pns (zCa (zAX ps) (fK (zAX ps) (zAX ps).length)))))::[]) s
   (oc zA<|oc (zG zC zVX (fun I X hb (J:I=v7)=>(zKl (m:=1) (ps:=(zAX ps)) (zU ha J (s.up hb)) dA dA oA (U.below (s.up hb))).mono (wH (fun v W h=>by rw[zEN O]at h;exact h))))<|oc zA<|oc (zI zC zVY (fun I u1 X hb J (h1:u1=v7)=>(zKg (m:=1) (ps:=(zAX ps)) J (zU ha h1 (s.up hb)) (zQT _ O) oA).mono (wH qY)))<|oc (zG zC zVZ (fun I X hb (J:(SF.row 6 (pvs 1 (zCa (zAX ps) (fK (zAX ps) (zAX ps).length)))).p I X)=>(zMr (m:=1) J dA dA (by rw[zAv];omega) (U.below (s.up hb))).mono (wH (jA (s.up hb).size))))<|oc zE<|zB) fun a w9 s hr=>pU ?_
  rw[zQy h6]at hr
  have h9:=hr (_,_) mz5
  exact StS.resN s h5 rfl (zAk.mono h9 h5.size)
 .have h8: ¬arE ps<0:=fun h=>absurd (zJw.2 h) (nH e)
  refine pV ?_
  have O:=h7
  refine lQ ?_
  replace s:=s.drop [2]
  refine rgN ((8,.s (UF.eq l).tS)::(9,.s (uI ((fK ps ps.length:Nat):Int)).tS)::(10,.s (UF.eq l).tS)::(11,.s (SF.row 6 (pvs 1 (zCa ps (fK ps ps.length)))))::(12,.s (wG W 30 6 (pns (zCa ps (fK ps ps.length)))))::(2,.s (wG W 30 6 (pns (zCa ps (fK ps ps.length)))))::[]) s
   (oc zA<|oc (zG zC zVX (fun I X hb (J:I=l)=>(zKl (m:=1) (ps:=ps) (zU hl J (s.up hb)) dA dA oA (U.below (s.up hb))).mono (wH (fun v W h=>by rw[zEN O]at h;exact h))))<|oc zA<|oc (zI zC zVY (fun I u1 X hb J (h1:u1=l)=>(zKg (m:=1) (ps:=ps) J (zU hl h1 (s.up hb)) (zQT _ O) oA).mono (wH qY)))<|oc (zG zC zVZ (fun I X hb (J:(SF.row 6 (pvs 1 (zCa ps (fK ps ps.length)))).p I X)=>(zMr (m:=1) J dA dA (by rw[zAv];omega) (U.below (s.up hb))).mono (wH (jA (s.up hb).size))))<|oc zE<|zB) fun a w9 s hr=>pU ?_
  rw[zQx h8]at hr
  have h9:=hr (_,_) mz5
  exact StS.resN s (xF _ _) rfl h9
theorem zGG{l:WE}(I:l.cells=#[l]/\zX l=true):Calls prog 35 #[l] W (Ret W (zOw W 67 22 (wC [l]))):=by
 refine z5 [(UF.eq l).tS] func35 rfl kA ⟨rfl,trivial⟩ fun a s=>lQ<|rgK 0 [] s
  zB fun a w1 s=>yN (wC [l]) rfl s kA (fun v W h=>zGE h I.1 I.2) fun J a w s=>yO (UF.eq (.nilFunc)) rfl s kA iiz fun a w s=>zD rfl<|lQ ?_
 replace s:=s.drop [2]
 refine rgE ((3,.Z (UF.eq (.func (.func 67) #[] #[pO J 0])))::(2,.u (UF.eq (.func (.func 67) #[] #[pO J 0])))::[]) s
  (oc (zKW (fun u W hb (h:(wJ J (wC [l]).cf).p u W)=>by rw[h.1];rfl))<|oc zE<|zB) fun a w2 s=>pU ?_
 obtain⟨cs,O,U,e3⟩:=s.boxAt (c:=1) rfl
 exact StS.resN s (xF _ _) rfl ⟨J,cs,s.val (.head _),s.inB_new ⟨_,.head _,rfl,rfl⟩,O,U,e3⟩
theorem Sim.cutS(h:Sim l):DoneS (jV l) (zEU l):=by
 obtain⟨T,e,I⟩:=zEl (jV l).length (jV l) lr h.norm
 unfold zEU
 rw[e]
 exact I
theorem zOq(h:Sim l):(zEU l).length+2+((List.range l.length).filter fun i=>zBi (zAL l i)==0).length<=l.length/\0<(zEU l).length:=by
 have hD:=h.cutS
 refine⟨?_,hD.ne⟩
 have hl:=hD.len
 rw[zHC]at hl
 have e:flN (jV l)=flN l:=by
  unfold flN
  have O:(jV l).Perm l:=by
   unfold jV
   refine(zD4 (l:=ways l)).1.trans ?_
   unfold ways
   split
   .exact(List.perm_ext_iff_of_nodup (zFF h.nod) h.nod).2 fun x=>zN0 l x
   .exact .refl _
  rw[O.countP_eq]
  congr 1
  funext u
  rw[rS]
  unfold zDR
  rcases zQz l with q|q
  .simp only[q.mem_iff]
  .simp only[q.mem_iff,xG]
   constructor
   .rintro⟨a,b,⟨f,hf,e1⟩,⟨g,hg,e2⟩,J⟩
    have f1:f=(u,a):=rF (vQ Prod.snd e1) (vQ Prod.fst e1)
    have g1:g=(b,u):=rF (vQ Prod.snd e2) (vQ Prod.fst e2)
    subst f1 g1
    exact⟨b,a,hg,hf,by unfold crs at J ⊢;grind⟩
   .rintro⟨a,b,h1,h2,J⟩
    exact⟨b,a,⟨(u,b),h2,rfl⟩,⟨(a,u),h1,rfl⟩,by unfold crs at J ⊢;grind⟩
 rw[e]at hl
 have e2:flN l=((List.range l.length).filter fun i=>zBi (zAL l i)==0).length:=by
  have el:l=(List.range l.length).map (at_ l):=zI1 fC fun i hi=>by
   unfold at_
   rw[rH,rH,tJ,zY9 hi]
   rfl
  unfold flN
  rw[<-List.countP_eq_length_filter]
  have:∀L:List Nat,(∀i,i∈L->i<l.length)->(L.map (at_ l)).countP (fun u=>@decide (zDR l u) (Classical.propDecidable _))=L.countP fun i=>zBi (zAL l i)==0:=by
   intro L
   induction L with
   |nil=>intro _;rfl
   | cons i L ih=>
    intro hL
    rw[xX,zZc,zZc,ih fun j hj=>hL j (by simp[hj])]
    congr 1
    have hi:=hL i fC
    obtain⟨X,Y,b,c,a,h5,em,et,_,_⟩:=zGs h.three hi
    have O:=zAO X (at_ l i::Y)
    rw[<-h5,mO,em]at O
    have i1:=O.mem_iff.1 zAi.1
    have i2:=O.mem_iff.1 zAi.2
    have I:zDR l (at_ l i)↔(zBi (zAL l i)==0)=true:=by
     rw[bJ,et]
     constructor
     .rintro⟨p,q,U,h4,J⟩
      have ea:p=a:=vQ Prod.fst (h.snd U i1 rfl)
      have eb:q=b:=vQ Prod.snd (h.fst h4 i2 rfl)
      subst ea eb
      exact zCo.2 J
     .intro J
      exact⟨a,b,i1,i2,zCo.1 J⟩
    by_cases c:zDR l (at_ l i)
    .simp only[c,I.1 c,decide_true]
    .have c': ¬(zBi (zAL l i)==0)=true:=fun k=>c (I.2 k)
     simp only[c,c',decide_false]
  have:=this (List.range l.length) fun i hi=>xT.1 hi
  rw[<-el]at this
  exact this
 omega
theorem zJ2(h:Sim l):∀t,t∈zEU l->t.1∈l/\t.2.1∈l/\t.2.2∈l:=fun t ht=>by
 have:=h.cutS.cor t ht
 exact⟨(zFd _).1 this.1,(zFd _).1 this.2.1,(zFd _).1 this.2.2⟩
end Go.Proofs.Wd
