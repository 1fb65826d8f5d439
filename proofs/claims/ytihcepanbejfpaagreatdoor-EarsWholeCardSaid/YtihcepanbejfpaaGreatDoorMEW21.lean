/- Walks of slices: AppendSeq, Collect; of package hull: Edges; slices.De and what it needs. -/
import Derived.Test.YtihcepanbejfpaaGreatDoorMEW20
abbrev zZZ:=@List.length_eraseIdx_of_lt
abbrev zZ0:=@Nat.mod_self
abbrev zZ1:=@List.eraseIdx_eq_take_drop_succ
abbrev zZ2:=@List.getElem?_range
abbrev zZ3:=@List.countP_cons
abbrev zZ4:=@List.find?_some
namespace Go.Proofs.Wd
open Tryz
open Go.RowKit Lb
variable {C S':Nat->Prop}{N base c c1 c2 c3 cap g gf i k n o z:Nat}{W w w' w0 w00 w_:WB}{e e' ty:WF}{u v:WE}{Cs Ds:List CU}{A:Option Addr}{hi lo x y:Operand}{t:V6}{f f' g':UF}{ops:Array Oper}{a b ca cb cc cd d p q:V2}{pos:String}{aft:Array Edge}{P:Program}{zs:List WE}{ie:TypeInfo}{L l l' ps:List V2}{r:Rat}{ts:List V6}{idx:Nat->Nat}{lb:Array WE}{Ef:Nat->List UF}{FF SS:Int}
section
variable {S:Nat->Prop}{w0:WB}{K:List (Nat×KF)}{B:List Bx}{n:Nat}{ds:List Deferred}{a:Act}{w:WB}
theorem StS.wider(h:StS S w0 K B n [] a w)(J:Nat->Prop)(U:∀q,S q->J q)(I:(K.all fun q=>zJP q.2)=true):StS J w0 K B n [] a w:=by
 have I:=y6 I
 refine⟨h.gr.sub U,h.size,h.nd,fun q O=>?_,wR (a:=a) B (fun x hx=>?_) (fun _ _=>rfl) h.bx,⟨[],Marks.nil _ _⟩,.inl I⟩
 .obtain⟨f,e⟩:=I q O
  have:=h.sl q O
  rw[e]at this ⊢
  exact this
 .obtain⟨cs,_,h2,_⟩:=h.bx.mem x hx
  rcases h2 with e|e|e
  .exact .inl e
  .exact .inr (.inl e)
  .exact .inr (.inr (U _ e))
theorem wN{w1:WB}{K0:List (Nat×KF)}{B0:List Bx}{n0:Nat}{ds0:List Deferred}{a0:Act}(h0:StS S w0 K0 B0 n0 ds0 a0 w1)(h:StS S' w1 K B n [] a w)(O:∀q,S' q->S q∨w0.heap.size<=q)(I:(K.all fun q=>zJP q.2)=true):StS S w0 K B n [] a w:=by
 have I:=y6 I
 refine⟨⟨h.gr.os.trans h0.gr.os,h.gr.tape.trans h0.gr.tape,h.gr.output.trans h0.gr.output,xR h0.gr.size h.gr.size,fun k U hn=>(h.gr.block k (vV U h0.gr.size) fun hh=>by
  rcases O k hh with e|e
  .exact hn e
  .omega).trans (h0.gr.block k U hn)⟩,h.size,h.nd,fun q J=>?_,wR (a:=a) B (fun x hx=>?_) (fun _ _=>rfl) h.bx,⟨[],Marks.nil _ _⟩,.inl I⟩
 .obtain⟨f,e⟩:=I q J
  have:=h.sl q J
  rw[e]at this ⊢
  exact this
 .obtain⟨cs,_,h2,_⟩:=h.bx.mem x hx
  rcases h2 with e|e|e
  .exact .inl e
  .exact .inr (.inl (xR h0.gr.size e))
  .rcases O _ e with e|e
   .exact .inr (.inr e)
   .exact .inr (.inl e)
end
theorem zEz(h:Oth N w w'):zD7 w w':=⟨by rw[h.size];exact vQ _,fun q o I J=>by
 rcases h.block q with e|⟨_,⟨o2,h2,h3⟩,_⟩
 .exact e.trans I
 .rw[I]at h2
  cases h2
  rw[J]at h3
  cases h3⟩
theorem zC2(h:zAO w base e z v Cs):∃A n c,v=.slice A n c:=by
 rcases h with⟨rfl,_⟩|⟨g,cap,cur,rfl,_⟩<;>exact⟨_,_,_,rfl⟩
theorem zDr(h:zAO w base e z v Cs){q:Nat}(I:v.ownBlock=some q):q<w.heap.size/\∃(cs:Array WE) (t:WF) (y:Nat×Nat),w.heap[q]?=some (.cells cs t y)/\cs.toList.all zY=true:=by
 refine⟨(h.lt q I).2,?_⟩
 rcases h with⟨rfl,_⟩|⟨g,cap,J,rfl,h2,h3,h4,h5,h6,O,h8⟩
 .simp[Value.ownBlock]at I
 .simp[Value.ownBlock]at I
  subst I
  exact⟨J,_,_,h3,O⟩
theorem zGD{C:CU}(O:∀cs W,C.p cs W->cs.length=1)(v:WE)(W:WB)(h:(UF.eq (.slice A n c)).p v W):v.cells.size=1/\(∀u,u∈v.cells.toList->u.oneCell'=true)/\v.cells.toList.all zY=true/\∀cs,C.p cs W->0+1<=cs.length/\(wD [.slice A n c]).p (jD cs 0 v.cells.toList) W:=by
 obtain rfl:v=_:=h
 refine⟨rfl,fun u I=>by simp[Value.cells]at I;rw[I];rfl,rfl,fun cs J=>?_⟩
 obtain⟨c,rfl⟩:=List.length_eq_one_iff.1 (O cs W J)
 exact⟨fG,rfl⟩
section
variable {F:Fence}{m:Nat}{P:Program}{w0:WB}{ops:Array Oper}{G:Nat->SF}{d:Tmp}{ty:WF}{pos:String}{aft:Array Edge}
theorem zCz{t:WF}{f:SF}(U:zD1 P t=true)(J:∀u W,(fct G x).p u W->(wC (wD [v]).cf).p u W)(I:f.p v w0)(O:∀u W,f.p u W->(G d).p u W:=by exact fun _ _ h=>h):qO F m P w0 ops G ⟨some d,.load t x,ty,pos,aft,none⟩:=
 qG (fun _ e=>by cases e) (fun _ e=>by cases e) fun b W hb hh=>by
  obtain⟨a,q,cs,e,h2,h3⟩:=J _ _ (hh x (by simp[Op.operands]))
  obtain rfl:cs=[v]:=h2
  exact⟨_,by simp[execOp,Instr.loadAt,e,Instr.sureAddr,zBr U h3 (u:=v) rfl],O _ _ (f.st _ _ _ I hb)⟩
end
section
variable {S:Nat->Prop}{F:Fence}{m:Nat}{P:Program}{Q:Exit->Act->WB->Prop}{w0:WB}{K:List (Nat×KF)}{B:List Bx}{n:Nat}{ds:List Deferred}{a:Act}{w:WB}
theorem zHs{d:Nat}(C:CU){cs:List WE}(hz:zeroCells P e=some cs)(J:ops[k]?=some ⟨some d,.alloc e,ty,pos,aft,none⟩)(h:StS S w0 K B n ds a w)(O:jY K B n d=true)(U:∀W,C.p cs W)(hn:cs.all zY=true)
  (fin:∀b a w',w.heap.size<=b->StS S w0 K (⟨d,e,C,b,false⟩::B) n ds a w'->zAV F m P ops Q (k+1) a w'):zAV F m P ops Q k a w:=by
 have I:(Instr.alloc e true (.tuple #[])).run P w=.ok (pO w.heap.size 0) (w.alloc (.cells cs.toArray e (0,0))):=by
  unfold zeroCells at hz
  cases hi:P.info? e with
  |none=>rw[hi]at hz;cases hz
  | some i=>
   rw[hi]at hz
   simp only[mG]at hz
   cases hzz:i.zero with
   |none=>rw[hzz]at hz;cases hz
   |some z=>
    rw[hzz]at hz
    simp only[mA,lX]at hz
    subst hz
    simp[Instr.alloc,zeroValue,typeInfo,hi,hzz,newVar,newRow]
 exact zAi J rfl (zCl (fun _ e=>by cases e) (fun _ e=>by cases e) (W':=w.alloc (.cells cs.toArray e (0,0))) (v:= pO w.heap.size 0) (by simp[execOp,I]) (fin _ _ _ lr (h.lay O (U _) hn)))
end
set_option maxRecDepth 100000
set_option maxHeartbeats 1000000
def zEa(w:WB)(g:Nat)(e:WF)(z cap:Nat)(Cs:List CU):Prop:=
 ∃cur:Array WE,w.heap[g]?=some (.cells cur e (0,0))/\Cs.length<=cap/\cap<=maxLen/\cur.size=cap*z/\cur.toList.all zY=true/\∀(i:Nat) (C:CU),Cs[i]?=some C->C.p ((cur.toList.drop (i*z)).take z) w
theorem zEa.toN(h:zEa w g e z cap Cs){base:Nat}(hb:base<=g){n:Nat}(hn:n=Cs.length):zAO w base e z (.slice (some ⟨g,0,none⟩) n cap) Cs:=by
 subst hn
 obtain⟨I,O,h2,h3,J,U,h6⟩:=h
 exact .inr ⟨g,cap,I,rfl,hb,O,h2,h3,J,U,h6⟩
theorem zEa.take(h:zEa w g e z cap Cs)(i:Nat):zEa w g e z cap (Cs.take i):=by
 obtain⟨J,U,h2,h3,O,h5,h6⟩:=h
 refine⟨J,U,by rw[uE];omega,h3,O,h5,fun j C I=>?_⟩
 rw[uU]at I
 split at I
 .exact h6 j C I
 .cases I
theorem zVK(h:zAO w base e z v Cs)(h0:0<Cs.length):∃g cap,v=.slice (some ⟨g,0,none⟩) Cs.length cap/\base<=g/\zEa w g e z cap Cs:=by
 rcases h with⟨_,rfl⟩|⟨g,cap,I,rfl,hb,O,h2,h3,J,U,h6⟩
 .simp at h0
 .exact⟨g,cap,rfl,hb,I,O,h2,h3,J,U,h6⟩
theorem zEa.keepU(h:zEa w g e z cap Cs)(I:w.grownBy w' (some g)):y7 w w':=zAO.keepU (h.toN lr rfl) I
theorem zQx{t:WF}{v2:WE}(h6:zE8 P t=some (e,z,true))(hr:zEa w g e z cap Cs)(h2:(SF.row z Ds).p v2 w)(hD:∀C,C∈Ds->CU.ok z C)(O:Cs.length+Ds.length<=cap):
  ∃w',(Builtin.append_ #[t,t] ty #[.slice (some ⟨g,0,none⟩) Cs.length cap,v2]).run P w=.ok (.slice (some ⟨g,0,none⟩) (Cs.length+Ds.length) cap) w'/\zEa w' g e z cap (Cs++Ds)/\w.grownBy w' (some g):=by
 obtain⟨ht,i,zv,hi,hz,hs,hby0,hzs,hzn,hz0⟩:=zCG h6
 obtain⟨J,g3,g4,g5,g6,g7,g8⟩:=id hr
 obtain⟨A,c,rfl,hlc,hcm,hp,h4⟩:=h2
 cases A with
 | none=>
  have hl:Ds=[]:=by
   cases Ds with
   |nil=>rfl
   |cons D Ds=>obtain⟨b,o,cs,e1,_⟩:=h4 0 D rfl;cases e1
  subst hl
  have hc:=hp rfl
  subst hc
  refine⟨w,?_,by simpa using hr,⟨rfl,rfl,rfl,vQ _,fun _ _ _=>rfl⟩⟩
  simp[Builtin.append_,bI ht,sizeOf,typeInfo,hi,Builtin.lenOf,Builtin.firstCells,g4,storeCells]
 | some ad=>
  obtain⟨I,n1,n2,n3,n4,n5⟩:∃I:List WE,I.length=Ds.length*z/\(∀j u,I[j]?=some u->w.cell? (ad.add j)=some u)/\(∀u,u∈I->u.oneCell'=true)/\I.all zY=true/\∀(i:Nat) (C:CU),Ds[i]?=some C->C.p ((I.drop (i*z)).take z) w:=by
   cases Ds with
   |nil=>exact⟨[],fG,fG,fG,rfl,fG⟩
   | cons D Ds=>
    obtain⟨b,o,cs,e1,_⟩:=h4 0 D rfl
    cases e1
    obtain⟨I,k1,k2,k3⟩:=zEj (W:=w) (b:=b) (z:=z) (D::Ds) o hD fun i C hf=>by
     obtain⟨b',o',cs',e',m1,m2⟩:=h4 i C hf
     cases e'
     exact⟨cs',m1,m2⟩
    exact⟨I,k1,fun j u hj=>by rw[xI];exact k2 j u hj,k3⟩
  have U:Cs.length*i.size+I.length<=J.size:=by rw[n1,g6,hs,<-vU];exact uF _ O
  have h8:=run_append_room (P:=P) w t ty e i ht hi g Cs.length cap J g3 ad Ds.length c I (by rw[hs];exact n1) n2 n3 O U
  rw[hs]at h8 U
  have h5:w.grownBy (w.setRow g (J.toList.take (Cs.length*z)++I++J.toList.drop (Cs.length*z+I.length)).toArray) (some g):=zBG w g _
  have hk:y7 w (w.setRow g (J.toList.take (Cs.length*z)++I++J.toList.drop (Cs.length*z+I.length)).toArray):=hr.keepU h5
  have hh:J.toList.length=cap*z:=g6
  have ha:Cs.length*z<=J.toList.length:=by rw[hh];exact uF _ g4
  have h7:(J.toList.take (Cs.length*z)).length=Cs.length*z:=by rw[uE,uR ha]
  have h0:∀u,u∈J.toList->zY u=true:=xT.1 g7
  refine⟨_,h8,⟨_,tA w g J _ e _ g3,by rw[uG];exact O,g5,?_,?_,?_⟩,h5⟩
  .simp only[bN,uG,uE,uK,tB]
   rw[<-g6]
   omega
  .exact zD6 (xT.2 fun u hu=>h0 u (uW hu)) n4 (xT.2 fun u hu=>h0 u (gA hu))
  .refine zDw h7 n1 (fun j C hj=>?_) n5 hk
   have hn:j<Cs.length:=(bE.1 hj).1
   have h1:=g8 j C hj
   rw[<-gB (Cs.length*z) J.toList,zCZ h7 hn]at h1
   exact h1
theorem zHi{I:Array WE}(h:∀u,u∈I.toList->u.oneCell'=true)(n:Nat):∀u,u∈(Builtin.zeroCells I n).toList->u.oneCell'=true:=by
 intro u O
 simp only[Builtin.zeroCells,Array.toList_map,xH,Array.toList_range,xU]at O
 obtain⟨i,hi,rfl⟩:=O
 have U:0<I.size:=by
  rcases uJ I.size with h|h
  .rw[h]at hi;omega
  .exact h
 have J:i%I.size<I.size:=vY _ U
 rw[getElem!_pos I _ J]
 exact h _ (Array.getElem_mem_toList J)
theorem zQw{t:WF}(h7:zE8 P t=some (e,z,true))(O:zeroCells P e=some zs)(ha:∀u,u∈zs->u.oneCell'=true)(hr:zEa w g e z cap Cs)(ho:Cs.length<=o)(hn0:0<n)(hn:o+n<=cap):
  ∃w',(Builtin.clear_ #[t] ty #[.slice (some ⟨g,o*z,none⟩) n c]).run P w=.ok (.tuple #[]) w'/\zEa w' g e z cap Cs/\w.grownBy w' (some g):=by
 obtain⟨ht,i,J,hi,hz,hs,hby0,h9,he,hz0⟩:=zCG h7
 obtain⟨I,g3,g4,g5,g6,g7,g8⟩:=id hr
 have ez:zs=J.cells.toList:=by
  unfold zeroCells at O
  rw[hi]at O
  simp only[mG,hz,mA,lX]at O
  exact O.symm
 subst ez
 have h5:(Builtin.zeroCells J.cells n).toList.length=n*z:=by rw[tB,tD,h9]
 have h4:I.toList.length=cap*z:=g6
 have h8:o*z+n*z<=cap*z:=by rw[<-vU];exact uF _ hn
 have hd:=zAn (P:=P) (b:=g) (t:=e) (Builtin.zeroCells J.cells n).toList (o*z) I.toList w (by simpa using g3) (by rw[h5,h4];exact h8) (zHi ha n)
 have U:=zBB (b:=g) (Builtin.zeroCells J.cells n).toList (o*z) 0
 rw[uN]at U
 obtain⟨n',rfl⟩:∃n',n=n'+1:=⟨n-1,oA⟩
 have h6:w.grownBy (w.setRow g (jD I.toList (o*z) (Builtin.zeroCells J.cells (n'+1)).toList).toArray) (some g):=zBG w g _
 refine⟨w.setRow g (jD I.toList (o*z) (Builtin.zeroCells J.cells (n'+1)).toList).toArray,?_,⟨_,tA w g I _ e _ g3,g4,g5,?_,?_,fun j C hj=>?_⟩,h6⟩
 .have hc:(zeroValue e).run P w=.ok J w:=by simp[zeroValue,typeInfo,hi,hz]
  simp only[Builtin.clear_,cC,cF,cM]
  simp[bI ht,hc,U,hd,Result.andThen]
 .unfold jD
  simp only[bN,uG,uE,uK]
  rw[h5,h4]
  omega
 .unfold jD
  have h0:∀u,u∈I.toList->zY u=true:=xT.1 g7
  exact zD6 (xT.2 fun u hu=>h0 u (uW hu)) (zBI he _) (xT.2 fun u hu=>h0 u (gA hu))
 .have hlt:j<Cs.length:=(bE.1 hj).1
  have h1:=g8 j C hj
  have hjz:j*z+z<=o*z:=by
   have:=uF z (show j+1<=o from oA)
   rw[vU,uV]at this
   exact this
  have hg:(I.toList.take (o*z)).length=o*z:=by rw[uE,h4];omega
  have e1:((jD I.toList (o*z) (Builtin.zeroCells J.cells (n'+1)).toList).drop (j*z)).take z=(I.toList.drop (j*z)).take z:=by
   refine List.ext_getElem? fun q=>?_
   unfold jD
   rw[uU,uU]
   split
   .rename_i hq
    rw[uX,uX,sZ,gC (by rw[hg];omega),uU,if_pos oA]
   .rfl
  show C.p (((jD I.toList (o*z) (Builtin.zeroCells J.cells (n'+1)).toList).toArray.toList.drop (j*z)).take z) _
  rw[zZY,e1]
  exact C.us _ _ _ h1 (hr.keepU h6)
section
variable {S:Nat->Prop}{F:Fence}{m:Nat}{P:Program}{Q:Exit->Act->WB->Prop}{w0:WB}{K:List (Nat×KF)}{B:List Bx}{n:Nat}{ds:List Deferred}{a:Act}{w:WB}{ops:Array Oper}
theorem StS.turnR(h:StS S w0 K [] n [] a w){g:Nat}{w':WB}(hS:S g)(hg:w.grownBy w' (some g))(hk:y7 w w')(O:(K.all fun q=>zJP q.2)=true):StS S w0 K [] n [] a w':=
 ⟨h.gr.grown hg (.inr hS),h.size,h.nd,fun q I=>by
  obtain⟨f,U⟩:=y6 O q I
  have J:=h.sl q I
  rw[U]at J ⊢
  exact f.us _ _ _ J hk,trivial,⟨[],Marks.nil _ _⟩,.inl (y6 O)⟩
theorem zVx{d:Nat}{t:WF}(h:StS S w0 K [] n [] a w)(hS:S g)(hr:zEa w g e z cap Cs)
  (ho:ops[k]?=some ⟨some d,.call ⟨.builtin .append,#[x,y],#[t,t]⟩,ty,pos,aft,none⟩)(happ:zE8 P t=some (e,z,true))(hf:jY K [] n d=true)(hu:(K.all fun q=>zJP q.2)=true)
  (hx:a.eval x=.slice (some ⟨g,0,none⟩) Cs.length cap)(hy:(SF.row z Ds).p (a.eval y) w)(hD:∀C,C∈Ds->CU.ok z C)(hroom:Cs.length+Ds.length<=cap)
  (fin:∀a' w',w.heap.size<=w'.heap.size->w.grownBy w' (some g)->zEa w' g e z cap (Cs++Ds)->StS S w0 ((d,.u (UF.eq (.slice (some ⟨g,0,none⟩) (Cs.length+Ds.length) cap)))::K) [] n [] a' w'->zAV F m P ops Q (k+1) a' w'):zAV F m P ops Q k a w:=by
 obtain⟨w',hrun,g1,g2⟩:=zQx (P:=P) (ty:=ty) happ hr hy hD hroom
 have hrun2:(execOp a.eval ⟨some d,.call ⟨.builtin .append,#[x,y],#[t,t]⟩,ty,pos,aft,none⟩).run P w=.ok (.value (.slice (some ⟨g,0,none⟩) (Cs.length+Ds.length) cap)) w':=by
  simp only[execOp,resolve,invoke,builtin,cC,cF,cM,cQ,xY,bP,hx,hrun]
 refine zAi ho rfl ⟨fun f hf=>(by
  unfold Oper.about at hf
  simp[resolve,go_sem]at hf),?_⟩
 rw[bH _ _ _ (fun _ e=>by cases e),hrun2]
 exact fin _ w' g2.size g2 g1 ((h.turnR hS g2 (hr.keepU g2) hu).set hf (xG _ _) rfl)
theorem zVw{t:WF}{n':Nat}(h:StS S w0 K [] n [] a w)(hS:S g)(hr:zEa w g e z cap Cs)
  (ho:ops[k]?=some ⟨none,.call ⟨.builtin .clear,#[x],#[t]⟩,ty,pos,aft,none⟩)(happ:zE8 P t=some (e,z,true))(hzs:zeroCells P e=some zs)(hone:∀u,u∈zs->u.oneCell'=true)(hu:(K.all fun q=>zJP q.2)=true)
  (hx:a.eval x=.slice (some ⟨g,o*z,none⟩) n' c)(hoc:Cs.length<=o)(hn0:0<n')(hn:o+n'<=cap)
  (fin:∀w',w.grownBy w' (some g)->zEa w' g e z cap Cs->StS S w0 K [] n [] a w'->zAV F m P ops Q (k+1) a w'):zAV F m P ops Q k a w:=by
 obtain⟨w',hrun,g1,g2⟩:=zQw (P:=P) (ty:=ty) (c:=c) happ hzs hone hr hoc hn0 hn
 have hrun2:(execOp a.eval ⟨none,.call ⟨.builtin .clear,#[x],#[t]⟩,ty,pos,aft,none⟩).run P w=.ok (.value (.tuple #[])) w':=by
  simp only[execOp,resolve,invoke,builtin,cC,cF,cM,cQ,xY,bP,hx,hrun]
 refine zAi ho rfl ⟨fun f hf=>(by
  unfold Oper.about at hf
  simp[resolve,go_sem]at hf),?_⟩
 rw[bH _ _ _ (fun _ e=>by cases e),hrun2]
 exact fin w' g2 g1 (h.turnR hS g2 (hr.keepU g2) hu)
end
section
variable {F:Fence}{m:Nat}{P:Program}{w0:WB}{ops:Array Oper}{G:Nat->SF}{d:Tmp}{ty:WF}{pos:String}{aft:Array Edge}
theorem zQu{t:WF}(hu:P.underlying t=some (.slice e'))(hie:P.info? e'=some ie)(A:Option Addr)(n c lo hi mx:Nat)(h1:lo<=hi)(h2:hi<=mx)(h3:mx<=c)(w:WB):∃v,(Instr.sliceAt t (.slice A n c) (some (.int .i64 (lo:Int))) (some (.int .i64 (hi:Int))) (some (.int .i64 (mx:Int)))).run P w=.ok v w:=by
 exact⟨_,by simp[Instr.sliceAt,Instr.slice,Instr.sliceBounds,bI hu,sizeOf,typeInfo,hie,go_sem,h1,h2,h3];rfl⟩
theorem zUk{J:Operand}{t:WF}{j:Nat}(hz:qP P t=some z)(h1:i<=j)(h2:j<=k)(h3:k<=c)(hx:∀v W,(fct G x).p v W->v=.slice A n c)(U:∀v W,(fct G lo).p v W->v=.int .i64 (i:Int))(hh:∀v W,(fct G hi).p v W->v=.int .i64 (j:Int))(hm:∀v W,(fct G J).p v W->v=.int .i64 (k:Int))(hd:∀v W,(G d).p v W:=by exact fun _ _=>trivial):qO F m P w0 ops G ⟨some d,.slice t x (some lo) (some hi) (some J),ty,pos,aft,none⟩:=
 qG (fun _ e=>by cases e) (fun _ e=>by cases e) fun b W hb I=>by
  have e1:=hx _ _ (I x (by simp[Op.operands]))
  have e2:=U _ _ (I lo (by simp[Op.operands]))
  have e3:=hh _ _ (I hi (by simp[Op.operands]))
  have e4:=hm _ _ (I J (by simp[Op.operands]))
  unfold qP at hz
  split at hz<;>try cases hz
  rename_i e' hu
  obtain⟨ie,O,hsz⟩:=lY.1 hz
  obtain⟨v,hv⟩:=zQu (P:=P) hu O A n c i j k h1 h2 h3 W
  exact⟨v,by simp[execOp,e1,e2,e3,e4,hv],hd _ _⟩
theorem zMg{t:WF}(hu:P.underlying t=some (.slice e'))(hie:P.info? e'=some ie)(hsz:ie.size=z)(g n c k h:Nat)(hk:k<=h)(hh:h<=c)(hkc:c≠k)(w:WB):(Instr.sliceAt t (.slice (some ⟨g,0,none⟩) n c) (some (.int .i64 (k:Int))) (some (.int .i64 (h:Int))) none).run P w=.ok (.slice (some ⟨g,k*z,none⟩) (h-k) (c-k)) w:=by
 simp[Instr.sliceAt,Instr.slice,Instr.sliceBounds,bI hu,sizeOf,typeInfo,hie,hsz,go_sem,hk,hh,hkc,xI]
theorem zOm{t:WF}{h:Nat}(hz:qP P t=some z)(hk:k<=h)(hh:h<=c)(U:c≠k)(hx:∀v W,(fct G x).p v W->v=.slice (some ⟨g,0,none⟩) n c)(hl:∀v W,(fct G lo).p v W->v=.int .i64 (k:Int))(O:∀v W,(fct G hi).p v W->v=.int .i64 (h:Int))(hd:∀W,(G d).p (.slice (some ⟨g,k*z,none⟩) (h-k) (c-k)) W:=by exact fun _=>rfl):qO F m P w0 ops G ⟨some d,.slice t x (some lo) (some hi) none,ty,pos,aft,none⟩:=
 qG (fun _ e=>by cases e) (fun _ e=>by cases e) fun b W hb J=>by
  have e1:=hx _ _ (J x (by simp[Op.operands]))
  have e2:=hl _ _ (J lo (by simp[Op.operands]))
  have e3:=O _ _ (J hi (by simp[Op.operands]))
  unfold qP at hz
  split at hz<;>try cases hz
  rename_i e' hu
  obtain⟨ie,h0,I⟩:=lY.1 hz
  exact⟨_,by simp[execOp,e1,e2,e3,zMg (P:=P) hu h0 I g n c k h hk hh U W],hd _⟩
end
theorem StS.anew{S:Nat->Prop}{K:List (Nat×KF)}{a:Act}(h:StS S w0 K [] n [] a w)(J:(K.all fun q=>zJP q.2)=true):StS S' w K [] n [] a w:=
 ⟨BlS.refl _ _,h.size,h.nd,fun q I=>by
  obtain⟨f,U⟩:=y6 J q I
  have O:=h.sl q I
  rw[U]at O ⊢
  exact O,trivial,⟨[],Marks.nil _ _⟩,.inl (y6 J)⟩
theorem zEB(h:bW w w')(g:Option Nat):w.grownBy w' g:=⟨h.os,h.tape,h.output,h.size,fun k I _=>h.block k I⟩
theorem zDA{a b c:WB}{g:Option Nat}(h:a.grownBy b g)(k:b.grownBy c g):a.grownBy c g:=⟨k.os.trans h.os,k.tape.trans h.tape,k.output.trans h.output,xR h.size k.size,fun q I J=>(k.block q (vV I h.size) J).trans (h.block q I J)⟩
theorem zEa.below(h:zEa w g e z cap Cs)(hb:bW w w'):zEa w' g e z cap Cs:=by
 obtain⟨I,J,h2,h3,O,U,h6⟩:=h
 exact⟨I,(hb.block g (xQ.1 J).1).trans J,h2,h3,O,U,fun i C hi=>C.us _ _ _ (h6 i C hi) (zR hb)⟩
theorem zO6{α:Type}(l:List α)(i:Nat):l.take i++l.drop (i+1)=l.eraseIdx i:=(zZ1 l i).symm
theorem zSe{x:WE}(hr:zEa W g 30 6 cap Cs)(hC:∀C,C∈Cs->CU.ok 6 C)(hi:i<Cs.length)(hn:Cs.length<=1000000)(hv:v=.slice (some ⟨g,0,none⟩) Cs.length cap)(hu:u=.int .i64 (i:Int))(hx:x=.int .i64 ((i+1:Nat):Int)):
  Calls prog 37 #[v,u,x] W fun e W'=>e=.returned (.slice (some ⟨g,0,none⟩) (Cs.length-1) cap)/\zEa W' g 30 6 cap (Cs.eraseIdx i)/\W.grownBy W' (some g):=by
 subst hv hu hx
 have J:Cs.length<=cap:=by obtain⟨_,_,h,_⟩:=hr;exact h
 refine zIc func37 rfl ?_
 have s:=zHw (w:=W) (fn:=f37) (args:=#[.slice (some ⟨g,0,none⟩) Cs.length cap,.int .i64 (i:Int),.int .i64 ((i+1:Nat):Int)]) noS [(0,UF.eq (.slice (some ⟨g,0,none⟩) Cs.length cap)),(1,uI (i:Int)),(2,uI ((i+1:Nat):Int))] [] kA (fun q hq=>by
  simp only[xS,rL,rK]at hq
  rcases hq with rfl|rfl|rfl
  .exact⟨fG,rfl⟩
  .exact⟨fG,rfl⟩
  .exact⟨fG,rfl⟩) trivial (fun x hx=>by cases hx)
 generalize({ tmps:=#[.slice (some ⟨g,0,none⟩) Cs.length cap,.int .i64 (i:Int),.int .i64 ((i+1:Nat):Int)]++Array.replicate (f37.ntmps-(#[.slice (some ⟨g,0,none⟩) Cs.length cap,.int .i64 (i:Int),.int .i64 ((i+1:Nat):Int)]:Array WE).size) undef,defers:=[] }:Act)=a at s ⊢
 have hle:Cs.length<9223372036854775807:=oA
 refine rgQ ((6,.u (UF.eq (sN)))::[]) s
  (oc zF<|zB) fun a w1 s=>rgQ ((8,.s (UF.eq (.slice (some ⟨g,0,none⟩) Cs.length cap)).tS)::(9,.s (uI (i:Int)).tS)::(10,.s (uI ((i+1:Nat):Int)).tS)::(11,.s (UF.eq (.slice (some ⟨g,0,none⟩) Cs.length cap)).tS)::(12,.s (uI (Cs.length:Int)).tS)::(13,.s SF.any)::[]) s
  (oc zA<|oc zA<|oc zA<|oc zA<|oc (zC8 kA (fun v W h=>⟨_,_,_,h,rfl⟩))<|oc (zUk (A:=some ⟨g,0,none⟩) (n:=Cs.length) (c:=cap) (i:=i) (j:=i+1) (k:=Cs.length) (z:=6) kA oA oA J iiz iiz iiz iiz)<|zB) fun a w2 s=>lP<|rgQ ((14,.s (uI (i:Int)).tS)::(15,.s (uI ((i+1:Nat):Int)).tS)::(16,.u (uB false))::[]) s
  (oc zA<|oc zA<|oc (zI .i64 (i:Int) ((i+1:Nat):Int) false iiz iiz (nH.2 oA) rfl)<|zB) fun a w3 s=>StS.cond s false iiz fS (fun e=>?_)
 refine pT<|rgQ ((18,.s (UF.eq (.slice (some ⟨g,0,none⟩) Cs.length cap)).tS)::(19,.s (uI (Cs.length:Int)).tS)::(7,.u (uI (Cs.length:Int)))::[]) s
  (oc zA<|oc (zC8 kA (fun v W h=>⟨_,_,_,h,rfl⟩))<|oc zF<|zB) fun a w4 s=>lP ?_
 have h5:=s.below
 have h7:=hr.below h5
 have U:(SF.row 6 Cs).p (.slice (some ⟨g,0,none⟩) Cs.length cap) w4:=(h7.toN lr rfl).row
 replace s:=(s.keepK [(0,.u (UF.eq (.slice (some ⟨g,0,none⟩) Cs.length cap))),(1,.u (uI (i:Int))),(2,.u (uI ((i+1:Nat):Int))),(7,.u (uI (Cs.length:Int)))] (fU mz3<|fU mz4<|fU mz5<|fU (.head _) fnz)).anew (S':=noS) kA
 refine zBF (K:=[(1,.u (uI (i:Int))),(2,.u (uI ((i+1:Nat):Int))),(7,.u (uI (Cs.length:Int)))]) [(0,.u (UF.eq (.slice (some ⟨g,0,none⟩) Cs.length cap)))] [0,3] 6 ((20,.u (UF.eq (.slice (some ⟨g,0,none⟩) Cs.length cap)))::(21,.s (uI (i:Int)).tS)::(22,.u (UF.eq (.slice (some ⟨g,0,none⟩) i cap)))::(23,.s (UF.eq (.slice (some ⟨g,0,none⟩) Cs.length cap)).tS)::(24,.s (uI ((i+1:Nat):Int)).tS)::(25,.s (SF.row 6 (Cs.drop (i+1))))::[]) hmix (s.keepK _ (fU (.head _)<|fU mz1<|fU mz2<|fU mz3 fnz)) kA
  (oc zA<|oc zA<|oc (zWb (A:=some ⟨g,0,none⟩) (n:=Cs.length) (c:=cap) (k:=i) (z:=6) kA oA iiz iiz)<|oc zA<|oc zA<|oc (zMw (z:=6) (k:=i+1) (Cs:=Cs) kA oA (fun v W hb h=>by rw[show v=_ from h];exact(SF.row 6 Cs).st _ _ _ U (s.up hb)) iiz)<|zB) fun Q' hQ a w5 s hm=>?_
 have h4:=s.below
 have hh:=h7.below h4
 have O:(Cs.take i).length=i:=by rw[uE];omega
 have h6:(Cs.drop (i+1)).length=Cs.length-(i+1):=uK
 have e22:a.tmps.getD 22 undef=.slice (some ⟨g,0,none⟩) i cap:=s.val mz1
 refine zVx (S:=fun q=>q=g) (g:=g) (e:=30) (z:=6) (cap:=cap) (Cs:=Cs.take i) (Ds:=Cs.drop (i+1)) ((s.keepK [(1,.u (uI (i:Int))),(2,.u (uI ((i+1:Nat):Int))),(7,.u (uI (Cs.length:Int)))] (fU mz2<|fU mz3<|fU mz4 fnz)).anew kA) rfl (hh.take i) rfl kA kA kA (by rw[O];exact s.fct (.tmp 22)) (hm (_,_) mz5) (fun C hj=>hC C (gA hj)) (by rw[O,h6];omega) fun a w6 hsz6 hf h9 s=>?_
 rw[zO6]at h9
 rw[O,h6]at s
 replace s:=s.anew (S':=noS) kA
 refine yQ (UF.eq (.slice (some ⟨g,0,none⟩) (i+(Cs.length-(i+1))) cap)) rfl s kA iiz fun a w s=>zD rfl (hQ _ _ ?_)
 refine lP ?_
 have h8:=s.below
 have hd:=h9.below h8
 have h0:=(zEB h4 (some g))
 replace s:=(s.keepK [(0,.u (UF.eq (.slice (some ⟨g,0,none⟩) (i+(Cs.length-(i+1))) cap))),(7,.u (uI (Cs.length:Int)))] (fU (.head _)<|fU mz4 fnz)).anew (S':=noS) kA
 have hc:i+(Cs.length-(i+1))=Cs.length-1:=oA
 refine rgK 5 ((27,.s (UF.eq (.slice (some ⟨g,0,none⟩) (i+(Cs.length-(i+1))) cap)).tS)::(28,.s (UF.eq (.slice (some ⟨g,0,none⟩) (i+(Cs.length-(i+1))) cap)).tS)::(29,.s (uI ((i+(Cs.length-(i+1)):Nat):Int)).tS)::(30,.s (uI (Cs.length:Int)).tS)::(31,.u (UF.eq (.slice (some ⟨g,(i+(Cs.length-(i+1)))*6,none⟩) (Cs.length-(i+(Cs.length-(i+1)))) (cap-(i+(Cs.length-(i+1)))))))::[]) s
  (oc zA<|oc zA<|oc (zC8 kA (fun v W h=>⟨_,_,_,h,rfl⟩))<|oc zA<|oc (zOm (g:=g) (n:=i+(Cs.length-(i+1))) (c:=cap) (k:=i+(Cs.length-(i+1))) (h:=Cs.length) (z:=6) kA oA J oA iiz iiz iiz)<|zB) fun a w8 s=>?_
 have h1:=s.below
 have hl:=hd.below h1
 have el:(Cs.eraseIdx i).length=Cs.length-1:=zZZ hi
 refine zVw (S:=fun q=>q=g) (g:=g) (e:=30) (z:=6) (cap:=cap) (o:=i+(Cs.length-(i+1))) (n':=Cs.length-(i+(Cs.length-(i+1)))) (c:=cap-(i+(Cs.length-(i+1)))) (Cs:=Cs.eraseIdx i) (zs:=[.bool false, sN, sN,.bool false, sN, sN]) (s.anew kA) rfl hl rfl kA kA (fun u hu=>by
  simp only[xS,rL,rK]at hu
  rcases hu with rfl|rfl|rfl|rfl|rfl|rfl<;>rfl) kA (s.fct (.tmp 31)) oA oA oA fun w9 hk he s=>?_
 refine zD rfl ?_
 replace s:=s.anew (S':=noS) kA
 replace s:=s.keepK [(0,.u (UF.eq (.slice (some ⟨g,0,none⟩) (i+(Cs.length-(i+1))) cap)))] (fU mz1 fnz)
 refine rgQ ((32,.s (UF.eq (.slice (some ⟨g,0,none⟩) (i+(Cs.length-(i+1))) cap)).tS)::(6,.u (UF.eq (.slice (some ⟨g,0,none⟩) (i+(Cs.length-(i+1))) cap)))::[]) s
  (oc zA<|oc zF<|zB) fun a w10 s=>pS ?_
 have I:=s.below
 refine⟨s.nd,(.slice (some ⟨g,0,none⟩) (i+(Cs.length-(i+1))) cap),?_,?_,he.below I,?_⟩
 .have e6:a.tmps.getD 6 undef=(.slice (some ⟨g,0,none⟩) (i+(Cs.length-(i+1))) cap):=s.val (.head _)
  simp[results,results37]
  rw[<-xV]
  exact e6
 .rw[hc]
 .exact zDA (zEB h5 _) (zDA h0 (zDA hf (zDA (zEB h8 _) (zDA (zEB h1 _) (zDA hk (zEB I _))))))
def zB6(ps:List V2):List V2:=(List.range ps.length).map fun i=>at_ ps ((ps.length-i)%ps.length)
theorem zCq(ps:List V2):(zB6 ps).length=ps.length:=by simp[zB6]
theorem zHe(hi:i<ps.length):at_ (zB6 ps) i=at_ ps ((ps.length-i)%ps.length):=by
 show(zB6 ps).getD i (0,0)=_
 unfold zB6
 rw[rG,tK,zZ2 hi]
 rfl
theorem zQA(hi:i<ps.length):at_ (zB6 ps) i=at_ ps ((ps.length-1-i+1)%ps.length)/\at_ (zB6 ps) ((i+1)%(zB6 ps).length)=at_ ps (ps.length-1-i):=by
 refine⟨by rw[zHe hi];congr 2;omega,?_⟩
 rw[zCq,zHe (vY _ oA)]
 congr 1
 rcases tX (Nat.succ_le_of_lt hi)with h|h
 .rw[uD (show i+1<ps.length from h),uD oA];omega
 .rw[show i+1=ps.length from h,zZ0,pE,zZ0];omega
theorem zKw{a b:Rat}(h:(a<=r/\r<=b)∨(b<=r/\r<=a)):zUS a b r=true:=by
 have I:∀{x y:Rat},x<=y->qsg x y<=0:=fun {x y} h=>by
  rcases zEU x y with e|e|e
  .omega
  .omega
  .exact absurd (zG0.1 e) (Rat.not_lt.2 h)
 have J:∀{x y:Rat},x<=y->0<=qsg y x:=fun {x y} h=>by rw[zJ6 x y];have:=I h;omega
 unfold zUS
 rw[xW]
 constructor
 .refine lH ?_
  rcases h with⟨O,h2⟩|⟨O,h2⟩
  .have:=Int.mul_nonneg_of_nonpos_of_nonpos (I O) (I h2);omega
  .have:=Int.mul_nonneg (J h2) (J O);omega
 .unfold zXW
  by_cases e:a=b
  .subst e
   have:a=r:=by rcases h with⟨O,h2⟩|⟨O,h2⟩<;>grind
   rw[this,zCS.2 rfl];rfl
  .rw[nH.2 (fun h=>e (zCS.1 h))];rfl
theorem zF0{a b t:Rat}(h0:0<=t)(h1:t<=1):(a<=a+(b-a)*t/\a+(b-a)*t<=b)∨(b<=a+(b-a)*t/\a+(b-a)*t<=a):=by
 rcases(rM:a<=b∨b<=a)with h|h
 .have I:=rD (show 0<=b-a from fF) h0
  have J:=rD (show 0<=b-a from fF) (show 0<=1-t from fF)
  exact .inl ⟨fF,fF⟩
 .have I:=rD (show 0<=a-b from fF) h0
  have J:=rD (show 0<=a-b from fF) (show 0<=1-t from fF)
  exact .inr ⟨fF,fF⟩
theorem zV7{t:Rat}(h0:0<=t)(h1:t<=1):onB a b (seg a b t)=true:=by
 unfold onB
 have h2:yP a b (seg a b t)=0:=by
  unfold yP
  rw[show crs a b (seg a b t)=0 by unfold crs seg;grind]
  rfl
 rw[h2]
 unfold seg
 rw[zKw (zF0 h0 h1),zKw (zF0 h0 h1)]
 rfl
theorem zVJ(z:Nat)(W:WB):(SF.row z []).p (sN) W:=⟨none,0,rfl,vQ _,fH,fun _=>rfl,fun i C hi=>by simp at hi⟩
theorem zHT{F:Fence}{m:Nat}{G:Nat->SF}{d:Tmp}{f:FuncId}{z q:Operand}{ats:Array WF}(hF:zJQ F m P)(J:Enters P f)(h:∀u v r s W,bW w0 W->(fct G x).p u W->(fct G y).p v W->(fct G z).p r W->(fct G q).p s W->Calls P f #[u,v,r,s] W (Ret W (G d))):qO F m P w0 ops G ⟨some d,.call ⟨.value (.func f),#[x,y,z,q],ats⟩,ty,pos,aft,none⟩:=
 zEp hF J fun b W hb I=>by simpa using h _ _ _ _ W hb (I x fC) (I y fC) (I z fC) (I q fC)
def zFo(p q:V2):Prop:=∃m n,PB p m/\PB q n/\m+n<=81
theorem zFo.sub(h:zFo p q):QB (q.1-p.1) 82/\QB (q.2-p.2) 82:=by
 obtain⟨m,n,I,h2,h3⟩:=h
 exact⟨(h2.1.sub I.1).mono oA,(h2.2.sub I.2).mono oA⟩
theorem zFo.one(h:zFo p q):QB p.1 80/\QB p.2 80:=by
 obtain⟨m,n,I,h2,h3⟩:=h
 exact⟨I.1.mono (by have:=h2.1.pos;omega),I.2.mono (by have:=h2.1.pos;omega)⟩
theorem zFo.two(h:zFo p q):QB q.1 80/\QB q.2 80:=by
 obtain⟨m,n,I,h2,h3⟩:=h
 exact⟨h2.1.mono (by have:=I.1.pos;omega),h2.2.mono (by have:=I.1.pos;omega)⟩
def dnm(a b c d:V2):Rat:=(b.1-a.1)*(d.2-c.2)-(b.2-a.2)*(d.1-c.1)
def tnm(a c d:V2):Rat:=(c.1-a.1)*(d.2-c.2)-(c.2-a.2)*(d.1-c.1)
def qA(a b c d:V2):V2:=if dnm a b c d=0 then(((0:Int):Rat),((0:Int):Rat))else seg a b (tnm a c d/dnm a b c d)
theorem zSB{m:Nat}(h:zFo a b)(hm:163<=m):∃l:Ln,l.bd m/\∃s:Rat,s≠0/\∀p:V2,(l.A:Rat)*p.1+(l.B:Rat)*p.2+(l.C:Rat)=s*crs a b p:=by
 obtain⟨k,n,I,hb,hkn⟩:=h
 refine⟨⟨-(b.2.num*a.2.den-a.2.num*b.2.den)*(a.1.den*b.1.den),(b.1.num*a.1.den-a.1.num*b.1.den)*(a.2.den*b.2.den),b.2.num*a.1.num*(b.1.den*a.2.den)-b.1.num*a.2.num*(a.1.den*b.2.den)⟩,?_,(a.1.den:Rat)*b.1.den*(a.2.den*b.2.den),?_,fun p=>?_⟩
 .have O:=jF I.1.2;have U:=jF I.2.2;have J:=jF hb.1.2;have d4:=jF hb.2.2
  refine⟨?_,?_,?_⟩
  .exact((((hb.2.1.mul U).add ((I.2.1.mul d4).neg.mono oA)).neg.mul (O.mul J)).mono oA)
  .exact((((hb.1.1.mul O).add ((I.1.1.mul J).neg.mono oA)).mul (U.mul d4)).mono oA)
  .exact(((hb.2.1.mul I.1.1).mul (J.mul U)).add ((((hb.1.1.mul I.2.1).mul (O.mul d4)).neg).mono oA)).mono oA
 .have:∀q:Rat,(q.den:Rat)≠0:=fun q h=>q.den_nz (by exact_mod_cast h)
  have h1:=this a.1;have h2:=this a.2;have h3:=this b.1;have h4:=this b.2
  intro h
  rcases rH.1 h with h|h<;>rcases rH.1 h with h|h<;>contradiction
 .simp only[rU,sF,Rat.intCast_neg,sL,zLA]
  unfold crs
  grind
theorem zRm{c:V2}(O:zFo a b)(ha:zFo c d):QB (qA a b c d).1 327/\QB (qA a b c d).2 327:=by
 unfold qA
 split
 .exact⟨QB.zero dA,QB.zero dA⟩
 .rename_i hd
  obtain⟨l,hl,s,hs,he⟩:=zSB O lr
  obtain⟨l',U,s',h5,I⟩:=zSB ha lr
  have h4:a≠b:=fun e=>hd (by subst e;unfold dnm;grind)
  have h6:crs a b (seg a b (tnm a c d/dnm a b c d))=0:=by unfold crs seg;grind
  have h7:crs c d (seg a b (tnm a c d/dnm a b c d))=0:=by
   have e1:crs c d (seg a b (tnm a c d/dnm a b c d))=tnm a c d-tnm a c d/dnm a b c d*dnm a b c d:=by
    generalize tnm a c d/dnm a b c d=t
    unfold crs seg tnm dnm
    grind
   rw[e1,rJ hd]
   grind
  have J:∀q:V2,crs a b q=0->crs c d q≠0->PB (seg a b (tnm a c d/dnm a b c d)) 327:=fun q h1 h2=>
   zRK (l:=l) (l':=l') (q:=q) (m:=163) dA hl U (by unfold Ln.on;rw[he,h6];grind) (by unfold Ln.on;rw[he,h1];grind) (by unfold Ln.on;rw[I,h7];grind) (fun h=>by
    unfold Ln.on at h
    rw[I]at h
    rcases rH.1 h with h|h
    .exact h5 h
    .exact h2 h) (zXa h4 l s hs he)
  by_cases h8:crs c d a=0
  .exact J b (by unfold crs;grind) fun h9=>hd (by unfold crs at h8 h9;unfold dnm;grind)
  .exact J a (by unfold crs;grind) h8
theorem zSW{c:V2}(J:zFo a b)(I:zFo c d):QB (dnm a b c d) 329:=((J.sub.1.mul I.sub.2).sub (J.sub.2.mul I.sub.1)).mono dA
theorem zR7{c:V2}(I:zFo a c)(J:zFo c d):QB (tnm a c d) 329:=((I.sub.1.mul J.sub.2).sub (I.sub.2.mul J.sub.1)).mono dA
def zBR(a b c d:V2):Int:=if(((pns (yR a b c d 4)).length:Int)≥2)then 2 else if(((pns (yR a b c d 4)).length:Int)==1)=true then 1 else if((!(decide (dnm a b c d=0))&&onS a b (qA a b c d))&&onS c d (qA a b c d))=true then 1 else 0
section
variable {S:Nat->Prop}{w0 w1:WB}{K K0:List (Nat×KF)}{n n0:Nat}{ds0:List Deferred}{a a0:Act}{w:WB}
theorem yT.thaw:∀(B:List Bx),yT S w0 a0 w1 B->yT noS w1 a w (frz B)->yT S w0 a w B
 | [],_,_=>trivial
 |x::B,⟨⟨_,_,h2,_,_,_,h6⟩,h7⟩,⟨⟨cs,g1,_,g3,g4,g5,_⟩,g7⟩=>⟨⟨cs,g1,h2,g3,g4,g5,h6⟩,yT.thaw B h7 g7⟩
theorem StS.thaw{B:List Bx}(h0:StS S w0 K0 B n0 ds0 a0 w1)(h:St w1 K (frz B) n [] a w)(J:(K.all fun q=>zJP q.2)=true):StS S w0 K B n [] a w:=
 ⟨h0.gr.trans h.below,h.size,h.nd,fun q I=>by
  have O:=h.sl q I
  obtain⟨f,e⟩:=y6 J q I
  rw[e]at O ⊢
  exact O,yT.thaw B h0.bx h.bx,⟨[],Marks.nil _ _⟩,.inl (y6 J)⟩
end
def fMT(k:Int):UF:=⟨⟨fun v _=>∃vs:List WE,v=.agg (Value.int .i8 k::vs).toArray/\vs.length=12/\(∀u,u∈vs->u.oneCell'=true)/\vs.all zY=true,fun _ _ _ h _=>h⟩,fun _ _ _ h _=>h⟩
theorem zLF(k:Int)(cs:List WE)(W:WB)(h:(CU.agg (fMT k)).p cs W):cs.length=13:=by
 obtain⟨vs,e,I,_⟩:=h
 obtain rfl:cs=Value.int .i8 k::vs:=by simpa using jX e
 simp[I]
theorem zEs(k:Int)(v:WE)(W:WB)(h:(fMT k).p v W):∃vs:List WE,v=.agg vs.toArray/\vs.length=13/\(∀u,u∈vs->u.oneCell'=true)/\vs.all zY=true/\(CU.agg (fMT k)).p vs W:=by
 obtain⟨vs,rfl,J,h2,h3⟩:=h
 exact⟨_,rfl,by simp[J],fun u I=>by rcases xS.1 I with rfl|I;rfl;exact h2 u I,by simpa[zY]using h3,vs,rfl,J,h2,h3⟩
theorem zH1(k:Int)(cs:List WE)(W:WB)(h:(CU.agg (fMT k)).p cs W):∃u,cs[0]?=some u/\(UF.eq (.int .i8 k)).p u W:=by
 obtain⟨vs,e,_⟩:=h
 obtain rfl:cs=Value.int .i8 k::vs:=by simpa using jX e
 exact⟨_,rfl,rfl⟩
theorem zZy(k:Int)(a1 a2 I O a5 a6 J b2 b3 b4 U b6:WE):prog.built 86 [(0,.int .i8 k),(1,.agg #[a1,a2,I,O,a5,a6]),(2,.agg #[J,b2,b3,b4,U,b6])]=some #[.int .i8 k,a1,a2,I,O,a5,a6,J,b2,b3,b4,U,b6]:=fJ
theorem zZz(a1 a2 I O a5 a6 J b2 b3 b4 U b6:WE):prog.built 86 [(1,.agg #[a1,a2,I,O,a5,a6]),(2,.agg #[J,b2,b3,b4,U,b6])]=some #[.int .i8 0,a1,a2,I,O,a5,a6,J,b2,b3,b4,U,b6]:=fJ
theorem zFx{g:UF}(h:(fPT f g).p v W):∃u0 u1 u2 u3 u4 u5,v=.agg #[u0,u1,u2,u3,u4,u5]/\(∀u,u∈ [u0,u1,u2,u3,u4,u5]->u.oneCell'=true)/\ [u0,u1,u2,u3,u4,u5].all zY=true:=by
 obtain⟨vs,rfl,I,J,h2,_⟩:=yY v W h
 obtain⟨u0,u1,u2,u3,u4,u5,rfl⟩:=zOG I
 exact⟨u0,u1,u2,u3,u4,u5,rfl,J,h2⟩
theorem zU2{g:UF}{k:Int}(I:(fPT f g).p u W)(hv:(fPT f' g').p v W):∃cells,prog.built 86 [(0,.int .i8 k),(1,u),(2,v)]=some cells/\(fMT k).p (.agg cells) W:=by
 obtain⟨a1,a2,J,a4,a5,a6,rfl,h1,h2⟩:=zFx I
 obtain⟨O,b2,b3,b4,b5,b6,rfl,h3,U⟩:=zFx hv
 exact⟨_,zZy .., [a1,a2,J,a4,a5,a6]++ [O,b2,b3,b4,b5,b6],rfl,rfl,fun u I=>by rcases vW.1 I with h|h;exact h1 u h;exact h3 u h,by rw[lZ,h2,U];rfl⟩
theorem zYS{g:UF}(I:(fPT f g).p u W)(hv:(fPT f' g').p v W):∃cells,prog.built 86 [(1,u),(2,v)]=some cells/\(fMT 0).p (.agg cells) W:=by
 obtain⟨a1,a2,J,a4,a5,a6,rfl,h1,h2⟩:=zFx I
 obtain⟨O,b2,b3,b4,b5,b6,rfl,h3,U⟩:=zFx hv
 exact⟨_,zZz .., [a1,a2,J,a4,a5,a6]++ [O,b2,b3,b4,b5,b6],rfl,rfl,fun u I=>by rcases vW.1 I with h|h;exact h1 u h;exact h3 u h,by rw[lZ,h2,U];rfl⟩
theorem zNW{x y:WE}(h1:(fPV 80 ca).p u W)(h2:(fPV 80 cb).p v W)(h3:(fPV 80 cc).p x W)(h4:(fPV 80 cd).p y W):Calls prog 87 #[u,v,x,y] W (Ret W (SF.row 6 (pns (yR ca cb cc cd 4)))):=by
 have hl:∀p,p∈ [ca,cb,cc,cd]->QB p.1 80/\QB p.2 80:=fun p hp=>by
  simp only[xS,rL,rK]at hp
  rcases hp with rfl|rfl|rfl|rfl
  .exact zC6 dA h1
  .exact zC6 dA h2
  .exact zC6 dA h3
  .exact zC6 dA h4
 refine zZ [(fPV 80 ca).tS,(fPV 80 cb).tS,(fPV 80 cc).tS,(fPV 80 cd).tS] func87 rfl kA ⟨h1,h2,h3,h4,trivial⟩ fun a s=>?_
 replace s:=s.renew [(0,.u (fPV 80 ca)),(1,.u (fPV 80 cb)),(2,.u (fPV 80 cc)),(3,.u (fPV 80 cd))] (fU (.inr ⟨_,rfl,.head _⟩)<|fU (.inr ⟨_,rfl,mz1⟩)<|fU (.inr ⟨_,rfl,mz2⟩)<|fU (.inr ⟨_,rfl,mz3⟩) fnz)
 refine lP<|rgK 0 [] s
  zB fun a w1 s=>yL (CU.agg (fPV 80 ca)) rfl s kA (fun v W h=>yV h) fun b4 a w s=>yL (CU.agg (fPV 80 cb)) rfl s kA (fun v W h=>yV h) fun b5 a w s=>yL (CU.agg (fPV 80 cc)) rfl s kA (fun v W h=>yV h) fun b6 a w s=>yL (CU.agg (fPV 80 cd)) rfl s kA (fun v W h=>yV h) fun b7 a w s=>yQ (UF.eq (sN)) rfl s kA iiz fun a w s=>zD rfl<|rgQ ((9,.u (UF.eq (sN)))::[]) s
  (oc zF<|zB) fun a w2 s=>lP<|rgL 5 ((12,.Z (fPV 80 ca))::(13,.Z (fPV 80 cb))::(14,.Z (fPV 80 cc))::(15,.Z (fPV 80 cd))::(16,.s (SF.row 6 (pvs 80 [ca,cb,cc,cd])))::[]) s
  (oc (zK 80 ca)<|oc (zK 80 cb)<|oc (zK 80 cc)<|oc (zK 80 cd)<|oc (zOj (fun u v r s W (hu:(fPV 80 ca).p u W) (hv:(fPV 80 cb).p v W) (hr:(fPV 80 cc).p r W) (hs:(fPV 80 cd).p s W)=>zVE hu hv hr hs))<|zB) fun a w3 s hr=>?_
 obtain⟨v16,e16⟩:∃v,a.tmps.getD 16 undef=v:=⟨_,rfl⟩
 have he:(SF.row 6 (pvs 80 [ca,cb,cc,cd])).p v16 w3:=e16▸(hr (_,_) mz4)
 replace s:=s.learn 16 v16 e16
 have ha:=s.below
 replace s:StS _ _ _ [⟨7,30,CU.agg (fPV 80 cd),b7,true⟩,⟨6,30,CU.agg (fPV 80 cc),b6,true⟩,⟨5,30,CU.agg (fPV 80 cb),b5,true⟩,⟨4,30,CU.agg (fPV 80 ca),b4,true⟩] _ _ _ _:=s.freeze
 replace s:=s.reb rfl [(16,.u (UF.eq v16)),(9,.u (UF.eq (sN))),(8,.u (UF.eq (sN))),(0,.u (fPV 80 ca)),(1,.u (fPV 80 cb)),(2,.u (fPV 80 cc)),(3,.u (fPV 80 cd))] (fU (.inl (.head _))<|fU (.inl mz1)<|fU (.inl mz2)<|fU (.inl mz3)<|fU (.inl mz4)<|fU (.inl mz5)<|fU (.inl mz6) fnz)
 refine yQ (UF.eq v16) rfl s kA iiz fun a w s=>zD rfl<|lP<|rgQ ((11,.u (uI 0))::[]) s
  (oc zF<|zB) fun a w4 s=>tT ?_
 have hj:(SF.row 6 (pns (yR ca cb cc cd 0))).p (sN) w4:=zVJ 6 _
 refine zHv (fun(p:Nat×WE) w=>p.1<=4/\(SF.row 6 (pns (yR ca cb cc cd p.1))).p p.2 w) (fun p=> [(10,.u (UF.eq v16)),(9,.u (UF.eq p.2)),(11,.u (uI (p.1:Int)))]) (fun p=>4-p.1) (0, sN) (⟨vS _,hj⟩) (s.keepK _ (fU mz1<|fU mz3<|fU (.head _) fnz)) fun p a w hI s=>?_
 have s0:=s
 have I:=(SF.row 6 (pvs 80 [ca,cb,cc,cd])).st _ _ _ he s0.below
 replace s:=s.reb rfl [(10,.u (UF.eq v16)),(9,.u (UF.eq p.2)),(11,.u (uI (p.1:Int)))] (fU (.inl (.head _))<|fU (.inl mz1)<|fU (.inl mz2) fnz)
 refine lP<|rgQ ((17,.Z (uI (p.1:Int)))::(18,.u (uB (decide ((p.1:Int)<4))))::[]) s
  (oc zA<|oc (zI .i64 (p.1:Int) 4 (decide ((p.1:Int)<4)) iiz iiz rfl rfl)<|zB) fun a w5 s=>StS.cond s (decide ((p.1:Int)<4)) iiz (fun e=>?_) (fun e=>?_)
 .have O:p.1<4:=by have:=xX e;omega
  have hk:p.1<([ca,cb,cc,cd]:List V2).length:=O
  refine pT<|lP<|tT<|rgQ ((21,.Z (fPV 80 ca))::(22,.Z (fPV 80 cb))::(23,.Z (UF.eq v16))::(24,.Z (uI (p.1:Int)))::(25,.Y (fPV 80 (at_ [ca,cb,cc,cd] p.1)))::(26,.Z (fPV 80 (at_ [ca,cb,cc,cd] p.1)))::(27,.Z (uB (onS ca cb (at_ [ca,cb,cc,cd] p.1))))::(28,.Z (uB (onS ca cb (at_ [ca,cb,cc,cd] p.1))))::(29,.s (SF.imp ((onS ca cb (at_ [ca,cb,cc,cd] p.1))=true) ((fPV 80 cc).tS)))::(30,.s (SF.imp ((onS ca cb (at_ [ca,cb,cc,cd] p.1))=true) ((fPV 80 cd).tS)))::(31,.s (SF.imp ((onS ca cb (at_ [ca,cb,cc,cd] p.1))=true) ((UF.eq v16).tS)))::(32,.s (SF.imp ((onS ca cb (at_ [ca,cb,cc,cd] p.1))=true) ((uI (p.1:Int)).tS)))::(33,.s (SF.imp ((onS ca cb (at_ [ca,cb,cc,cd] p.1))=true) (wC (cg (fPV 80 (at_ [ca,cb,cc,cd] p.1))))))::(34,.s (SF.imp ((onS ca cb (at_ [ca,cb,cc,cd] p.1))=true) ((fPV 80 (at_ [ca,cb,cc,cd] p.1)).tS)))::(35,.s (SF.imp ((onS ca cb (at_ [ca,cb,cc,cd] p.1))=true) ((uB (onS cc cd (at_ [ca,cb,cc,cd] p.1))).tS)))::(36,.u (uB ((onS ca cb (at_ [ca,cb,cc,cd] p.1))&&(onS cc cd (at_ [ca,cb,cc,cd] p.1)))))::[]) s
   (oc (zK 80 ca)<|oc (zK 80 cb)<|oc zA<|oc zA<|oc (zO (z:=6) (Cs:=pvs 80 ([ca,cb,cc,cd])) (i:=p.1) (C:=CU.agg (fPV 80 (at_ [ca,cb,cc,cd] p.1))) kA (qJ hk) (yM I s) iiz)<|oc (zK 80 (at_ [ca,cb,cc,cd] p.1))<|oc (jG zC zRz (fun u0 u1 u2 W hb (U:(fPV 80 ca).p u0 W) (h1:(fPV 80 cb).p u1 W) (h2:(fPV 80 (at_ [ca,cb,cc,cd] p.1)).p u2 W)=>zHM (m:=80) (M:=80) U h1 h2 dA dA dA dA))<|oc zA<|oc (zE 28 (onS ca cb (at_ [ca,cb,cc,cd] p.1)) kA iiz (fun e=>z5 [] ((fPV 80 cc).tS) fnz fO kA (zK 80 cc)) fN)<|oc (zE 28 (onS ca cb (at_ [ca,cb,cc,cd] p.1)) kA iiz (fun e=>z5 [] ((fPV 80 cd).tS) fnz fO kA (zK 80 cd)) fN)<|oc (zE 28 (onS ca cb (at_ [ca,cb,cc,cd] p.1)) kA iiz (fun e=>z5 [] ((UF.eq v16).tS) fnz fO kA zA) fN)<|oc (zE 28 (onS ca cb (at_ [ca,cb,cc,cd] p.1)) kA iiz (fun e=>z5 [] ((uI (p.1:Int)).tS) fnz fO kA zA) fN)<|oc (zE 28 (onS ca cb (at_ [ca,cb,cc,cd] p.1)) kA iiz (fun e=>z5 [(31,(UF.eq v16).tS),(32,(uI (p.1:Int)).tS)] (wC (cg (fPV 80 (at_ [ca,cb,cc,cd] p.1)))) (fU (fun v W h=>zN (c:=(onS ca cb (at_ [ca,cb,cc,cd] p.1))=true) (f:=(UF.eq v16).tS) e h)<|fU (fun v W h=>zN (c:=(onS ca cb (at_ [ca,cb,cc,cd] p.1))=true) (f:=(uI (p.1:Int)).tS) e h) fnz) fO kA (zO (z:=6) (Cs:=pvs 80 ([ca,cb,cc,cd])) (i:=p.1) (C:=CU.agg (fPV 80 (at_ [ca,cb,cc,cd] p.1))) kA (qJ hk) (yM I s) iiz)) fN)<|oc (zE 28 (onS ca cb (at_ [ca,cb,cc,cd] p.1)) kA iiz (fun e=>z5 [(33,wC (cg (fPV 80 (at_ [ca,cb,cc,cd] p.1))))] ((fPV 80 (at_ [ca,cb,cc,cd] p.1)).tS) (fU (fun v W h=>zN (c:=(onS ca cb (at_ [ca,cb,cc,cd] p.1))=true) (f:=wC (cg (fPV 80 (at_ [ca,cb,cc,cd] p.1)))) e h) fnz) fO kA (zK 80 (at_ [ca,cb,cc,cd] p.1))) fN)<|oc (zE 28 (onS ca cb (at_ [ca,cb,cc,cd] p.1)) kA iiz (fun e=>z5 [(29,(fPV 80 cc).tS),(30,(fPV 80 cd).tS),(34,(fPV 80 (at_ [ca,cb,cc,cd] p.1)).tS)] ((uB (onS cc cd (at_ [ca,cb,cc,cd] p.1))).tS) (fU (fun v W h=>zN (c:=(onS ca cb (at_ [ca,cb,cc,cd] p.1))=true) (f:=(fPV 80 cc).tS) e h)<|fU (fun v W h=>zN (c:=(onS ca cb (at_ [ca,cb,cc,cd] p.1))=true) (f:=(fPV 80 cd).tS) e h)<|fU (fun v W h=>zN (c:=(onS ca cb (at_ [ca,cb,cc,cd] p.1))=true) (f:=(fPV 80 (at_ [ca,cb,cc,cd] p.1)).tS) e h) fnz) fO kA (jG zC zRz (fun u0 u1 u2 W hb (U:(fPV 80 cc).p u0 W) (h1:(fPV 80 cd).p u1 W) (h2:(fPV 80 (at_ [ca,cb,cc,cd] p.1)).p u2 W)=>zHM (m:=80) (M:=80) U h1 h2 dA dA dA dA))) fN)<|oc (yC (onS ca cb (at_ [ca,cb,cc,cd] p.1)) iiz (fun e v W h=>zA0 (zN e h) e) (fun e v W h=>zAe h e))<|zB) fun a w6 s=>StS.cond s ((onS ca cb (at_ [ca,cb,cc,cd] p.1))&&(onS cc cd (at_ [ca,cb,cc,cd] p.1))) iiz (fun e=>?_) (fun e=>?_)
  .refine zDW 6 ((37,.Z (UF.eq p.2))::(38,.Z (UF.eq v16))::(39,.Z (uI (p.1:Int)))::(40,.Y (fPV 80 (at_ [ca,cb,cc,cd] p.1)))::(41,.Z (fPV 80 (at_ [ca,cb,cc,cd] p.1)))::(42,.s (SF.row 6 (pns (zF7 (yR ca cb cc cd p.1) (at_ [ca,cb,cc,cd] p.1)))))::[]) s kA
    (oc zA<|oc zA<|oc zA<|oc (zO (z:=6) (Cs:=pvs 80 ([ca,cb,cc,cd])) (i:=p.1) (C:=CU.agg (fPV 80 (at_ [ca,cb,cc,cd] p.1))) kA (qJ hk) (yM I s) iiz)<|oc (zK 80 (at_ [ca,cb,cc,cd] p.1))<|oc (zH zC zW5 (fun u0 u1 W hb (U:u0=p.2) (h1:(fPV 80 (at_ [ca,cb,cc,cd] p.1)).p u1 W)=>zQR (m:=80) (L:=yR ca cb cc cd p.1) (p:=(at_ [ca,cb,cc,cd] p.1)) (zCw hI.2 U (s.up hb)) h1 (zLP hl p.1 oA) dA dA (by have:=zGt ca cb cc cd p.1;omega)))<|zB) fun a w7 s hr=>?_
   obtain⟨v42,e42⟩:∃v,a.tmps.getD 42 undef=v:=⟨_,rfl⟩
   have h5:(SF.row 6 (pns (zF7 (yR ca cb cc cd p.1) (at_ [ca,cb,cc,cd] p.1)))).p v42 w7:=e42▸(hr (_,_) mz5)
   replace s:=s.learn 42 v42 e42
   replace s:=s.keepK [(42,.u (UF.eq v42)),(36,.u (uB ((onS ca cb (at_ [ca,cb,cc,cd] p.1))&&(onS cc cd (at_ [ca,cb,cc,cd] p.1))))),(18,.u (uB (decide ((p.1:Int)<4)))),(10,.u (UF.eq v16)),(9,.u (UF.eq p.2)),(11,.u (uI (p.1:Int)))] (fU (.head _)<|fU mz1<|fU mz2<|fU mz3<|fU mz4<|fU mz5 fnz)
   have s1:=s0.back s rfl
   replace s:StS _ _ _ [⟨7,30,CU.agg (fPV 80 cd),b7,true⟩,⟨6,30,CU.agg (fPV 80 cc),b6,true⟩,⟨5,30,CU.agg (fPV 80 cb),b5,true⟩,⟨4,30,CU.agg (fPV 80 ca),b4,true⟩] _ _ _ _:=s.freeze
   replace s:=s.reb rfl [(42,.u (UF.eq v42)),(36,.u (uB ((onS ca cb (at_ [ca,cb,cc,cd] p.1))&&(onS cc cd (at_ [ca,cb,cc,cd] p.1))))),(18,.u (uB (decide ((p.1:Int)<4)))),(10,.u (UF.eq v16)),(9,.u (UF.eq p.2)),(11,.u (uI (p.1:Int)))] (fU (.inl (.head _))<|fU (.inl mz1)<|fU (.inl mz2)<|fU (.inl mz3)<|fU (.inl mz4)<|fU (.inl mz5) fnz)
   replace s:=s.drop [9]
   refine yQ (UF.eq v42) rfl s kA iiz fun a w s=>zD rfl<|zV 2 ((19,.Z (uI (p.1:Int)))::(20,.u (uI ((p.1+1:Nat):Int)))::[]) s kA
    (oc zA<|oc (yB .i64 (p.1:Int) 1 ((p.1+1:Nat):Int) iiz iiz (wrap64 _ _ oA oA))<|zB) fun a w8 s=>?_
   replace s:=s.drop [11]
   refine yQ (uI ((p.1+1:Nat):Int)) rfl s kA iiz fun a w s=>zD rfl ?_
   have J:=s.below
   replace s:=s1.back (s.keepK [(11,.u (uI ((p.1+1:Nat):Int))),(20,.u (uI ((p.1+1:Nat):Int))),(9,.u (UF.eq v42)),(42,.u (UF.eq v42)),(36,.u (uB ((onS ca cb (at_ [ca,cb,cc,cd] p.1))&&(onS cc cd (at_ [ca,cb,cc,cd] p.1))))),(18,.u (uB (decide ((p.1:Int)<4)))),(10,.u (UF.eq v16))] (fU (.head _)<|fU mz1<|fU mz2<|fU mz3<|fU mz4<|fU mz5<|fU mz6 fnz)) rfl
   exact⟨(p.1+1,v42),(by show 4-(p.1+1)<4-p.1;omega),⟨O,by show(SF.row 6 (pns (yR ca cb cc cd (p.1+1)))).p v42 _;rw[zKr e];exact(SF.row 6 _).st _ _ _ h5 J⟩,s.keepK _ (fU mz6<|fU mz2<|fU (.head _) fnz)⟩
  .refine pT ?_
   refine zV 2 ((19,.Z (uI (p.1:Int)))::(20,.u (uI ((p.1+1:Nat):Int)))::[]) s kA
    (oc zA<|oc (yB .i64 (p.1:Int) 1 ((p.1+1:Nat):Int) iiz iiz (wrap64 _ _ oA oA))<|zB) fun a w9 s=>?_
   replace s:=s.drop [11]
   refine yQ (uI ((p.1+1:Nat):Int)) rfl s kA iiz fun a w s=>zD rfl ?_
   have J:=s.below
   replace s:=s0.back (s.keepK [(11,.u (uI ((p.1+1:Nat):Int))),(20,.u (uI ((p.1+1:Nat):Int))),(36,.u (uB ((onS ca cb (at_ [ca,cb,cc,cd] p.1))&&(onS cc cd (at_ [ca,cb,cc,cd] p.1))))),(18,.u (uB (decide ((p.1:Int)<4)))),(10,.u (UF.eq v16)),(9,.u (UF.eq p.2))] (fU (.head _)<|fU mz1<|fU mz2<|fU mz3<|fU mz4<|fU mz5 fnz)) rfl
   exact⟨(p.1+1,p.2),(by show 4-(p.1+1)<4-p.1;omega),⟨O,by show(SF.row 6 (pns (yR ca cb cc cd (p.1+1)))).p p.2 _;rw[zO8 e];exact(SF.row 6 _).st _ _ _ hI.2 J⟩,s.keepK _ (fU mz4<|fU mz5<|fU (.head _) fnz)⟩
 .have hk:p.1=4:=by have h7:=nF e;have h8:=hI.1;omega
  exact tU<|rgQ ((43,.Z (UF.eq p.2))::(8,.u (UF.eq p.2))::[]) s
   (oc zA<|oc zF<|zB) fun a w10 s=>pS<|StS.resN s (ha.trans (s0.below.mono ha.size)) rfl (by rw[s.val (.head _)];have:=(SF.row 6 _).st _ _ _ hI.2 s.below;rw[hk]at this;exact this)
theorem zMr{x y:WE}(h1:(fPV 80 ca).p u W)(h2:(fPV 80 cb).p v W)(h3:(fPV 80 cc).p x W)(h4:(fPV 80 cd).p y W)(J:zFo ca cb)(I:zFo cc cd)(h6:zFo ca cc):Calls prog 88 #[u,v,x,y] W (Ret W (zBH (fPV 327 (qA ca cb cc cd)) (fB (!(decide ((dnm ca cb cc cd)=0))))).tS):=by
 have h7:QB (qA ca cb cc cd).1 327/\QB (qA ca cb cc cd).2 327:=zRm J I
 have ha:QB ((tnm ca cc cd)/(dnm ca cb cc cd)) 658:=((zR7 h6 I).div (zSW J I)).mono dA
 refine zZ [(fPV 80 ca).tS,(fPV 80 cb).tS,(fPV 80 cc).tS,(fPV 80 cd).tS] func88 rfl kA ⟨h1,h2,h3,h4,trivial⟩ fun a s=>lP<|rgK 0 [] s
  zB fun a w1 s=>yL (CU.agg (fPV 80 ca)) rfl s kA (fun v W h=>yV h) fun b4 a w s=>yL (CU.agg (fPV 80 cb)) rfl s kA (fun v W h=>yV h) fun b5 a w s=>yL (CU.agg (fPV 80 cc)) rfl s kA (fun v W h=>yV h) fun b6 a w s=>yL (CU.agg (fPV 80 cd)) rfl s kA (fun v W h=>yV h) fun b7 a w s=>zX (CU.len 6) (cs:=zP6) kA rfl s kA (fun W=>rfl) rfl fun b8 a w s=>yQ (uB false) rfl s kA iiz fun a w s=>zD rfl<|lP ?_
 have so:=s.old;have sg:=s.gr
 refine zBs [] [⟨6,10,30, [.bool false, sN, sN,.bool false, sN, sN],wJ w 30 (CU.len 6)⟩,⟨7,11,30, [.bool false, sN, sN,.bool false, sN, sN],wJ w 30 (CU.len 6)⟩] 8 ((15,.Z (fPV 80 cb))::(16,.Z (fPV 80 ca))::(17,.u (fPN ((cb).1-(ca).1,(cb).2-(ca).2)))::(18,.Z (fPV 80 cd))::(19,.Z (fPV 80 cc))::(20,.u (fPN ((cd).1-(cc).1,(cd).2-(cc).2)))::(10,.s (wJ w 30 (CU.len 6)))::(11,.s (wJ w 30 (CU.len 6)))::[]) hmix s (fU ⟨by show 6<8;decide,mz6,⟨_,_,_,rfl⟩,fJ,zAK (fun _=>rfl) rfl⟩<|fU ⟨by show 7<8;decide,mz7,⟨_,_,_,rfl⟩,fJ,zAK (fun _=>rfl) rfl⟩ fnz) kA
  (oc (zK 80 cb)<|oc (zK 80 ca)<|oc (zH zC zFl (fun O U W hb (h0:(fPV 80 cb).p O W) (h1:(fPV 80 ca).p U W)=>zBL (m:=80) (p:=cb) (q:=ca) h0 h1 dA dA))<|oc (zK 80 cd)<|oc (zK 80 cc)<|oc (zH zC zFl (fun O U W hb (h0:(fPV 80 cd).p O W) (h1:(fPV 80 cc).p U W)=>zBL (m:=80) (p:=cd) (q:=cc) h0 h1 dA dA))<|oc (zBY (cs:=zP6) kA (zAK (fun _=>rfl) rfl))<|oc (zBY (cs:=zP6) kA (zAK (fun _=>rfl) rfl))<|zB) fun Q' hQ a w2 s hr hd=>?_
 obtain⟨b10,hB10,hf,s⟩:=s.adoptA false 10 (hr (_,_) mz6) sg (fun y hy=>.inl (so y hy))
 obtain⟨b11,hB11,e11,s⟩:=s.adoptA false 11 (hr (_,_) mz7) sg (fun y hy=>by rcases xS.1 hy with rfl|hy;exact .inr (.inr fun b hb=>hd _ _ (.head _) mz1 (by show 6≠7;decide) _ _ hf hb);exact .inl (so y hy))
 refine zM (fPN ((cb).1-(ca).1,(cb).2-(ca).2)) rfl s yY fun a w s=>zM (fPN ((cd).1-(cc).1,(cd).2-(cc).2)) rfl s yY fun a w s=>zD rfl (hQ _ _ ?_)
 refine lP<|rgK 3 ((21,.Z (fPN ((cb).1-(ca).1,(cb).2-(ca).2)))::(22,.Z (fPN ((cd).1-(cc).1,(cd).2-(cc).2)))::(23,.u (fQN (dnm ca cb cc cd)))::[]) s
  (oc (zT (f:=fPN ((cb).1-(ca).1,(cb).2-(ca).2)) 6 kA (hz:=y9 _ _))<|oc (zT (f:=fPN ((cd).1-(cc).1,(cd).2-(cc).2)) 6 kA (hz:=y9 _ _))<|oc (zH zC zMF (fun O U W hb (h0:(fPN ((cb).1-(ca).1,(cb).2-(ca).2)).p O W) (h1:(fPN ((cd).1-(cc).1,(cd).2-(cc).2)).p U W)=>zC3 (m:=82) (p:=((cb).1-(ca).1,(cb).2-(ca).2)) (q:=((cd).1-(cc).1,(cd).2-(cc).2)) (zBu (p:=((cb).1-(ca).1,(cb).2-(ca).2)) (m:=82) (J.sub.1.mono fP) (J.sub.2.mono fP) h0) (zBu (p:=((cd).1-(cc).1,(cd).2-(cc).2)) (m:=82) (I.sub.1.mono fP) (I.sub.2.mono fP) h1) J.sub I.sub dA dA))<|zB) fun a w3 s=>zX (CU.len 3) (cs:=zR3) kA rfl s kA (fun W=>rfl) rfl fun b12 a w s=>zM (fQN (dnm ca cb cc cd)) rfl s zW fun a w s=>zD rfl<|lP ?_
 have so:=s.old;have sg:=s.gr
 refine zBs [9] [⟨10,13,28, [.bool false, sN, sN],wJ w 28 (CU.len 3)⟩] 11 ((25,.Z (fPV 80 cc))::(26,.Z (fPV 80 ca))::(27,.Z (fPN ((cc).1-(ca).1,(cc).2-(ca).2)))::(28,.Z (fPN ((cd).1-(cc).1,(cd).2-(cc).2)))::(29,.Z (fQN (tnm ca cc cd)))::(30,.Z (fQN (dnm ca cb cc cd)))::(31,.Z (zBH (fQN ((tnm ca cc cd)/(dnm ca cb cc cd))) (uI (if(dnm ca cb cc cd)=0 then 30 else 0))))::(24,.Z (zBH (fQN ((tnm ca cc cd)/(dnm ca cb cc cd))) (uI (if(dnm ca cb cc cd)=0 then 30 else 0))))::(32,.u (fQN ((tnm ca cc cd)/(dnm ca cb cc cd))))::(33,.u (uI (if(dnm ca cb cc cd)=0 then 30 else 0)))::(13,.s (wJ w 28 (CU.len 3)))::[]) hmix s (fU ⟨by show 10<11;decide,zKe,⟨_,_,_,rfl⟩,fJ,zAK (fun _=>rfl) rfl⟩ fnz) kA
  (oc (zK 80 cc)<|oc (zK 80 ca)<|oc (zH zC zFl (fun O U W hb (h0:(fPV 80 cc).p O W) (h1:(fPV 80 ca).p U W)=>zBL (m:=80) (p:=cc) (q:=ca) h0 h1 dA dA))<|oc (zT (f:=fPN ((cd).1-(cc).1,(cd).2-(cc).2)) 6 kA (hz:=y9 _ _))<|oc (zH zC zMF (fun O U W hb (h0:(fPN ((cc).1-(ca).1,(cc).2-(ca).2)).p O W) (h1:(fPN ((cd).1-(cc).1,(cd).2-(cc).2)).p U W)=>zC3 (m:=82) (p:=((cc).1-(ca).1,(cc).2-(ca).2)) (q:=((cd).1-(cc).1,(cd).2-(cc).2)) (zBu (p:=((cc).1-(ca).1,(cc).2-(ca).2)) (m:=82) (h6.sub.1.mono fP) (h6.sub.2.mono fP) h0) (zBu (p:=((cd).1-(cc).1,(cd).2-(cc).2)) (m:=82) (I.sub.1.mono fP) (I.sub.2.mono fP) h1) h6.sub I.sub dA dA))<|oc (zT (f:=fQN (dnm ca cb cc cd)) 3 kA (hz:=yW _))<|oc (zH zC zYH (fun O U W hb (h0:QNp (tnm ca cc cd) O W) (h1:QNp (dnm ca cb cc cd) U W)=>zTW (m:=329) (wH h0 (zR7 h6 I)) (wH h1 (zSW J I)) dA dA))<|oc zA<|oc (zBX (A:=(fQN ((tnm ca cc cd)/(dnm ca cb cc cd))).tS) (B:=(uI (if(dnm ca cb cc cd)=0 then 30 else 0)).tS) iiz)<|oc (zBW (A:=(fQN ((tnm ca cc cd)/(dnm ca cb cc cd))).tS) (B:=(uI (if(dnm ca cb cc cd)=0 then 30 else 0)).tS) iiz)<|oc (zBY (cs:=zR3) kA (zAK (fun _=>rfl) rfl))<|zB) fun Q' hQ a w4 s hr hd=>?_
 obtain⟨b13,hB13,e13,s⟩:=s.adoptA false 13 (hr (_,_) zKe) sg (fun y hy=>.inl (so y hy))
 refine zM (fQN ((tnm ca cc cd)/(dnm ca cb cc cd))) rfl s zW fun a w s=>yQ (uI (if(dnm ca cb cc cd)=0 then 30 else 0)) rfl s kA iiz fun a w s=>zD rfl (hQ _ _ ?_)
 refine lP<|rgQ ((34,.Z (uI (if(dnm ca cb cc cd)=0 then 30 else 0)))::(35,.u (uB (decide ((dnm ca cb cc cd)=0))))::[]) s
  (oc zA<|oc (zI .i64 (if(dnm ca cb cc cd)=0 then 30 else 0) 0 (decide ((dnm ca cb cc cd)=0)) iiz iiz (by show((if(dnm ca cb cc cd)=0 then(30:Int)else 0) !=0)=_;by_cases h:(dnm ca cb cc cd)=0;(rw[if_pos h,lH h];rfl);(rw[if_neg h,xZ h];rfl)) rfl)<|zB) fun a w5 s=>StS.cond s (decide ((dnm ca cb cc cd)=0)) iiz (fun e=>?_) (fun e=>?_)
 .have h8:=xX e
  refine lP ?_
  replace s:=s.drop [9]
  exact rgK 1 ((36,.u (fPV 327 (qA ca cb cc cd)))::[]) s
   (oc (zH zC zO9 (fun O U W hb (h0:O=.int .i64 0) (h1:U=.int .i64 0)=>(zI0 h0 h1 dA dA).mono (wG (fun v W h=>zBu (p:=(qA ca cb cc cd)) (m:=327) h7.1 h7.2 (by unfold qA;rw[if_pos h8];exact h)))))<|zB) fun a w6 s=>zM (fPV 327 (qA ca cb cc cd)) rfl s yY fun a w s=>yQ (uB false) rfl s kA iiz fun a w s=>zD rfl<|pS<|wW s (CU.agg (fPV 327 (qA ca cb cc cd))) rfl kA rfl rfl (y9 _ _) (fun cs v W h1 h2=>⟨_,_,rfl,h1,by rw[e];exact h2⟩)
 .have h8:=nF e
  refine pT<|lP ?_
  replace s:=s.drop [9]
  exact rgK 4 ((37,.Z (fPV 80 ca))::(38,.Z (fPV 80 cb))::(39,.Z (fQN ((tnm ca cc cd)/(dnm ca cb cc cd))))::(40,.u (fPV 327 (qA ca cb cc cd)))::[]) s
   (oc (zK 80 ca)<|oc (zK 80 cb)<|oc (zT (f:=fQN ((tnm ca cc cd)/(dnm ca cb cc cd))) 3 kA (hz:=yW _))<|oc (jG zC zW4 (fun O U u2 W hb (h0:(fPV 80 ca).p O W) (h1:(fPV 80 cb).p U W) (h2:QNp ((tnm ca cc cd)/(dnm ca cb cc cd)) u2 W)=>(zVT (m:=80) (k:=658) 821 (p:=ca) (q:=cb) (t:=(tnm ca cc cd)/(dnm ca cb cc cd)) h0 h1 (wH h2 ha) J.one J.two ha dA dA dA).mono (wG (fun v W h=>zBu (p:=(qA ca cb cc cd)) (m:=327) h7.1 h7.2 (by unfold qA;rw[if_neg h8];exact h)))))<|zB) fun a w7 s=>zM (fPV 327 (qA ca cb cc cd)) rfl s yY fun a w s=>yQ (uB true) rfl s kA iiz fun a w s=>zD rfl<|pS<|wW s (CU.agg (fPV 327 (qA ca cb cc cd))) rfl kA rfl rfl (y9 _ _) (fun cs v W h1 h2=>⟨_,_,rfl,h1,by rw[e];exact h2⟩)
theorem zNV{x y:WE}(h1:(fPV 80 ca).p u W)(h2:(fPV 80 cb).p v W)(h3:(fPV 80 cc).p x W)(h4:(fPV 80 cd).p y W)(he:zFo ca cb)(h9:zFo cc cd)(hf:zFo ca cc):Calls prog 61 #[u,v,x,y] W (Ret W (fMT (zBR ca cb cc cd)).tS):=by
 refine zZ [(fPV 80 ca).tS,(fPV 80 cb).tS,(fPV 80 cc).tS,(fPV 80 cd).tS] func61 rfl kA ⟨h1,h2,h3,h4,trivial⟩ fun a s=>?_
 replace s:=s.renew [(0,.u (fPV 80 ca)),(1,.u (fPV 80 cb)),(2,.u (fPV 80 cc)),(3,.u (fPV 80 cd))] (fU (.inr ⟨_,rfl,.head _⟩)<|fU (.inr ⟨_,rfl,mz1⟩)<|fU (.inr ⟨_,rfl,mz2⟩)<|fU (.inr ⟨_,rfl,mz3⟩) fnz)
 refine lP<|rgK 0 [] s
  zB fun a w1 s=>yL (CU.agg (fPV 80 ca)) rfl s kA (fun v W h=>yV h) fun b4 a w s=>yL (CU.agg (fPV 80 cb)) rfl s kA (fun v W h=>yV h) fun b5 a w s=>yL (CU.agg (fPV 80 cc)) rfl s kA (fun v W h=>yV h) fun b6 a w s=>yL (CU.agg (fPV 80 cd)) rfl s kA (fun v W h=>yV h) fun b7 a w s=>zX (CU.len 13) (cs:=[.int .i8 0,.bool false, sN, sN,.bool false, sN, sN,.bool false, sN, sN,.bool false, sN, sN]) kA rfl s kA (fun W=>rfl) rfl fun b8 a w s=>zD rfl<|lP<|rgL 5 ((12,.Z (fPV 80 ca))::(13,.Z (fPV 80 cb))::(14,.Z (fPV 80 cc))::(15,.Z (fPV 80 cd))::(16,.s (SF.row 6 (pns (yR ca cb cc cd 4))))::[]) s
  (oc (zK 80 ca)<|oc (zK 80 cb)<|oc (zK 80 cc)<|oc (zK 80 cd)<|oc (zHT zC zYl (fun U u1 u2 u3 W hb (O:(fPV 80 ca).p U W) (h1:(fPV 80 cb).p u1 W) (h2:(fPV 80 cc).p u2 W) (h3:(fPV 80 cd).p u3 W)=>zNW O h1 h2 h3))<|zB) fun a w2 s hr=>?_
 obtain⟨v16,e16⟩:∃v,a.tmps.getD 16 undef=v:=⟨_,rfl⟩
 have I:(SF.row 6 (pns (yR ca cb cc cd 4))).p v16 w2:=e16▸(hr (_,_) mz4)
 replace s:=s.learn 16 v16 e16
 replace s:=s.keepK [(16,.u (UF.eq v16)),(0,.u (fPV 80 ca)),(1,.u (fPV 80 cb)),(2,.u (fPV 80 cc)),(3,.u (fPV 80 cd))] (fU (.head _)<|fU mz1<|fU mz2<|fU mz3<|fU mz4 fnz)
 have s1:=s
 replace s:StS _ _ _ [⟨8,86,CU.len 13,b8,true⟩,⟨7,30,CU.agg (fPV 80 cd),b7,true⟩,⟨6,30,CU.agg (fPV 80 cc),b6,true⟩,⟨5,30,CU.agg (fPV 80 cb),b5,true⟩,⟨4,30,CU.agg (fPV 80 ca),b4,true⟩] _ _ _ _:=s.freeze
 replace s:=s.reb rfl [(16,.u (UF.eq v16)),(0,.u (fPV 80 ca)),(1,.u (fPV 80 cb)),(2,.u (fPV 80 cc)),(3,.u (fPV 80 cd))] (fU (.inl (.head _))<|fU (.inl mz1)<|fU (.inl mz2)<|fU (.inl mz3)<|fU (.inl mz4) fnz)
 refine zSa (UF.eq v16) rfl s kA iiz fun a s=>zD rfl<|lP<|rgQ ((17,.Z (UF.eq v16))::(18,.Z (uI ((pns (yR ca cb cc cd 4)).length:Int)))::(19,.u (uB (decide (((pns (yR ca cb cc cd 4)).length:Int)≥2))))::[]) s
  (oc zA<|oc (yK (z:=6) (Cs:=pns (yR ca cb cc cd 4)) kA (yM I s) (fun _=>rfl))<|oc (zI .i64 ((pns (yR ca cb cc cd 4)).length:Int) 2 (decide (((pns (yR ca cb cc cd 4)).length:Int)≥2)) iiz iiz rfl rfl)<|zB) fun a w3 s=>StS.cond s (decide (((pns (yR ca cb cc cd 4)).length:Int)≥2)) iiz (fun e=>?_) (fun e=>?_)
 .have J:0<(yR ca cb cc cd 4).length:=by have:=xX e;simp at this;omega
  have hk:zBR ca cb cc cd=2:=if_pos (xX e)
  refine lP<|yJ [0,3,4] 10 ((20,.Z (UF.eq v16))::(21,.Y (fPN (at_ (yR ca cb cc cd 4) 0)))::(22,.Z (fPN (at_ (yR ca cb cc cd 4) 0)))::(23,.Z (UF.eq v16))::(24,.Z (UF.eq v16))::(25,.Z (uI ((pns (yR ca cb cc cd 4)).length:Int)))::(26,.Z (uI (((yR ca cb cc cd 4).length-1:Nat):Int)))::(27,.Y (fPN (at_ (yR ca cb cc cd 4) ((yR ca cb cc cd 4).length-1))))::(28,.Z (fPN (at_ (yR ca cb cc cd 4) ((yR ca cb cc cd 4).length-1))))::(29,.u (fMT 2))::[]) hmix s kA
   (oc zA<|oc (zO (z:=6) (Cs:=pns (yR ca cb cc cd 4)) (i:=0) (C:=CU.agg (fPN (at_ (yR ca cb cc cd 4) 0))) kA (zBt (show 0<(yR ca cb cc cd 4).length by have hx:=J;omega)) (yM I s) iiz)<|oc (zT (f:=fPN (at_ (yR ca cb cc cd 4) 0)) 6 kA (hz:=y9 _ _))<|oc zA<|oc zA<|oc (yK (z:=6) (Cs:=pns (yR ca cb cc cd 4)) kA (yM I s) (fun _=>rfl))<|oc (zEW .i64 ((pns (yR ca cb cc cd 4)).length:Int) 1 (((yR ca cb cc cd 4).length-1:Nat):Int) iiz iiz (by have:=zGt ca cb cc cd 4;simp only[bF];rw[sT];omega))<|oc (zO (z:=6) (Cs:=pns (yR ca cb cc cd 4)) (i:=((yR ca cb cc cd 4).length-1)) (C:=CU.agg (fPN (at_ (yR ca cb cc cd 4) ((yR ca cb cc cd 4).length-1)))) kA (zBt (show((yR ca cb cc cd 4).length-1)<(yR ca cb cc cd 4).length by have hx:=J;omega)) (yM I s) iiz)<|oc (zT (f:=fPN (at_ (yR ca cb cc cd 4) ((yR ca cb cc cd 4).length-1))) 6 kA (hz:=y9 _ _))<|oc (zAQ (fun u v q W (hu:u=.int .i8 2) (hv:(fPN (at_ (yR ca cb cc cd 4) 0)).p v W) (hq:(fPN (at_ (yR ca cb cc cd 4) ((yR ca cb cc cd 4).length-1))).p q W)=>by rw[show u=_ from hu];exact zU2 hv hq))<|zB) fun Q' hQ a w4 s=>?_
  replace s:=s.keepK [(29,.u (fMT 2)),(19,.u (uB (decide (((pns (yR ca cb cc cd 4)).length:Int)≥2)))),(9,.u (UF.eq v16)),(16,.u (UF.eq v16)),(0,.u (fPV 80 ca)),(1,.u (fPV 80 cb)),(2,.u (fPV 80 cc)),(3,.u (fPV 80 cd))] (fU (.head _)<|fU mz1<|fU mz2<|fU mz3<|fU mz4<|fU mz5<|fU mz6<|fU mz7 fnz)
  replace s:=s1.thaw s rfl
  refine zM (fMT 2) rfl s (zEs _) fun a w s=>zD rfl (hQ _ _ ?_)
  exact pS<|wK s (CU.agg (fMT 2)) rfl kA rfl rfl (zLF _) (fun cs W h=>by rw[hk];exact h)
 .have e2:=nF e
  refine pT<|lP<|rgQ ((30,.Z (UF.eq v16))::(31,.Z (uI ((pns (yR ca cb cc cd 4)).length:Int)))::(32,.u (uB (((pns (yR ca cb cc cd 4)).length:Int)==1)))::[]) s
   (oc zA<|oc (yK (z:=6) (Cs:=pns (yR ca cb cc cd 4)) kA (yM I s) (fun _=>rfl))<|oc (zI .i64 ((pns (yR ca cb cc cd 4)).length:Int) 1 (((pns (yR ca cb cc cd 4)).length:Int)==1) iiz iiz rfl rfl)<|zB) fun a w5 s=>StS.cond s (((pns (yR ca cb cc cd 4)).length:Int)==1) iiz (fun e=>?_) (fun e=>?_)
  .have J:0<(yR ca cb cc cd 4).length:=by have:=bC.1 e;simp at this;omega
   have hk:zBR ca cb cc cd=1:=by unfold zBR;rw[if_neg e2,if_pos e]
   refine lP<|yJ [0,3] 7 ((33,.Z (UF.eq v16))::(34,.Y (fPN (at_ (yR ca cb cc cd 4) 0)))::(35,.Z (fPN (at_ (yR ca cb cc cd 4) 0)))::(36,.Z (UF.eq v16))::(37,.Y (fPN (at_ (yR ca cb cc cd 4) 0)))::(38,.Z (fPN (at_ (yR ca cb cc cd 4) 0)))::(39,.u (fMT 1))::[]) hmix s kA
    (oc zA<|oc (zO (z:=6) (Cs:=pns (yR ca cb cc cd 4)) (i:=0) (C:=CU.agg (fPN (at_ (yR ca cb cc cd 4) 0))) kA (zBt (show 0<(yR ca cb cc cd 4).length by have hx:=J;omega)) (yM I s) iiz)<|oc (zT (f:=fPN (at_ (yR ca cb cc cd 4) 0)) 6 kA (hz:=y9 _ _))<|oc zA<|oc (zO (z:=6) (Cs:=pns (yR ca cb cc cd 4)) (i:=0) (C:=CU.agg (fPN (at_ (yR ca cb cc cd 4) 0))) kA (zBt (show 0<(yR ca cb cc cd 4).length by have hx:=J;omega)) (yM I s) iiz)<|oc (zT (f:=fPN (at_ (yR ca cb cc cd 4) 0)) 6 kA (hz:=y9 _ _))<|oc (zAQ (fun u v q W (hu:u=.int .i8 1) (hv:(fPN (at_ (yR ca cb cc cd 4) 0)).p v W) (hq:(fPN (at_ (yR ca cb cc cd 4) 0)).p q W)=>by rw[show u=_ from hu];exact zU2 hv hq))<|zB) fun Q' hQ a w6 s=>?_
   replace s:=s.keepK [(39,.u (fMT 1)),(32,.u (uB (((pns (yR ca cb cc cd 4)).length:Int)==1))),(19,.u (uB (decide (((pns (yR ca cb cc cd 4)).length:Int)≥2)))),(9,.u (UF.eq v16)),(16,.u (UF.eq v16)),(0,.u (fPV 80 ca)),(1,.u (fPV 80 cb)),(2,.u (fPV 80 cc)),(3,.u (fPV 80 cd))] (fU (.head _)<|fU mz1<|fU mz2<|fU mz3<|fU mz4<|fU mz5<|fU mz6<|fU mz7<|fU mz8 fnz)
   replace s:=s1.thaw s rfl
   refine zM (fMT 1) rfl s (zEs _) fun a w s=>zD rfl (hQ _ _ ?_)
   exact pS<|wK s (CU.agg (fMT 1)) rfl kA rfl rfl (zLF _) (fun cs W h=>by rw[hk];exact h)
  .have e3:=e
   replace s:=s.keepK [(32,.u (uB (((pns (yR ca cb cc cd 4)).length:Int)==1))),(19,.u (uB (decide (((pns (yR ca cb cc cd 4)).length:Int)≥2)))),(9,.u (UF.eq v16)),(16,.u (UF.eq v16)),(0,.u (fPV 80 ca)),(1,.u (fPV 80 cb)),(2,.u (fPV 80 cc)),(3,.u (fPV 80 cd))] (fU (.head _)<|fU mz1<|fU mz2<|fU mz3<|fU mz4<|fU mz5<|fU mz6<|fU mz7 fnz)
   replace s:=s1.thaw s rfl
   refine pT<|lP<|rgK 8 ((41,.Z (fPV 80 ca))::(42,.Z (fPV 80 cb))::(43,.Z (fPV 80 cc))::(44,.Z (fPV 80 cd))::(45,.Z (zBH (fPV 327 (qA ca cb cc cd)) (uB (!(decide ((dnm ca cb cc cd)=0))))))::(40,.Z (zBH (fPV 327 (qA ca cb cc cd)) (uB (!(decide ((dnm ca cb cc cd)=0))))))::(46,.u (fPV 327 (qA ca cb cc cd)))::(47,.u (uB (!(decide ((dnm ca cb cc cd)=0)))))::[]) s
    (oc (zK 80 ca)<|oc (zK 80 cb)<|oc (zK 80 cc)<|oc (zK 80 cd)<|oc (zHT zC zYk (fun U u1 u2 u3 W hb (O:(fPV 80 ca).p U W) (h1:(fPV 80 cb).p u1 W) (h2:(fPV 80 cc).p u2 W) (h3:(fPV 80 cd).p u3 W)=>zMr O h1 h2 h3 he h9 hf))<|oc zA<|oc (zBX (A:=(fPV 327 (qA ca cb cc cd)).tS) (B:=(uB (!(decide ((dnm ca cb cc cd)=0)))).tS) iiz)<|oc (zBW (A:=(fPV 327 (qA ca cb cc cd)).tS) (B:=(uB (!(decide ((dnm ca cb cc cd)=0)))).tS) iiz)<|zB) fun a w7 s=>zX (CU.len 6) (cs:=zP6) kA rfl s kA (fun W=>rfl) rfl fun b10 a w s=>zM (fPV 327 (qA ca cb cc cd)) rfl s yY fun a w s=>yQ (uB (!(decide ((dnm ca cb cc cd)=0)))) rfl s kA iiz fun a w s=>zD rfl<|lP<|rgQ ((48,.Z (uB (!(decide ((dnm ca cb cc cd)=0)))))::(49,.Z (uB (!(decide ((dnm ca cb cc cd)=0)))))::(50,.s (SF.imp ((!(decide ((dnm ca cb cc cd)=0)))=true) ((fPV 80 ca).tS)))::(51,.s (SF.imp ((!(decide ((dnm ca cb cc cd)=0)))=true) ((fPV 80 cb).tS)))::(52,.s (SF.imp ((!(decide ((dnm ca cb cc cd)=0)))=true) ((fPV 327 (qA ca cb cc cd)).tS)))::(53,.s (SF.imp ((!(decide ((dnm ca cb cc cd)=0)))=true) ((uB (onS ca cb (qA ca cb cc cd))).tS)))::(54,.Z (uB ((!(decide ((dnm ca cb cc cd)=0)))&&(onS ca cb (qA ca cb cc cd)))))::(55,.Z (uB ((!(decide ((dnm ca cb cc cd)=0)))&&(onS ca cb (qA ca cb cc cd)))))::(56,.s (SF.imp (((!(decide ((dnm ca cb cc cd)=0)))&&(onS ca cb (qA ca cb cc cd)))=true) ((fPV 80 cc).tS)))::(57,.s (SF.imp (((!(decide ((dnm ca cb cc cd)=0)))&&(onS ca cb (qA ca cb cc cd)))=true) ((fPV 80 cd).tS)))::(58,.s (SF.imp (((!(decide ((dnm ca cb cc cd)=0)))&&(onS ca cb (qA ca cb cc cd)))=true) ((fPV 327 (qA ca cb cc cd)).tS)))::(59,.s (SF.imp (((!(decide ((dnm ca cb cc cd)=0)))&&(onS ca cb (qA ca cb cc cd)))=true) ((uB (onS cc cd (qA ca cb cc cd))).tS)))::(60,.u (uB (((!(decide ((dnm ca cb cc cd)=0)))&&(onS ca cb (qA ca cb cc cd)))&&(onS cc cd (qA ca cb cc cd)))))::[]) s
    (oc zA<|oc zA<|oc (zE 49 (!(decide ((dnm ca cb cc cd)=0))) kA iiz (fun e=>z5 [] ((fPV 80 ca).tS) fnz fO kA (zK 80 ca)) fN)<|oc (zE 49 (!(decide ((dnm ca cb cc cd)=0))) kA iiz (fun e=>z5 [] ((fPV 80 cb).tS) fnz fO kA (zK 80 cb)) fN)<|oc (zE 49 (!(decide ((dnm ca cb cc cd)=0))) kA iiz (fun e=>z5 [] ((fPV 327 (qA ca cb cc cd)).tS) fnz fO kA (zK 327 (qA ca cb cc cd))) fN)<|oc (zE 49 (!(decide ((dnm ca cb cc cd)=0))) kA iiz (fun e=>z5 [(50,(fPV 80 ca).tS),(51,(fPV 80 cb).tS),(52,(fPV 327 (qA ca cb cc cd)).tS)] ((uB (onS ca cb (qA ca cb cc cd))).tS) (fU (fun v W h=>zN (c:=(!(decide ((dnm ca cb cc cd)=0)))=true) (f:=(fPV 80 ca).tS) e h)<|fU (fun v W h=>zN (c:=(!(decide ((dnm ca cb cc cd)=0)))=true) (f:=(fPV 80 cb).tS) e h)<|fU (fun v W h=>zN (c:=(!(decide ((dnm ca cb cc cd)=0)))=true) (f:=(fPV 327 (qA ca cb cc cd)).tS) e h) fnz) fO kA (jG zC zRz (fun U u1 u2 W hb (O:(fPV 80 ca).p U W) (h1:(fPV 80 cb).p u1 W) (h2:(fPV 327 (qA ca cb cc cd)).p u2 W)=>zHM (m:=80) (M:=327) O h1 h2 dA dA dA dA))) fN)<|oc (yC (!(decide ((dnm ca cb cc cd)=0))) iiz (fun e v W h=>zA0 (zN e h) e) (fun e v W h=>zAe h e))<|oc zA<|oc (zE 55 ((!(decide ((dnm ca cb cc cd)=0)))&&(onS ca cb (qA ca cb cc cd))) kA iiz (fun e=>z5 [] ((fPV 80 cc).tS) fnz fO kA (zK 80 cc)) fN)<|oc (zE 55 ((!(decide ((dnm ca cb cc cd)=0)))&&(onS ca cb (qA ca cb cc cd))) kA iiz (fun e=>z5 [] ((fPV 80 cd).tS) fnz fO kA (zK 80 cd)) fN)<|oc (zE 55 ((!(decide ((dnm ca cb cc cd)=0)))&&(onS ca cb (qA ca cb cc cd))) kA iiz (fun e=>z5 [] ((fPV 327 (qA ca cb cc cd)).tS) fnz fO kA (zK 327 (qA ca cb cc cd))) fN)<|oc (zE 55 ((!(decide ((dnm ca cb cc cd)=0)))&&(onS ca cb (qA ca cb cc cd))) kA iiz (fun e=>z5 [(56,(fPV 80 cc).tS),(57,(fPV 80 cd).tS),(58,(fPV 327 (qA ca cb cc cd)).tS)] ((uB (onS cc cd (qA ca cb cc cd))).tS) (fU (fun v W h=>zN (c:=((!(decide ((dnm ca cb cc cd)=0)))&&(onS ca cb (qA ca cb cc cd)))=true) (f:=(fPV 80 cc).tS) e h)<|fU (fun v W h=>zN (c:=((!(decide ((dnm ca cb cc cd)=0)))&&(onS ca cb (qA ca cb cc cd)))=true) (f:=(fPV 80 cd).tS) e h)<|fU (fun v W h=>zN (c:=((!(decide ((dnm ca cb cc cd)=0)))&&(onS ca cb (qA ca cb cc cd)))=true) (f:=(fPV 327 (qA ca cb cc cd)).tS) e h) fnz) fO kA (jG zC zRz (fun U u1 u2 W hb (O:(fPV 80 cc).p U W) (h1:(fPV 80 cd).p u1 W) (h2:(fPV 327 (qA ca cb cc cd)).p u2 W)=>zHM (m:=80) (M:=327) O h1 h2 dA dA dA dA))) fN)<|oc (yC ((!(decide ((dnm ca cb cc cd)=0)))&&(onS ca cb (qA ca cb cc cd))) iiz (fun e v W h=>zA0 (zN e h) e) (fun e v W h=>zAe h e))<|zB) fun a w8 s=>StS.cond s (((!(decide ((dnm ca cb cc cd)=0)))&&(onS ca cb (qA ca cb cc cd)))&&(onS cc cd (qA ca cb cc cd))) iiz (fun e=>?_) (fun e=>?_)
   .have hk:zBR ca cb cc cd=1:=by unfold zBR;rw[if_neg e2,if_neg (by rw[e3];decide),if_pos e]
    exact lP<|rgK 3 ((61,.Z (fPV 327 (qA ca cb cc cd)))::(62,.Z (fPV 327 (qA ca cb cc cd)))::(63,.u (fMT 1))::[]) s
     (oc (zK 327 (qA ca cb cc cd))<|oc (zK 327 (qA ca cb cc cd))<|oc (zAQ (fun u v q W (hu:u=.int .i8 1) (hv:(fPV 327 (qA ca cb cc cd)).p v W) (hq:(fPV 327 (qA ca cb cc cd)).p q W)=>by rw[show u=_ from hu];exact zU2 hv hq))<|zB) fun a w9 s=>zM (fMT 1) rfl s (zEs _) fun a w s=>zD rfl<|pS<|wK s (CU.agg (fMT 1)) rfl kA rfl rfl (zLF _) (fun cs W h=>by rw[hk];exact h)
   .have hk:zBR ca cb cc cd=0:=by unfold zBR;rw[if_neg e2,if_neg (by rw[e3];decide),if_neg (by rw[e];decide)]
    exact pT<|lP<|rgK 3 ((64,.Z (fPN (((0:Int):Rat),((0:Int):Rat))))::(65,.Z (fPN (((0:Int):Rat),((0:Int):Rat))))::(66,.u (fMT 0))::[]) s
     (oc (zH zC zO9 (fun U u1 W hb (O:U=.int .i64 0) (h1:u1=.int .i64 0)=>zI0 O h1 dA dA))<|oc (zH zC zO9 (fun U u1 W hb (O:U=.int .i64 0) (h1:u1=.int .i64 0)=>zI0 O h1 dA dA))<|oc (q8 (fun u v W (hu:(fPN (((0:Int):Rat),((0:Int):Rat))).p u W) (hv:(fPN (((0:Int):Rat),((0:Int):Rat))).p v W)=>zYS hu hv))<|zB) fun a w10 s=>zM (fMT 0) rfl s (zEs _) fun a w s=>zD rfl<|pS<|wK s (CU.agg (fMT 0)) rfl kA rfl rfl (zLF _) (fun cs W h=>by rw[hk];exact h)
def zAU(ps:List V2)(k i:Nat):Bool:=if i=k+1∨(k=0/\i=ps.length-1)then zBR (at_ ps k) (at_ ps ((k+1)%ps.length)) (at_ ps i) (at_ ps ((i+1)%ps.length))==1 else zBR (at_ ps k) (at_ ps ((k+1)%ps.length)) (at_ ps i) (at_ ps ((i+1)%ps.length))==0
def zRv(ps:List V2)(i k:Nat):Bool:= !((zAy (at_ ps i) (at_ ps k)==0)|| !(zAU ps k i))
def zDH(ps:List V2):Bool:=decide (3<=ps.length)&&(List.range ps.length).all fun i=>(List.range i).all fun k=>zRv ps i k
theorem zQl(h:ps.length<3):zDH ps=false:=by
 unfold zDH
 rw[xZ oA,Bool.false_and]
theorem zTz(hi:i<ps.length)(I:k<i)(h:((zAy (at_ ps i) (at_ ps k)==0)|| !(zAU ps k i))=true):zDH ps=false:=by
 unfold zDH
 rw[zZX]
 right
 rw[List.all_eq_false]
 refine⟨i,xU.2 hi,?_⟩
 rw[Bool.not_eq_true,List.all_eq_false]
 refine⟨k,xU.2 I,?_⟩
 unfold zRv
 rw[h]
 decide
theorem zQj(h3:3<=ps.length)(h:∀i k,i<ps.length->k<i->((zAy (at_ ps i) (at_ ps k)==0)|| !(zAU ps k i))=false):zDH ps=true:=by
 unfold zDH
 rw[lH h3,Bool.true_and,xT]
 intro i hi
 rw[xT]
 intro k I
 unfold zRv
 rw[h i k (xU.1 hi) (xU.1 I)]
 rfl
theorem zI4{m:Nat}{l:WE}(J:(SF.row 6 (pvs m ps)).p l W)(hu:u=.int .i64 (k:Int))(hk:k<ps.length)(hn:ps.length<=1000000)(h2:2<=ps.length):Calls prog 60 #[l,u] W (Ret W (zGL (fPV m (at_ ps k)) (fPV m (tn ps k)) (fB true)).tS):=by
 have U:(k+1)%ps.length<ps.length:=vY _ oA
 refine zZ [(UF.eq l).tS,(uI (k:Int)).tS] func60 rfl kA ⟨rfl,hu,trivial⟩ fun a s=>?_
 replace s:=s.renew [(0,.u (UF.eq l)),(1,.u (uI (k:Int)))] (fU (.inr ⟨_,rfl,.head _⟩)<|fU (.inr ⟨_,rfl,mz1⟩) fnz)
 refine lP<|rgK 0 [] s
  zB fun a w1 s=>zX (CU.agg (fPV m (((0:Rat),(0:Rat)):V2))) (cs:=ptZ) kA rfl s kA (fun W=>zN1 m W) rfl fun b4 a w s=>zX (CU.agg (fPV m (((0:Rat),(0:Rat)):V2))) (cs:=ptZ) kA rfl s kA (fun W=>zN1 m W) rfl fun b5 a w s=>yQ (uB false) rfl s kA iiz fun a w s=>zD rfl<|lP<|rgQ ((7,.Z (UF.eq l))::(8,.Z (uI ((pvs m ps).length:Int)))::(9,.Z (uB false))::(10,.Z (uB false))::(11,.Z (uI (k:Int)))::(12,.Z (uB false))::(13,.Z (uB false))::(14,.Z (uB false))::(15,.Z (uI (k:Int)))::(16,.Z (UF.eq l))::(17,.Z (uI ((pvs m ps).length:Int)))::(18,.Z (uB false))::(19,.u (uB false))::[]) s
  (oc zA<|oc (yK (z:=6) (Cs:=pvs m ps) kA (yM J s) (fun _=>rfl))<|oc (zI .i64 ((pvs m ps).length:Int) 2 false iiz iiz (by first|(simp;omega)|simp) rfl)<|oc zA<|oc (zE 10 false kA iiz (fun _=>zA) arf)<|oc (zE 10 false kA iiz (fun _=>zI .i64 (k:Int) 0 false iiz iiz (by first|(simp;omega)|simp) rfl) arf)<|oc (yC false iiz fS fD)<|oc zA<|oc (zE 14 false kA iiz (fun _=>zA) arf)<|oc (zE 14 false kA iiz (fun _=>zA) arf)<|oc (zE 14 false kA iiz (fun _=>yK (z:=6) (Cs:=pvs m ps) kA (yM J s) (fun _=>rfl)) arf)<|oc (zE 14 false kA iiz (fun _=>zI .i64 (k:Int) ((pvs m ps).length:Int) false iiz iiz (by first|(simp;omega)|simp) rfl) arf)<|oc (yC false iiz fS fD)<|zB) fun a w2 s=>StS.cond s false iiz fS (fun e=>?_)
 refine pT<|lP ?_
 have I:=s.below
 replace s:=s.drop [6]
 refine zHG (GW W) hmix s fun w3 _ s=>?_
 have I:=s.below
 refine zHI [4,5,6,7,8,9,10,11] [0,1,2,3,4,5,6,7,8,9,10,11] ((22,.u (UF.eq l))::(23,.u (uI (k:Int)))::(24,.u (fOp W (CU.agg (fPV m (at_ ps k)))))::(25,.u (fPV m (at_ ps k)))::(26,.u (UF.eq l))::(27,.u (uI (k:Int)))::(28,.u (uI ((k+1:Nat):Int)))::(29,.u (UF.eq l))::(30,.u (uI ((pvs m ps).length:Int)))::(31,.u (uI (((k+1)%ps.length:Nat):Int)))::(32,.u (fOp W (CU.agg (fPV m (tn ps k)))))::(33,.u (fPV m (tn ps k)))::[]) (zMB I) s kA
  (oc zA<|oc zA<|oc (zGe (z:=6) (Cs:=pvs m ps) (i:=k) (C:=CU.agg (fPV m (at_ ps k))) kA (qJ hk) J iiz iiz)<|oc (zHQ I (fPV m (at_ ps k)) 6 kA iiz zDu)<|oc zA<|oc zA<|oc (yB .i64 (k:Int) 1 ((k+1:Nat):Int) iiz iiz (wrap64 _ _ oA oA))<|oc zA<|oc (yK (z:=6) (Cs:=pvs m ps) kA (fun v W hb h=>by rw[show _=l from h];exact(SF.row 6 (pvs m ps)).st _ _ _ J (s.up hb)) (fun _=>rfl))<|oc (zBv .i64 ((k+1:Nat):Int) ((pvs m ps).length:Int) (((k+1)%ps.length:Nat):Int) iiz iiz (by simp only[bF];omega) (by simp only[bF];rw[pB oA];rfl))<|oc (zGe (z:=6) (Cs:=pvs m ps) (i:=((k+1)%ps.length)) (C:=CU.agg (fPV m (tn ps k))) kA (qJ U) J iiz iiz)<|oc (zHQ I (fPV m (tn ps k)) 6 kA iiz zDu)<|zB)
  (jA rfl (zEb.c zDg I) (jA rfl (zEb.c zDg I) (jA rfl (zEb.c (zO2 (x:=.tmp 27) (y:=.const (.int .i64 1)) .i64 (k:Int) 1 iiz iiz) I) (jA rfl (zEb.c zDg I) (jA rfl (zEb.c (zSJ (x:=.tmp 29) (z:=6) (Cs:=pvs m ps) kA (fun v W hb h=>by rw[show _=l from h];exact(SF.row 6 (pvs m ps)).st _ _ _ J hb)) I) (jA rfl (zEb.c (zO1 (x:=.tmp 28) (y:=.tmp 30) .i64 ((k+1:Nat):Int) ((pvs m ps).length:Int) iiz iiz (by simp only[bF];omega)) I) (jA rfl (zEb.c (zJy (x:=.tmp 26) (y:=.tmp 31) (z:=6) (Cs:=pvs m ps) (i:=((k+1)%ps.length)) (C:=CU.agg (fPV m (tn ps k))) kA (qJ U) J iiz iiz) I) (jA rfl (zEb.c (zLO (x:=.tmp 32) (fPV m (tn ps k)) 6 kA iiz zDu) I) zGr)))))))) fun a w4 O s hr=>?_
 replace I:=I.trans (O.mono I.size)
 refine zDt (i:=12) (c:=4) (CU.agg (fPV m (at_ ps k))) ((fPV m (at_ ps k)).tS) s rfl kA kA rfl rfl rfl (y9 _ _) iiz yY (fun vs _=>zLM I (s.own (c:=4) rfl rfl) _) fun w5 hg _ s=>?_
 replace I:=hg _ (xG _ _)
 refine zDt (i:=13) (c:=5) (CU.agg (fPV m (tn ps k))) ((fPV m (tn ps k)).tS) s rfl kA kA rfl rfl rfl (y9 _ _) iiz yY (fun vs _=>zLM I (s.own (c:=5) rfl rfl) _) fun w6 hg _ s=>?_
 replace I:=hg _ (xG _ _)
 exact zHI [] [14] ((6,.u (uB true))::[]) (zMB I) s kA (zLz zF<|zB) zGr fun a w7 O s hr=>zFu kA<|pS<|vN s (CU.agg (fPV m (at_ ps k))) (CU.agg (fPV m (tn ps k))) rfl kA kA rfl rfl (y9 _ _) rfl rfl (y9 _ _) (fun cs cs' v W h1 h2 h3=>⟨_,_,_,rfl,h1,h2,h3⟩)
theorem zMq{l:WE}(hl:(SF.row 6 (pvs 80 ps)).p l W)(hu:u=.int .i64 (k:Int))(hv:v=.int .i64 (i:Int))(hki:k<i)(hi:i<ps.length)(hn:ps.length<=1000000)(h3:3<=ps.length)(I:∀i j,i<ps.length->j<ps.length->i≠j->zFo (at_ ps i) (at_ ps j)):Calls prog 30 #[l,u,v] W (Ret W (fB (zAU ps k i)).tS):=by
 have O:k<ps.length:=oA
 have nx:∀j,j<ps.length->(j+1)%ps.length<ps.length/\j≠(j+1)%ps.length:=fun j hj=>by
  rcases tX (Nat.succ_le_of_lt hj)with h|h
  .rw[uD h];omega
  .rw[show j+1=ps.length from h,zZ0];omega
 have h7:zFo (at_ ps k) (at_ ps ((k+1)%ps.length)):=I _ _ O (nx k O).1 (nx k O).2
 have h6:zFo (at_ ps i) (at_ ps ((i+1)%ps.length)):=I _ _ hi (nx i hi).1 (nx i hi).2
 have h8:zFo (at_ ps k) (at_ ps i):=I _ _ O hi oA
 refine zZ [(UF.eq l).tS,(uI (k:Int)).tS,(uI (i:Int)).tS] func30 rfl kA ⟨rfl,hu,hv,trivial⟩ fun a s=>?_
 replace s:=s.renew [(0,.u (UF.eq l)),(1,.u (uI (k:Int))),(2,.u (uI (i:Int)))] (fU (.inr ⟨_,rfl,.head _⟩)<|fU (.inr ⟨_,rfl,mz1⟩)<|fU (.inr ⟨_,rfl,mz2⟩) fnz)
 refine rgQ ((6,.u (uB false))::[]) s
  (oc zF<|zB) fun a w1 s=>lP<|rgK 7 ((15,.Z (UF.eq l))::(16,.Z (uI (k:Int)))::(17,.Z (zGL (fPV 80 (at_ ps k)) (fPV 80 (at_ ps ((k+1)%ps.length))) (uB true)))::(14,.Z (zGL (fPV 80 (at_ ps k)) (fPV 80 (at_ ps ((k+1)%ps.length))) (uB true)))::(18,.u (fPV 80 (at_ ps k)))::(19,.u (fPV 80 (at_ ps ((k+1)%ps.length))))::(20,.u (uB true))::[]) s
  (oc zA<|oc zA<|oc (zH zC zWI (fun J U W hb (h0:J=l) (h1:U=.int .i64 (k:Int))=>zI4 (m:=80) (ps:=ps) (k:=k) (zCw hl h0 (s.up hb)) h1 O hn oA))<|oc zA<|oc (zFD (A:=(fPV 80 (at_ ps k)).tS) (B:=(fPV 80 (at_ ps ((k+1)%ps.length))).tS) (C:=(uB true).tS) iiz)<|oc (zFC (A:=(fPV 80 (at_ ps k)).tS) (B:=(fPV 80 (at_ ps ((k+1)%ps.length))).tS) (C:=(uB true).tS) iiz)<|oc (zFB (A:=(fPV 80 (at_ ps k)).tS) (B:=(fPV 80 (at_ ps ((k+1)%ps.length))).tS) (C:=(uB true).tS) iiz)<|zB) fun a w2 s=>zX (CU.len 6) (cs:=zP6) kA rfl s kA (fun W=>rfl) rfl fun b7 a w s=>zX (CU.len 6) (cs:=zP6) kA rfl s kA (fun W=>rfl) rfl fun b8 a w s=>zM (fPV 80 (at_ ps k)) rfl s yY fun a w s=>zM (fPV 80 (at_ ps ((k+1)%ps.length))) rfl s yY fun a w s=>yQ (uB true) rfl s kA iiz fun a w s=>zD rfl<|lP<|rgK 7 ((22,.Z (UF.eq l))::(23,.Z (uI (i:Int)))::(24,.Z (zGL (fPV 80 (at_ ps i)) (fPV 80 (at_ ps ((i+1)%ps.length))) (uB true)))::(21,.Z (zGL (fPV 80 (at_ ps i)) (fPV 80 (at_ ps ((i+1)%ps.length))) (uB true)))::(25,.u (fPV 80 (at_ ps i)))::(26,.u (fPV 80 (at_ ps ((i+1)%ps.length))))::(27,.u (uB true))::[]) s
  (oc zA<|oc zA<|oc (zH zC zWI (fun J U W hb (h0:J=l) (h1:U=.int .i64 (i:Int))=>zI4 (m:=80) (ps:=ps) (k:=i) (zCw hl h0 (s.up hb)) h1 hi hn oA))<|oc zA<|oc (zFD (A:=(fPV 80 (at_ ps i)).tS) (B:=(fPV 80 (at_ ps ((i+1)%ps.length))).tS) (C:=(uB true).tS) iiz)<|oc (zFC (A:=(fPV 80 (at_ ps i)).tS) (B:=(fPV 80 (at_ ps ((i+1)%ps.length))).tS) (C:=(uB true).tS) iiz)<|oc (zFB (A:=(fPV 80 (at_ ps i)).tS) (B:=(fPV 80 (at_ ps ((i+1)%ps.length))).tS) (C:=(uB true).tS) iiz)<|zB) fun a w3 s=>zX (CU.len 6) (cs:=zP6) kA rfl s kA (fun W=>rfl) rfl fun b10 a w s=>zX (CU.len 6) (cs:=zP6) kA rfl s kA (fun W=>rfl) rfl fun b11 a w s=>zM (fPV 80 (at_ ps i)) rfl s yY fun a w s=>zM (fPV 80 (at_ ps ((i+1)%ps.length))) rfl s yY fun a w s=>yQ (uB true) rfl s kA iiz fun a w s=>zD rfl<|lP<|rgK 5 ((28,.Z (fPV 80 (at_ ps k)))::(29,.Z (fPV 80 (at_ ps ((k+1)%ps.length))))::(30,.Z (fPV 80 (at_ ps i)))::(31,.Z (fPV 80 (at_ ps ((i+1)%ps.length))))::(32,.u (fMT (zBR (at_ ps k) (at_ ps ((k+1)%ps.length)) (at_ ps i) (at_ ps ((i+1)%ps.length)))))::[]) s
  (oc (zK 80 (at_ ps k))<|oc (zK 80 (at_ ps ((k+1)%ps.length)))<|oc (zK 80 (at_ ps i))<|oc (zK 80 (at_ ps ((i+1)%ps.length)))<|oc (zHT zC zYx (fun J U u2 u3 W hb (h0:(fPV 80 (at_ ps k)).p J W) (h1:(fPV 80 (at_ ps ((k+1)%ps.length))).p U W) (h2:(fPV 80 (at_ ps i)).p u2 W) (h3:(fPV 80 (at_ ps ((i+1)%ps.length))).p u3 W)=>zNV h0 h1 h2 h3 h7 h6 h8))<|zB) fun a w4 s=>zX (CU.len 13) (cs:=[.int .i8 0,.bool false, sN, sN,.bool false, sN, sN,.bool false, sN, sN,.bool false, sN, sN]) kA rfl s kA (fun W=>rfl) rfl fun b13 a w s=>zM (fMT (zBR (at_ ps k) (at_ ps ((k+1)%ps.length)) (at_ ps i) (at_ ps ((i+1)%ps.length)))) rfl s (zEs _) fun a w s=>zD rfl<|lP<|lP ?_
 rcases(show i=k+1∨(i≠k+1/\k=0/\i=ps.length-1)∨(i≠k+1/\k=0/\i≠ps.length-1)∨(i≠k+1/\k≠0)from oA)with c1|⟨c1,c2,c3⟩|⟨c1,c2,c3⟩|⟨c1,c2⟩
 .refine rgK 0 [] s
   zB fun a w5 s=>?_
  refine zBJ (uI (i:Int)) rfl s kA zA kA fun a w s=>zBJ (uI (k:Int)) rfl s kA zA kA fun a w s=>zBJ (uI ((k+1:Nat):Int)) rfl s kA (yB .i64 (k:Int) 1 ((k+1:Nat):Int) iiz iiz (wrap64 _ _ oA oA)) kA fun a w s=>zBJ (uB true) rfl s kA (zI .i64 (i:Int) ((k+1:Nat):Int) true iiz iiz (bC.2 oA) rfl) kA fun a w s=>zBJ (uB true) rfl s kA zA kA fun a w s=>zCh (.bool true) rfl rfl s iiz kA kA (fun a w s=>?_)
  refine zCh (.bool true) rfl rfl s iiz kA kA (fun a w s=>?_)
  refine zCh (.bool true) rfl rfl s iiz kA kA (fun a w s=>?_)
  refine zCh undef rfl rfl s iiz kA kA (fun a w s=>?_)
  refine zCh undef rfl rfl s iiz kA kA (fun a w s=>?_)
  refine zCh undef rfl rfl s iiz kA kA (fun a w s=>?_)
  refine zCh undef rfl rfl s iiz kA kA (fun a w s=>?_)
  refine zCh undef rfl rfl s iiz kA kA (fun a w s=>?_)
  refine zCh (.bool true) rfl rfl s iiz kA kA (fun a w s=>?_)
  refine zBJ (uB true) rfl s kA (yC true iiz fD fS) kA fun a w s=>zD rfl<|StS.cond s true iiz (fun e=>?_) fS
  refine lP ?_
  replace s:=s.drop [6]
  exact rgE ((48,.X (fMT (zBR (at_ ps k) (at_ ps ((k+1)%ps.length)) (at_ ps i) (at_ ps ((i+1)%ps.length)))) 0)::(49,.Z (UF.eq (.int .i8 (zBR (at_ ps k) (at_ ps ((k+1)%ps.length)) (at_ ps i) (at_ ps ((i+1)%ps.length))))))::(50,.Z (uB ((zBR (at_ ps k) (at_ ps ((k+1)%ps.length)) (at_ ps i) (at_ ps ((i+1)%ps.length)))==1)))::(6,.u (uB ((zBR (at_ ps k) (at_ ps ((k+1)%ps.length)) (at_ ps i) (at_ ps ((i+1)%ps.length)))==1)))::[]) s
   (oc (zL (C:=cg (fMT (zBR (at_ ps k) (at_ ps ((k+1)%ps.length)) (at_ ps i) (at_ ps ((i+1)%ps.length))))) 0 kA)<|oc (jP (C:=cg (fMT (zBR (at_ ps k) (at_ ps ((k+1)%ps.length)) (at_ ps i) (at_ ps ((i+1)%ps.length))))) (k:=0) kA (h:=zH1 _))<|oc (zI .i8 (zBR (at_ ps k) (at_ ps ((k+1)%ps.length)) (at_ ps i) (at_ ps ((i+1)%ps.length))) 1 ((zBR (at_ ps k) (at_ ps ((k+1)%ps.length)) (at_ ps i) (at_ ps ((i+1)%ps.length)))==1) iiz iiz rfl rfl)<|oc zF<|zB) fun a w6 s=>pS<|wF s (t:=6) rfl (fun v W h=>by rw[show zAU ps k i=_ from if_pos (.inl c1)];exact h)
 .refine rgK 0 [] s
   zB fun a w7 s=>?_
  refine zBJ (uI (i:Int)) rfl s kA zA kA fun a w s=>zBJ (uI (k:Int)) rfl s kA zA kA fun a w s=>zBJ (uI ((k+1:Nat):Int)) rfl s kA (yB .i64 (k:Int) 1 ((k+1:Nat):Int) iiz iiz (wrap64 _ _ oA oA)) kA fun a w s=>zBJ (uB false) rfl s kA (zI .i64 (i:Int) ((k+1:Nat):Int) false iiz iiz (nH.2 oA) rfl) kA fun a w s=>zBJ (uB false) rfl s kA zA kA fun a w s=>zCb (uI (k:Int)) rfl rfl s iiz kA zA kA fun a w s=>zCb (uB true) rfl rfl s iiz kA (zI .i64 (k:Int) 0 true iiz iiz (bC.2 oA) rfl) kA fun a w s=>zCb (uB true) rfl rfl s iiz kA zA kA fun a w s=>zCb (uI (i:Int)) rfl rfl s iiz kA zA kA fun a w s=>zCb (UF.eq l) rfl rfl s iiz kA zA kA fun a w s=>zCb (uI ((pvs 80 ps).length:Int)) rfl rfl s iiz kA (yK (z:=6) (Cs:=pvs 80 ps) kA (yM hl s) (fun _=>rfl)) kA fun a w s=>zCb (uI ((ps.length-1:Nat):Int)) rfl rfl s iiz kA (zEW .i64 ((pvs 80 ps).length:Int) 1 ((ps.length-1:Nat):Int) iiz iiz (by simp only[bF];rw[sT];omega)) kA fun a w s=>zCb (uB true) rfl rfl s iiz kA (zI .i64 (i:Int) ((ps.length-1:Nat):Int) true iiz iiz (bC.2 oA) rfl) kA fun a w s=>zCb (uB true) rfl rfl s iiz kA (yC true iiz fD fS) kA fun a w s=>zBJ (uB true) rfl s kA (yC false iiz fS fD) kA fun a w s=>zD rfl<|StS.cond s true iiz (fun e=>?_) fS
  refine lP ?_
  replace s:=s.drop [6]
  exact rgE ((48,.X (fMT (zBR (at_ ps k) (at_ ps ((k+1)%ps.length)) (at_ ps i) (at_ ps ((i+1)%ps.length)))) 0)::(49,.Z (UF.eq (.int .i8 (zBR (at_ ps k) (at_ ps ((k+1)%ps.length)) (at_ ps i) (at_ ps ((i+1)%ps.length))))))::(50,.Z (uB ((zBR (at_ ps k) (at_ ps ((k+1)%ps.length)) (at_ ps i) (at_ ps ((i+1)%ps.length)))==1)))::(6,.u (uB ((zBR (at_ ps k) (at_ ps ((k+1)%ps.length)) (at_ ps i) (at_ ps ((i+1)%ps.length)))==1)))::[]) s
   (oc (zL (C:=cg (fMT (zBR (at_ ps k) (at_ ps ((k+1)%ps.length)) (at_ ps i) (at_ ps ((i+1)%ps.length))))) 0 kA)<|oc (jP (C:=cg (fMT (zBR (at_ ps k) (at_ ps ((k+1)%ps.length)) (at_ ps i) (at_ ps ((i+1)%ps.length))))) (k:=0) kA (h:=zH1 _))<|oc (zI .i8 (zBR (at_ ps k) (at_ ps ((k+1)%ps.length)) (at_ ps i) (at_ ps ((i+1)%ps.length))) 1 ((zBR (at_ ps k) (at_ ps ((k+1)%ps.length)) (at_ ps i) (at_ ps ((i+1)%ps.length)))==1) iiz iiz rfl rfl)<|oc zF<|zB) fun a w8 s=>pS<|wF s (t:=6) rfl (fun v W h=>by rw[show zAU ps k i=_ from if_pos (.inr ⟨c2,c3⟩)];exact h)
 .refine rgK 0 [] s
   zB fun a w9 s=>?_
  refine zBJ (uI (i:Int)) rfl s kA zA kA fun a w s=>zBJ (uI (k:Int)) rfl s kA zA kA fun a w s=>zBJ (uI ((k+1:Nat):Int)) rfl s kA (yB .i64 (k:Int) 1 ((k+1:Nat):Int) iiz iiz (wrap64 _ _ oA oA)) kA fun a w s=>zBJ (uB false) rfl s kA (zI .i64 (i:Int) ((k+1:Nat):Int) false iiz iiz (nH.2 oA) rfl) kA fun a w s=>zBJ (uB false) rfl s kA zA kA fun a w s=>zCb (uI (k:Int)) rfl rfl s iiz kA zA kA fun a w s=>zCb (uB true) rfl rfl s iiz kA (zI .i64 (k:Int) 0 true iiz iiz (bC.2 oA) rfl) kA fun a w s=>zCb (uB true) rfl rfl s iiz kA zA kA fun a w s=>zCb (uI (i:Int)) rfl rfl s iiz kA zA kA fun a w s=>zCb (UF.eq l) rfl rfl s iiz kA zA kA fun a w s=>zCb (uI ((pvs 80 ps).length:Int)) rfl rfl s iiz kA (yK (z:=6) (Cs:=pvs 80 ps) kA (yM hl s) (fun _=>rfl)) kA fun a w s=>zCb (uI ((ps.length-1:Nat):Int)) rfl rfl s iiz kA (zEW .i64 ((pvs 80 ps).length:Int) 1 ((ps.length-1:Nat):Int) iiz iiz (by simp only[bF];rw[sT];omega)) kA fun a w s=>zCb (uB false) rfl rfl s iiz kA (zI .i64 (i:Int) ((ps.length-1:Nat):Int) false iiz iiz (nH.2 oA) rfl) kA fun a w s=>zCb (uB false) rfl rfl s iiz kA (yC true iiz fD fS) kA fun a w s=>zBJ (uB false) rfl s kA (yC false iiz fS fD) kA fun a w s=>zD rfl<|StS.cond s false iiz fS (fun e=>?_)
  refine pT<|lP ?_
  replace s:=s.drop [6]
  exact rgE ((51,.X (fMT (zBR (at_ ps k) (at_ ps ((k+1)%ps.length)) (at_ ps i) (at_ ps ((i+1)%ps.length)))) 0)::(52,.Z (UF.eq (.int .i8 (zBR (at_ ps k) (at_ ps ((k+1)%ps.length)) (at_ ps i) (at_ ps ((i+1)%ps.length))))))::(53,.Z (uB ((zBR (at_ ps k) (at_ ps ((k+1)%ps.length)) (at_ ps i) (at_ ps ((i+1)%ps.length)))==0)))::(6,.u (uB ((zBR (at_ ps k) (at_ ps ((k+1)%ps.length)) (at_ ps i) (at_ ps ((i+1)%ps.length)))==0)))::[]) s
   (oc (zL (C:=cg (fMT (zBR (at_ ps k) (at_ ps ((k+1)%ps.length)) (at_ ps i) (at_ ps ((i+1)%ps.length))))) 0 kA)<|oc (jP (C:=cg (fMT (zBR (at_ ps k) (at_ ps ((k+1)%ps.length)) (at_ ps i) (at_ ps ((i+1)%ps.length))))) (k:=0) kA (h:=zH1 _))<|oc (zI .i8 (zBR (at_ ps k) (at_ ps ((k+1)%ps.length)) (at_ ps i) (at_ ps ((i+1)%ps.length))) 0 ((zBR (at_ ps k) (at_ ps ((k+1)%ps.length)) (at_ ps i) (at_ ps ((i+1)%ps.length)))==0) iiz iiz rfl rfl)<|oc zF<|zB) fun a w10 s=>pS<|wF s (t:=6) rfl (fun v W h=>by rw[show zAU ps k i=_ from if_neg oA];exact h)
 .refine rgK 0 [] s
   zB fun a w11 s=>?_
  refine zBJ (uI (i:Int)) rfl s kA zA kA fun a w s=>zBJ (uI (k:Int)) rfl s kA zA kA fun a w s=>zBJ (uI ((k+1:Nat):Int)) rfl s kA (yB .i64 (k:Int) 1 ((k+1:Nat):Int) iiz iiz (wrap64 _ _ oA oA)) kA fun a w s=>zBJ (uB false) rfl s kA (zI .i64 (i:Int) ((k+1:Nat):Int) false iiz iiz (nH.2 oA) rfl) kA fun a w s=>zBJ (uB false) rfl s kA zA kA fun a w s=>zCb (uI (k:Int)) rfl rfl s iiz kA zA kA fun a w s=>zCb (uB false) rfl rfl s iiz kA (zI .i64 (k:Int) 0 false iiz iiz (nH.2 oA) rfl) kA fun a w s=>zCb (uB false) rfl rfl s iiz kA zA kA fun a w s=>zCh (.bool false) rfl rfl s iiz kA kA (fun a w s=>?_)
  refine zCh (.bool false) rfl rfl s iiz kA kA (fun a w s=>?_)
  refine zCh (.bool false) rfl rfl s iiz kA kA (fun a w s=>?_)
  refine zCh (.bool false) rfl rfl s iiz kA kA (fun a w s=>?_)
  refine zCh (.bool false) rfl rfl s iiz kA kA (fun a w s=>?_)
  refine zCb (uB false) rfl rfl s iiz kA (yC false iiz fS fD) kA fun a w s=>zBJ (uB false) rfl s kA (yC false iiz fS fD) kA fun a w s=>zD rfl<|StS.cond s false iiz fS (fun e=>?_)
  refine pT<|lP ?_
  replace s:=s.drop [6]
  exact rgE ((51,.X (fMT (zBR (at_ ps k) (at_ ps ((k+1)%ps.length)) (at_ ps i) (at_ ps ((i+1)%ps.length)))) 0)::(52,.Z (UF.eq (.int .i8 (zBR (at_ ps k) (at_ ps ((k+1)%ps.length)) (at_ ps i) (at_ ps ((i+1)%ps.length))))))::(53,.Z (uB ((zBR (at_ ps k) (at_ ps ((k+1)%ps.length)) (at_ ps i) (at_ ps ((i+1)%ps.length)))==0)))::(6,.u (uB ((zBR (at_ ps k) (at_ ps ((k+1)%ps.length)) (at_ ps i) (at_ ps ((i+1)%ps.length)))==0)))::[]) s
   (oc (zL (C:=cg (fMT (zBR (at_ ps k) (at_ ps ((k+1)%ps.length)) (at_ ps i) (at_ ps ((i+1)%ps.length))))) 0 kA)<|oc (jP (C:=cg (fMT (zBR (at_ ps k) (at_ ps ((k+1)%ps.length)) (at_ ps i) (at_ ps ((i+1)%ps.length))))) (k:=0) kA (h:=zH1 _))<|oc (zI .i8 (zBR (at_ ps k) (at_ ps ((k+1)%ps.length)) (at_ ps i) (at_ ps ((i+1)%ps.length))) 0 ((zBR (at_ ps k) (at_ ps ((k+1)%ps.length)) (at_ ps i) (at_ ps ((i+1)%ps.length)))==0) iiz iiz rfl rfl)<|oc zF<|zB) fun a w12 s=>pS<|wF s (t:=6) rfl (fun v W h=>by rw[show zAU ps k i=_ from if_neg oA];exact h)
theorem zJ4{l:WE}(hl:(SF.row 6 (pvs 80 ps)).p l W)(hn:ps.length<=1000000)(O:∀i j,i<ps.length->j<ps.length->i≠j->zFo (at_ ps i) (at_ ps j)):Calls prog 7 #[l] W (Ret W (fB (zDH ps)).tS):=by
 refine zZ [(UF.eq l).tS] func7 rfl kA ⟨rfl,trivial⟩ fun a s=>?_
 replace s:=s.renew [(0,.u (UF.eq l))] (fU (.inr ⟨_,rfl,.head _⟩) fnz)
 refine rgQ ((2,.u (uB false))::[]) s
  (oc zF<|zB) fun a w1 s=>lP<|rgQ ((5,.Z (UF.eq l))::(6,.Z (uI ((pvs 80 ps).length:Int)))::(7,.u (uB (decide (ps.length<3))))::[]) s
  (oc zA<|oc (yK (z:=6) (Cs:=pvs 80 ps) kA (yM hl s) (fun _=>rfl))<|oc (zI .i64 ((pvs 80 ps).length:Int) 3 (decide (ps.length<3)) iiz iiz (by simp only[bF];rw[rR];omega) rfl)<|zB) fun a w2 s=>StS.cond s (decide (ps.length<3)) iiz (fun e=>?_) (fun e=>?_)
 .refine lP ?_
  replace s:=s.drop [2]
  exact rgE ((2,.u (uB false))::[]) s
   (oc zF<|zB) fun a w3 s=>pS<|wF s (t:=2) rfl (fun v W h=>by rw[zQl (xX e)];exact h)
 .have h3:3<=ps.length:=by have:=nF e;omega
  refine pT<|lP<|rgQ ((3,.u (uI 0))::[]) s
   (oc zF<|zB) fun a w4 s=>tT<|zAs (fun i=>i<=ps.length/\∀i' k,i'<i->k<i'->((zAy (at_ ps i') (at_ ps k)==0)|| !(zAU ps k i'))=false) (fun i=> [(0,.u (UF.eq l)),(3,.u (uI ((i:Nat):Int)))]) (fun i=>ps.length-i) (0:Nat) (⟨vS _,fun j k I=>absurd I (rS _)⟩) (s.keepK _ (fU mz3<|fU (.head _) fnz)) fun i a w J s=>?_
  have h9:=J
  refine lP<|rgQ ((8,.Z (uI (i:Int)))::(9,.Z (UF.eq l))::(10,.Z (uI ((pvs 80 ps).length:Int)))::(11,.u (uB (ltz i ((pvs 80 ps).length))))::[]) s
   (oc zA<|oc zA<|oc (yK (z:=6) (Cs:=pvs 80 ps) kA (yM hl s) (fun _=>rfl))<|oc (zI .i64 (i:Int) ((pvs 80 ps).length:Int) (ltz i ((pvs 80 ps).length)) iiz iiz rfl rfl)<|zB) fun a w5 s=>StS.cond s (ltz i ((pvs 80 ps).length)) iiz (fun e=>?_) (fun e=>?_)
  .have hi:i<ps.length:=by have:=xX e;simp at this;omega
   refine pT<|lP<|tT<|rgQ ((4,.u (uI 0))::[]) s
    (oc zF<|zB) fun a w6 s=>tT<|zAs (fun k=>k<=i/\∀k',k'<k->((zAy (at_ ps i) (at_ ps k')==0)|| !(zAU ps k' i))=false) (fun k=> [(0,.u (UF.eq l)),(3,.u (uI (i:Int))),(4,.u (uI ((k:Nat):Int)))]) (fun k=>i-k) (0:Nat) (⟨vS _,fun j I=>absurd I (rS _)⟩) (s.keepK _ (fU mz2<|fU mz3<|fU (.head _) fnz)) fun k a w J s=>lP<|rgQ ((14,.Z (uI (k:Int)))::(15,.Z (uI (i:Int)))::(16,.u (uB (ltz k i)))::[]) s
    (oc zA<|oc zA<|oc (zI .i64 (k:Int) (i:Int) (ltz k i) iiz iiz rfl rfl)<|zB) fun a w7 s=>StS.cond s (ltz k i) iiz (fun e=>?_) (fun e=>?_)
   .have U:k<i:=by have:=xX e;omega
    have h5:k<ps.length:=oA
    refine pT<|lP<|tT<|rgQ ((19,.Z (UF.eq l))::(20,.Z (uI (i:Int)))::(21,.Y (fPV 80 (at_ ps i)))::(22,.Z (fPV 80 (at_ ps i)))::(23,.Z (UF.eq l))::(24,.Z (uI (k:Int)))::(25,.Y (fPV 80 (at_ ps k)))::(26,.Z (fPV 80 (at_ ps k)))::(27,.Z (uB (zAy (at_ ps i) (at_ ps k)==0)))::(28,.Z (uB (zAy (at_ ps i) (at_ ps k)==0)))::(29,.s (SF.imp ((zAy (at_ ps i) (at_ ps k)==0)=false) ((UF.eq l).tS)))::(30,.s (SF.imp ((zAy (at_ ps i) (at_ ps k)==0)=false) ((uI (k:Int)).tS)))::(31,.s (SF.imp ((zAy (at_ ps i) (at_ ps k)==0)=false) ((uI (i:Int)).tS)))::(32,.s (SF.imp ((zAy (at_ ps i) (at_ ps k)==0)=false) ((uB (zAU ps k i)).tS)))::(33,.s (SF.imp ((zAy (at_ ps i) (at_ ps k)==0)=false) ((uB (!(zAU ps k i))).tS)))::(34,.u (uB ((zAy (at_ ps i) (at_ ps k)==0)||(!(zAU ps k i)))))::[]) s
     (oc zA<|oc zA<|oc (zO (z:=6) (Cs:=pvs 80 ps) (i:=i) (C:=CU.agg (fPV 80 (at_ ps i))) kA (qJ hi) (yM hl s) iiz)<|oc (zK 80 (at_ ps i))<|oc zA<|oc zA<|oc (zO (z:=6) (Cs:=pvs 80 ps) (i:=k) (C:=CU.agg (fPV 80 (at_ ps k))) kA (qJ h5) (yM hl s) iiz)<|oc (zK 80 (at_ ps k))<|oc (zH zC zWR (fun u0 u1 W hb (h0:(fPV 80 (at_ ps i)).p u0 W) (h1:(fPV 80 (at_ ps k)).p u1 W)=>zLf (m:=80) h0 h1 dA dA))<|oc zA<|oc (zE 28 (zAy (at_ ps i) (at_ ps k)==0) kA iiz (fun e=>z5 [] ((UF.eq l).tS) fnz fO kA zA) fN)<|oc (zE 28 (zAy (at_ ps i) (at_ ps k)==0) kA iiz (fun e=>z5 [] ((uI (k:Int)).tS) fnz fO kA zA) fN)<|oc (zE 28 (zAy (at_ ps i) (at_ ps k)==0) kA iiz (fun e=>z5 [] ((uI (i:Int)).tS) fnz fO kA zA) fN)<|oc (zE 28 (zAy (at_ ps i) (at_ ps k)==0) kA iiz (fun e=>z5 [(29,(UF.eq l).tS),(30,(uI (k:Int)).tS),(31,(uI (i:Int)).tS)] ((uB (zAU ps k i)).tS) (fU (fun v W h=>zN (c:=(zAy (at_ ps i) (at_ ps k)==0)=false) (f:=(UF.eq l).tS) e h)<|fU (fun v W h=>zN (c:=(zAy (at_ ps i) (at_ ps k)==0)=false) (f:=(uI (k:Int)).tS) e h)<|fU (fun v W h=>zN (c:=(zAy (at_ ps i) (at_ ps k)==0)=false) (f:=(uI (i:Int)).tS) e h) fnz) fO kA (jG zC zYE (fun u0 u1 u2 W hb (h0:u0=l) (h1:u1=.int .i64 (k:Int)) (h2:u2=.int .i64 (i:Int))=>zMq (ps:=ps) (k:=k) (i:=i) (zCw hl h0 (s.up hb)) h1 h2 U hi hn h3 O))) fN)<|oc (zE 28 (zAy (at_ ps i) (at_ ps k)==0) kA iiz (fun e=>z5 [(32,(uB (zAU ps k i)).tS)] ((uB (!(zAU ps k i))).tS) (fU (fun v W h=>zN (c:=(zAy (at_ ps i) (at_ ps k)==0)=false) (f:=(uB (zAU ps k i)).tS) e h) fnz) fO kA (zFd (zAU ps k i) iiz (fun _=>rfl))) fN)<|oc (yC (zAy (at_ ps i) (at_ ps k)==0) iiz (fun e v W h=>zHP h e) (fun e v W h=>zFy (zN e h) e))<|zB) fun a w8 s=>StS.cond s ((zAy (at_ ps i) (at_ ps k)==0)||(!(zAU ps k i))) iiz (fun e=>?_) (fun e=>?_)
    .refine lP ?_
     exact rgE ((2,.u (uB false))::[]) s
      (oc zF<|zB) fun a w9 s=>pS<|wF s (t:=2) rfl (fun v W h=>by rw[zTz hi U e];exact h)
    .refine pT ?_
     refine zV 2 ((17,.Z (uI (k:Int)))::(18,.u (uI ((k+1:Nat):Int)))::[]) s kA
      (oc zA<|oc (yB .i64 (k:Int) 1 ((k+1:Nat):Int) iiz iiz (wrap64 _ _ oA oA))<|zB) fun a w10 s=>?_
     replace s:=s.drop [4]
     exact yQ (uI ((k+1:Nat):Int)) rfl s kA iiz fun a w s=>zD rfl<|⟨k+1,⟨U,fun j I=>by rcases tX (zGJ I)with h|h;exact J.2 j h;rw[h];exact e⟩,(by show i-(k+1)<i-k;omega),s.keepK _ (fU mz4<|fU mz5<|fU (.head _) fnz)⟩
   .have U:k=i:=by have h7:=nF e;have h8:=J.1;omega
    refine tU<|zV 2 ((12,.Z (uI (i:Int)))::(13,.u (uI ((i+1:Nat):Int)))::[]) s kA
     (oc zA<|oc (yB .i64 (i:Int) 1 ((i+1:Nat):Int) iiz iiz (wrap64 _ _ oA oA))<|zB) fun a w11 s=>?_
    replace s:=s.drop [3]
    exact yQ (uI ((i+1:Nat):Int)) rfl s kA iiz fun a w s=>zD rfl<|⟨i+1,⟨hi,fun j k I U=>by rcases tX (zGJ I)with h|h;exact h9.2 j k h U;rw[h];exact J.2 k oA⟩,(by show ps.length-(i+1)<ps.length-i;omega),s.keepK _ (fU mz3<|fU (.head _) fnz)⟩
  .have hi:i=ps.length:=by have h7:=nF e;have h8:=J.1;simp at h7;omega
   exact tU<|rgQ ((2,.u (uB true))::[]) s
    (oc zF<|zB) fun a w12 s=>pS<|wF s (t:=2) rfl (fun v W h=>by rw[zQj h3 (fun j k I ha=>J.2 j k oA ha)];exact h)
theorem zXv{y:Rat}(h1:a.2<=y)(h2:y<b.2):∃X t:Rat,0<=t/\t<1/\(∀f:Aff,f.v (X,y)=f.v a*(1-t)+f.v b*t)/\∀x,crs a b (x,y)=(b.2-a.2)*(X-x):=by
 have I:0<b.2-a.2:=fF
 have e:(y-a.2)/(b.2-a.2)*(b.2-a.2)=y-a.2:=rJ fF
 generalize(y-a.2)/(b.2-a.2)=t at e
 have O:0<=t:=by
  apply rC
  intro J
  have:=rB (show 0< -t from fF) I
  grind
 have t1:t<1:=by
  apply rC
  intro J
  have:=rD (show 0<=t-1 from fF) (rE I)
  grind
 refine⟨a.1+(b.1-a.1)*t,t,O,t1,fun f=>?_,fun x=>?_⟩
 .have U:y=a.2+(b.2-a.2)*t:=fF
  unfold Aff.v
  simp only
  rw[U]
  grind
 .unfold crs
  simp only
  have:(b.1-a.1)*(y-a.2)=(b.1-a.1)*t*(b.2-a.2):=by rw[<-e];grind
  rw[this]
  grind
theorem zZe{u v t:Rat}(I:0<=u)(J:0<=v)(h0:0<=t)(h1:t<=1):0<=u*(1-t)+v*t:=by
 have k1:=rD I (show 0<=1-t from fF)
 have k2:=rD J h0
 grind
def nx(l:List V2)(k:Nat):Nat:=(k+1)%l.length
theorem zBE:(yP a b p=1)↔0<crs a b p:=by
 unfold yP
 have h:=@rY (crs a b p)
 have I:=@tY (crs a b p)
 rw[Int.sign_eq_one_iff_pos]
 constructor
 .intro k
  have J:=h.1 oA
  have O:crs a b p≠0:=fun e=>by have:=I.2 e;omega
  grind
 .intro k
  have J:=h.2 (rE k)
  have O:(crs a b p).num≠0:=fun e=>by have:=I.1 e;grind
  omega
theorem zA7:(yP a b p=0)↔crs a b p=0:=by
 unfold yP
 rw[sK,tY]
theorem qle{p q:Rat}:qsg p q<=0↔p<=q:=by
 rcases zEU p q with e|e|e
 .rw[e];exact⟨fun _=>rE (zI6.1 e),fun _=>fH⟩
 .rw[e];exact⟨fun _=>by rw[zCS.1 e];exact rI,fun _=>fH⟩
 .rw[e];exact⟨fun h=>absurd h dA,fun h=>absurd (zG0.1 e) (Rat.not_lt.2 h)⟩
theorem qlt{p q:Rat}:qsg p q<0↔p<q:=by
 rcases zEU p q with e|e|e
 .rw[e];exact⟨fun _=>zI6.1 e,fun _=>fH⟩
 .rw[e];exact⟨fun h=>absurd h dA,fun h=>by rw[zCS.1 e]at h;exact absurd h (Rat.lt_irrefl)⟩
 .rw[e];exact⟨fun h=>absurd h dA,fun h=>absurd (zG0.1 e) (Rat.not_lt.2 (rE h))⟩
theorem qgt{p q:Rat}:qsg p q>0↔q<p:=by
 have:=qlt (p:=q) (q:=p)
 rw[zJ6 p q]at this
 exact⟨fun h=>this.1 oA,fun h=>by have:=this.2 h;omega⟩
theorem zLT:zUR a b p=true↔a.2<=p.2/\p.2<b.2/\0<crs a b p:=by
 unfold zUR
 rw[xW,xW,tZ,tZ,qle,qlt,bC,zBE]
 exact⟨fun⟨⟨a,b⟩,c⟩=>⟨a,b,c⟩,fun⟨a,b,c⟩=>⟨⟨a,b⟩,c⟩⟩
theorem zPr{a b p:V2}:zEG a b p=true↔(a.2<=p.2/\p.2<b.2/\0<crs a b p)∨(b.2<=p.2/\p.2<a.2/\crs a b p<0):=by
 have J:crs b a p= - crs a b p:=by unfold crs;grind
 unfold zEG
 split
 .rename_i h
  have:=qgt.1 h
  rw[zLT,J]
  exact⟨fun⟨I,h2,h3⟩=>.inr ⟨I,h2,fF⟩,fun h=>by
   rcases h with⟨I,h2,h3⟩|⟨I,h2,h3⟩
   .exfalso;grind
   .exact⟨I,h2,fF⟩⟩
 .rename_i h
  have: ¬b.2<a.2:=fun k=>h (qgt.2 k)
  rw[zLT]
  exact⟨fun h=>.inl h,fun h=>by
   rcases h with h|⟨I,h2,h3⟩
   .exact h
   .exfalso;grind⟩
theorem zPs{a b:Rat}(h:zUS a b r=true):(a<=r/\r<=b)∨(b<=r/\r<=a):=by
 unfold zUS zXW at h
 rw[xW,tZ]at h
 obtain⟨I,h2⟩:=h
 rcases zEU a r with e|e|e
 .have k:=zI6.1 e
  rw[e]at I
  have:qsg r b<=0:=oA
  exact .inl ⟨rE k,qle.1 this⟩
 .have k:=zCS.1 e
  rw[k]
  rcases(rM:r<=b∨b<=r)with q|q
  .exact .inl ⟨rI,q⟩
  .exact .inr ⟨q,rI⟩
 .have k:=zG0.1 e
  rw[e]at I
  have h1':0<=qsg r b:=oA
  have:b<=r:=by
   rcases zEU r b with q|q|q
   .omega
   .rw[zCS.1 q];exact rI
   .exact rE (zG0.1 q)
  exact .inr ⟨this,rE k⟩
theorem zXZ(J:a≠b)(h:onB a b p=true):OnE a b p:=by
 unfold onB at h
 rw[xW,xW,bC,zA7]at h
 obtain⟨⟨h0,h1⟩,h2⟩:=h
 have c1:=zPs h1
 have c2:=zPs h2
 have I:∀{d e n:Rat},d≠0->((0<=e/\e<=d)∨(d<=e/\e<=0))->∃t:Rat,0<=t/\t<=1/\d*t=e:=fun {d e n} hd hb=>by
  have q:e/d*d=e:=rJ hd
  generalize e/d=t at q
  refine⟨t,?_,?_,fF⟩
  .apply rC
   intro hx
   rcases(rM:0<=d∨d<=0)with k|k
   .have:=rB (show 0< -t from fF) (show 0<d from fF);grind
   .have:=rB (show 0< -t from fF) (show 0< -d from fF);grind
  .apply rC
   intro hx
   rcases(rM:0<=d∨d<=0)with k|k
   .have:=rB (show 0<t-1 from fF) (show 0<d from fF);grind
   .have:=rB (show 0<t-1 from fF) (show 0< -d from fF);grind
 unfold crs at h0
 by_cases e:b.1-a.1=0
 .have e2:b.2-a.2≠0:=fun e2=>J (rF fF fF)
  obtain⟨t,O,U,t2⟩:=I (d:=b.2-a.2) (e:=p.2-a.2) (n:=0) e2 fF
  exact⟨t,O,U,rF (by show p.1=_;grind) (by show p.2=_;grind)⟩
 .obtain⟨t,O,U,t2⟩:=I (d:=b.1-a.1) (e:=p.1-a.1) (n:=0) e fF
  refine⟨t,O,U,rF (by show p.1=_;grind) ?_⟩
  show p.2=a.2+(b.2-a.2)*t
  rw[<-t2]at h0
  have:(b.1-a.1)*((p.2-a.2)-(b.2-a.2)*t)=0:=fF
  rcases rH.1 this with k|k
  .exact absurd k e
  .grind
theorem zXY(h:OnE a b p):onB a b p=true:=by
 obtain⟨t,I,J,rfl⟩:=h
 exact zV7 I J
theorem zV9(h0:crs a b p=0)(h1:zIx (p.1-a.1,p.2-a.2) (p.1-b.1,p.2-b.2)<=0):onS a b p=true:=by
 unfold onS
 rw[if_neg (by rw[h0];decide)]
 refine lH ?_
 have h:=@rY (zIx (p.1-a.1,p.2-a.2) (p.1-b.1,p.2-b.2))
 have h0:=@tY (zIx (p.1-a.1,p.2-a.2) (p.1-b.1,p.2-b.2))
 generalize zIx (p.1-a.1,p.2-a.2) (p.1-b.1,p.2-b.2)=q at*
 rcases nU q.num 0 with k|k|k
 .rw[nS k];decide
 .rw[k];decide
 .exfalso
  have k1:=h.1 oA
  have:q=0:=fF
  have:=h0.2 this
  omega
theorem zGG(h:OnE a b p):onS a b p=true:=by
 refine zV9 h.crs ?_
 obtain⟨t,O,t1,rfl⟩:=h
 have J:=rD O (show 0<=1-t from fF)
 have I:∀x:Rat,0<=x*x:=fun x=>by
  rcases(rM:0<=x∨x<=0)with k|k
  .exact rD k k
  .have:=rD (show 0<=-x from fF) (show 0<=-x from fF);grind
 have k2:=rD J (show 0<=(b.1-a.1)*(b.1-a.1)+(b.2-a.2)*(b.2-a.2) by have:=I (b.1-a.1);have:=I (b.2-a.2);grind)
 unfold zIx
 simp only
 grind
theorem zUj(a b:V2):OnE a b a:=⟨0,fH,fH,rF (by show a.1=a.1+(b.1-a.1)*0;grind) (by show a.2=a.2+(b.2-a.2)*0;grind)⟩
theorem zWa(a b:V2):OnE a b b:=⟨1,fH,fH,rF (by show b.1=a.1+(b.1-a.1)*1;grind) (by show b.2=a.2+(b.2-a.2)*1;grind)⟩
theorem zUa:L≠ []->zF7 L p≠ []:=fun h=>by
 unfold zF7
 split
 .exact h
 .simp
theorem zQW(L:List V2)(p:V2):zF7 L p≠ []:=by
 unfold zF7
 split
 .rename_i h
  rw[xW,tZ]at h
  intro e
  rw[e]at h
  exact absurd h.1 fC
 .simp
theorem zO7{a b c d:V2}:∀(n i:Nat),i<n->(onS a b (at_ [a,b,c,d] i)&&onS c d (at_ [a,b,c,d] i))=true->yR a b c d n≠ []
 | n+1,i,hi,h=>by
  show(if _ then _ else _)≠ []
  by_cases e:i=n
  .subst e
   rw[if_pos h]
   exact zQW _ _
  .have I:=zO7 n i oA h
   split
   .exact zUa I
   .exact I
theorem zQo{c:V2}(he:a≠b)(I:zBR a b c d=0){z:V2}(h1:OnE a b z)(h2:OnE c d z):False:=by
 have h8:(pns (yR a b c d 4)).length=(yR a b c d 4).length:=by simp[pns]
 unfold zBR at I
 rw[h8]at I
 have h7: ¬(((yR a b c d 4).length:Int)≥2):=fun e=>by rw[if_pos e]at I;exact absurd I dA
 rw[if_neg h7]at I
 have U: ¬(((yR a b c d 4).length:Int)==1)=true:=fun e=>by rw[if_pos e]at I;exact absurd I dA
 rw[if_neg U]at I
 have hp: ¬((!(decide (dnm a b c d=0))&&onS a b (qA a b c d))&&onS c d (qA a b c d))=true:=fun e=>by rw[if_pos e]at I;exact absurd I dA
 have O:yR a b c d 4=[]:=by
  rw[bC]at U
  exact xN oA
 have no:∀i,i<4-> ¬(OnE a b (at_ [a,b,c,d] i)/\OnE c d (at_ [a,b,c,d] i)):=fun i hi ⟨k1,k2⟩=>zO7 4 i hi (by rw[zGG k1,zGG k2];rfl) O
 have hz:=h2.crs
 by_cases hd:dnm a b c d=0
 .-- on one line
  have na:=no 0 oA
  have nb:=no 1 oA
  have nc:=no 2 oA
  have h5:=no 3 oA
  have ha: ¬OnE c d a:=fun k=>na ⟨zUj a b,k⟩
  have nb': ¬OnE c d b:=fun k=>nb ⟨zWa a b,k⟩
  have h6: ¬OnE a b c:=fun k=>nc ⟨k,zUj c d⟩
  have hl: ¬OnE a b d:=fun k=>h5 ⟨k,zWa c d⟩
  obtain⟨t,t0,t1,e1⟩:=h1
  obtain⟨s,s0,s1,e2⟩:=h2
  have u0:((b.1-a.1,b.2-a.2):V2)≠(0,0):=fun e=>he (by
   have q1:=vR Prod.fst e
   have q2:=vR Prod.snd e
   simp only at q1 q2
   exact rF fF fF)
  have hN:=zVz u0
  simp only at hN
  generalize hN':(b.1-a.1)*(b.1-a.1)+(b.2-a.2)*(b.2-a.2)=N at hN
  -- places on the line, in parts of a-b
  have zx:z.1=a.1+(b.1-a.1)*t:=by rw[e1]
  have zy:z.2=a.2+(b.2-a.2)*t:=by rw[e1]
  have h9:z.1=c.1+(d.1-c.1)*s:=by rw[e2]
  have hg:z.2=c.2+(d.2-c.2)*s:=by rw[e2]
  unfold dnm at hd
  -- d-c is along b-a
  have hf:∃m:Rat,d.1-c.1=(b.1-a.1)*m/\d.2-c.2=(b.2-a.2)*m:=by
   have q:((d.1-c.1)*(b.1-a.1)+(d.2-c.2)*(b.2-a.2))/N*N=(d.1-c.1)*(b.1-a.1)+(d.2-c.2)*(b.2-a.2):=rJ fF
   generalize((d.1-c.1)*(b.1-a.1)+(d.2-c.2)*(b.2-a.2))/N=m at q
   have J:∀{x:Rat},x*N=0->x=0:=fun {x} hx=>by
    rcases rH.1 hx with k|k
    .exact k
    .grind
   refine⟨m,?_,?_⟩
   .have:(d.1-c.1-(b.1-a.1)*m)*N=0:=by
     have e:(b.1-a.1)*m*N=(b.1-a.1)*((d.1-c.1)*(b.1-a.1)+(d.2-c.2)*(b.2-a.2)):=by rw[<-q];grind
     have:(d.1-c.1-(b.1-a.1)*m)*N=(d.1-c.1)*N-(b.1-a.1)*m*N:=fF
     rw[this,e,<-hN']
     grind
    have:=J this
    grind
   .have:(d.2-c.2-(b.2-a.2)*m)*N=0:=by
     have e:(b.2-a.2)*m*N=(b.2-a.2)*((d.1-c.1)*(b.1-a.1)+(d.2-c.2)*(b.2-a.2)):=by rw[<-q];grind
     have:(d.2-c.2-(b.2-a.2)*m)*N=(d.2-c.2)*N-(b.2-a.2)*m*N:=fF
     rw[this,e,<-hN']
     grind
    have:=J this
    grind
  obtain⟨m,m1,m2⟩:=hf
  -- c at t-m s, d at t + m (1-s)
  have cx:c.1=a.1+(b.1-a.1)*(t-m*s):=by rw[m1]at h9;grind
  have cy:c.2=a.2+(b.2-a.2)*(t-m*s):=by rw[m2]at hg;grind
  have dx:d.1=a.1+(b.1-a.1)*(t-m*s+m):=fF
  have dy:d.2=a.2+(b.2-a.2)*(t-m*s+m):=fF
  have kc: ¬(0<=t-m*s/\t-m*s<=1):=fun k=>h6 ⟨_,k.1,k.2,rF cx cy⟩
  have kd: ¬(0<=t-m*s+m/\t-m*s+m<=1):=fun k=>hl ⟨_,k.1,k.2,rF dx dy⟩
  -- a at the part r of c-d
  have hj:∀x:Rat,((t-m*s<=x/\x<=t-m*s+m)∨(t-m*s+m<=x/\x<=t-m*s))->OnE c d (a.1+(b.1-a.1)*x,a.2+(b.2-a.2)*x):=fun x hx=>by
   by_cases hm:m=0
   .have:x=t-m*s:=by subst hm;grind
    rw[this]
    have:=zUj c d
    rwa [show c=(a.1+(b.1-a.1)*(t-m*s),a.2+(b.2-a.2)*(t-m*s))from rF cx cy]at this ⊢
   .have q:(x-(t-m*s))/m*m=x-(t-m*s):=rJ hm
    generalize(x-(t-m*s))/m=r at q
    refine⟨r,?_,?_,rF (by show _=c.1+(d.1-c.1)*r;rw[m1,cx];grind) (by show _=c.2+(d.2-c.2)*r;rw[m2,cy];grind)⟩
    .apply rC
     intro hr
     rcases(rM:0<=m∨m<=0)with k|k
     .have:=rB (show 0< -r from fF) (show 0<m from fF);grind
     .have:=rB (show 0< -r from fF) (show 0< -m from fF);grind
    .apply rC
     intro hr
     rcases(rM:0<=m∨m<=0)with k|k
     .have:=rB (show 0<r-1 from fF) (show 0<m from fF);grind
     .have:=rB (show 0<r-1 from fF) (show 0< -m from fF);grind
  have onxa: ¬((t-m*s<=0/\0<=t-m*s+m)∨(t-m*s+m<=0/\0<=t-m*s)):=fun k=>ha (by
   have:=hj 0 k
   rwa [show((a.1+(b.1-a.1)*0,a.2+(b.2-a.2)*0):V2)=a from rF (by show a.1+_*0=a.1;grind) (by show a.2+_*0=a.2;grind)]at this)
  -- t lies between the two
  have bt:(t-m*s<=t/\t<=t-m*s+m)∨(t-m*s+m<=t/\t<=t-m*s):=by
   rcases(rM:0<=m∨m<=0)with k|k
   .have:=rD k s0
    have:=rD k (show 0<=1-s from fF)
    exact .inl ⟨fF,fF⟩
   .have:=rD (show 0<=-m from fF) s0
    have:=rD (show 0<=-m from fF) (show 0<=1-s from fF)
    exact .inr ⟨fF,fF⟩
  generalize t-m*s=x at*
  generalize x+m=y at*
  grind
 .-- the lines' one point
  obtain⟨t,t0,t1,e1⟩:=h1
  have e3:crs c d (seg a b t)=tnm a c d-t*dnm a b c d:=by
   unfold crs seg tnm dnm
   grind
  have e4:z=seg a b t:=e1
  rw[e4,e3]at hz
  have et:tnm a c d/dnm a b c d=t:=by
   rw[show tnm a c d=t*dnm a b c d from fF]
   rw[rV,Rat.mul_assoc,Rat.mul_inv_cancel _ hd,Rat.mul_one]
  have ez:qA a b c d=z:=by
   unfold qA
   rw[if_neg hd,et,e4]
  refine hp ?_
  rw[ez,zGG ⟨t,t0,t1,e1⟩,zGG h2,xZ hd]
  rfl
theorem zLV(h:p=q):(zAy p q==0)=true:=by
 subst h
 unfold zAy
 rw[if_pos (zCS.2 rfl),zCS.2 rfl]
 rfl
def zA1(l:List V2)(i:Nat):V6:=(at_ l ((i+l.length-1)%l.length),at_ l i,at_ l ((i+1)%l.length))
def zBm(t:V6):Int:=yP t.1 t.2.1 t.2.2
def zBi(t:V6)(p:V2):Int:=min (yP t.2.2 t.1 p) (min (yP t.2.1 t.2.2 p) (min (yP t.1 t.2.1 p) 1))
def zCF(l:List V2)(i:Nat):Nat:=(i+l.length-1)%l.length
def zD9(l:List V2)(i:Nat):Nat:=(i+1)%l.length
def zSV(l:List V2)(i k:Nat):Bool:=decide (k=i)||decide (k=zCF l i)||decide (k=zD9 l i)||decide (zBi (zA1 l i) (at_ l k)<0)
def zKu(l:List V2)(i:Nat):Bool:=(zBm (zA1 l i)==1)&&(List.range l.length).all (zSV l i)
def zGK(l:List V2):Option Nat:=(List.range l.length).find? fun i=>zBm (zA1 l i)==0
def zRF(l:List V2):Option Nat:=(List.range l.length).find? (zKu l)
def zEx(l:List V2):List V6:=if l.length=3/\zBm (at_ l 0,at_ l 1,at_ l 2)=1 then[(at_ l 0,at_ l 1,at_ l 2)]else[]
def zIy:Nat->List V2->Option (List V6)
 |0,_=>none
 | n+1,l=>if l.length<=3 then some (zEx l)else
  match zGK l with
  |some i=>zIy n (l.eraseIdx i)
  |none=>match zRF l with
   |some i=>(zIy n (l.eraseIdx i)).map (zA1 l i::·)
   |none=>none
theorem zEP{x:Rat}:x.num.sign<0↔x<0:=by
 have h:=@rY x
 have e:x.num.sign<0↔x.num<0:=by
  rcases nU x.num 0 with k|k|k
  .rw[nS k];exact⟨fun _=>k,fun _=>fH⟩
  .rw[k];decide
  .rw[nT k];exact⟨fun q=>absurd q dA,fun q=>oA⟩
 rw[e,<-Int.not_le,h,Rat.not_le]
theorem zFY:yP a b p<0↔crs a b p<0:=zEP
theorem zBT(a b p:V2):yP a b p= -1∨yP a b p=0∨yP a b p=1:=by
 unfold yP
 rcases Int.sign_trichotomy (crs a b p).num with h|h|h
 .exact .inr (.inr h)
 .exact .inr (.inl h)
 .exact .inl h
theorem zD2{t:V6}{p:V2}:zBi t p<0↔crs t.1 t.2.1 p<0∨crs t.2.1 t.2.2 p<0∨crs t.2.2 t.1 p<0:=by
 unfold zBi
 rw[<-zFY,<-zFY,<-zFY]
 omega
theorem zGp{t:V6}{p:V2}:zBi t p=1↔0<crs t.1 t.2.1 p/\0<crs t.2.1 t.2.2 p/\0<crs t.2.2 t.1 p:=by
 unfold zBi
 rw[<-zBE,<-zBE,<-zBE]
 have:=zBT t.1 t.2.1 p;have:=zBT t.2.1 t.2.2 p;have:=zBT t.2.2 t.1 p
 omega
theorem zFH:zBi t p=0↔(0<=crs t.1 t.2.1 p/\0<=crs t.2.1 t.2.2 p/\0<=crs t.2.2 t.1 p)/\(crs t.1 t.2.1 p=0∨crs t.2.1 t.2.2 p=0∨crs t.2.2 t.1 p=0):=by
 have J:=@zD2 t p;have h2:=@zGp t p
 have h3:zBi t p= -1∨zBi t p=0∨zBi t p=1:=by
  unfold zBi
  have:=zBT t.1 t.2.1 p;have:=zBT t.2.1 t.2.2 p;have:=zBT t.2.2 t.1 p
  omega
 constructor
 .intro h
  have O: ¬zBi t p<0:=oA
  have I: ¬zBi t p=1:=oA
  rw[J]at O;rw[h2]at I
  grind
 .rintro⟨⟨k1,k2,k3⟩,k4⟩
  have O: ¬zBi t p<0:=by rw[J];grind
  have I: ¬zBi t p=1:=by rw[h2];grind
  omega
theorem zGo(t:V6)(p:V2):zBi t p= -1∨zBi t p=0∨zBi t p=1:=by
 unfold zBi
 have:=zBT t.1 t.2.1 p;have:=zBT t.2.1 t.2.2 p;have:=zBT t.2.2 t.1 p
 omega
theorem zU4(L:List V2)(a:V2):at_ (L++ [a]) L.length=a:=by
 unfold at_
 rw[rG]
 simp
theorem zEk(h3:3<=l.length){i:Nat}(hi:i<l.length):∃X Y b c a,l=X++at_ l i::Y/\Y++X=b::(c++ [a])/\zA1 l i=(a,at_ l i,b)/\l.eraseIdx i=X++Y/\c.length+3=l.length:=by
 have e0:at_ l i=l[i]:=by unfold at_;rw[rG,nE hi];rfl
 have U:l.drop i=l[i]::l.drop (i+1):=List.drop_eq_getElem_cons hi
 have el:l=l.take i++at_ l i::l.drop (i+1):=by rw[e0,<-U,gB]
 have I:(l.drop (i+1)++l.take i).length=l.length-1:=fM
 cases hm:l.drop (i+1)++l.take i with
 |nil=>rw[hm]at I;simp at I;omega
 | cons b m=>
  rcases sG m with rfl|⟨c,a,rfl⟩
  .rw[hm]at I;simp at I;omega
  .have J:c.length+3=l.length:=by rw[hm]at I;simp at I;omega
   have hr:zFb l i=at_ l i::b::(c++ [a]):=by
    unfold zFb
    rw[U,e0,mM,hm,sQ]
   have O:=zPB hi (i:=1) oA
   have r2:=zPB hi (i:=l.length-1) oA
   rw[hr]at O r2
   refine⟨l.take i,l.drop (i+1),b,c,a,el,by rw[hm,sQ],?_,zZ1 l i,J⟩
   unfold zA1
   refine rF ?_ (rF rfl ?_)
   .show at_ l ((i+l.length-1)%l.length)=a
    rw[show i+l.length-1=l.length-1+i from oA,<-r2]
    rw[show l.length-1=(at_ l i::b::c).length from fM]
    rw[show at_ l i::b::(c++ [a])=(at_ l i::b::c)++ [a]from fG]
    exact zU4 _ a
   .show at_ l ((i+1)%l.length)=b
    rw[gO i 1,<-O]
    rfl
theorem PO.at{X Y:List V2}{v:V2}{c:List V2}(h:PO (X++v::Y))(e:Y++X=b::(c++ [a])):PO (v::b::(c++ [a])):=by
 have:=h.rot
 rw[mM,e]at this
 exact this
theorem zSU(h:PO l){i:Nat}(hi:i<l.length)(O:zKu l i=true):EarP l (zA1 l i).1 (at_ l i) (zA1 l i).2.2:=by
 have h3:=h.sim.three
 obtain⟨X,Y,b,c,a,el,em,I,_,_⟩:=zEk h3 hi
 unfold zKu at O
 rw[xW,bC,xT]at O
 obtain⟨U,h2⟩:=O
 have J:=jQ X (at_ l i::Y)
 rw[<-el,mM,em]at J
 rw[I]at U ⊢
 refine⟨J.mem_iff.1 jN.1,J.mem_iff.1 jN.2,zBE.1 U,fun u hu ua uv ub=>?_⟩
 obtain⟨k,hk,rfl⟩:=zFg hu
 have:=h2 k (xU.2 hk)
 unfold zSV at this
 have k1:k≠i:=fun e=>uv (by rw[e])
 have k2:k≠zCF l i:=fun e=>ua (by rw[e];exact vR (·.1) I)
 have k3:k≠zD9 l i:=fun e=>ub (by rw[e];exact vR (·.2.2) I)
 rw[xZ k1,xZ k2,xZ k3,cS,cS,cS,bY,zD2,I]at this
 exact this
theorem zST(h:PO l){i:Nat}(hi:i<l.length){a b:V2}(O:EarP l a (at_ l i) b):zKu l i=true:=by
 have h3:=h.sim.three
 obtain⟨X,Y,b',c,a',el,em,J,_,_⟩:=zEk h3 hi
 have U:=jQ X (at_ l i::Y)
 rw[<-el,mM,em]at U
 have ea:a=a':=vR Prod.fst (h.sim.snd O.i (U.mem_iff.1 jN.1) rfl)
 have eb:b=b':=vR Prod.snd (h.sim.fst O.o (U.mem_iff.1 jN.2) rfl)
 subst ea eb
 unfold zKu
 rw[xW,bC,xT,J]
 refine⟨zBE.2 O.pos,fun k I=>?_⟩
 have I:=xU.1 I
 unfold zSV
 have hb:zCF l i<l.length:=vY _ oA
 have hh:zD9 l i<l.length:=vY _ oA
 have e1:at_ l (zCF l i)=a:=vR (·.1) J
 have e2:at_ l (zD9 l i)=b:=vR (·.2.2) J
 by_cases k1:k=i
 .simp[k1]
 .by_cases k2:k=zCF l i
  .simp[k2]
  .by_cases k3:k=zD9 l i
   .simp[k3]
   .have:zBi (zA1 l i) (at_ l k)<0:=by
     rw[zD2,J]
     exact O.out _ (jZ I) (fun e=>k2 (zL2 h.sim.nod I hb (e.trans e1.symm))) (fun e=>k1 (zL2 h.sim.nod I hi e)) (fun e=>k3 (zL2 h.sim.nod I hh (e.trans e2.symm)))
    simp[this]
theorem zEe{E F:List (V2×V2)}(h:E.Perm F)(g:V2×V2->Rat):(E.map g).sum=(F.map g).sum:=by
 induction h with
 |nil=>rfl
 |cons x _ ih=>simp[ih]
 |swap x y l=>simp only[xY,nG];grind
 |trans _ _ ih1 ih2=>exact ih1.trans ih2
def crd(e:V2×V2):Rat:=e.1.1*e.2.2-e.1.2*e.2.1
def arE(l:List V2):Rat:=((eds l).map crd).sum
theorem zL3(v b a:V2)(c:List V2):arE (v::b::(c++ [a]))=arE (b::(c++ [a]))+crs a v b:=by
 unfold arE
 rw[zAg,qF]
 simp only[xY,rQ,bP,nG,sD,nN]
 unfold crd crs
 simp only
 grind
def zD8(l:List V2)(u:V2):Prop:=∃p q,(p,u)∈eds l/\(u,q)∈eds l/\crs p u q=0
open Classical in
noncomputable def flN(l:List V2):Nat:=l.countP fun u=>decide (zD8 l u)
theorem zD8.perm(h:(eds l).Perm (eds l')){u:V2}:zD8 l u↔zD8 l' u:=by
 unfold zD8
 simp only[h.mem_iff]
theorem zFI(I:l.Perm l')(h:(eds l).Perm (eds l')):flN l=flN l':=by
 unfold flN
 rw[I.countP_eq]
 congr 1
 funext u
 rw[rR]
 exact zD8.perm h
theorem zJx{v:V2}{c:List V2}(h:Sim (v::b::(c++ [a])))(h0:crs a v b=0):flN (v::b::(c++ [a]))<=flN (b::(c++ [a]))+1:=by
 have h1:((a,v):V2×V2)∈eds (v::b::(c++ [a])):=jN.1
 have h2:((v,b):V2×V2)∈eds (v::b::(c++ [a])):=jN.2
 obtain⟨t,t0,t1,hv⟩:=h.turns h1 h2 h0
 have v1:v.1=a.1+(b.1-a.1)*t:=by rw[hv];rfl
 have v2:v.2=a.2+(b.2-a.2)*t:=by rw[hv];rfl
 unfold flN
 rw[zZ3]
 have keep:∀u,u∈b::(c++ [a])->zD8 (v::b::(c++ [a])) u->zD8 (b::(c++ [a])) u:=by
  rintro u hu ⟨p,q,O,hq,h7⟩
  have uv:u≠v:=fun e=>(bU.1 h.nod).1 (by rw[<-e];exact hu)
  rw[zAg]at O hq
  have ei:∃I,(I,u)∈eds (b::(c++ [a]))/\(crs p u q=0->crs I u q=0):=by
   rcases xS.1 O with k|k
   .have e1:p=v:=vR Prod.fst k
    have e2:u=b:=vR Prod.snd k
    subst e1 e2
    refine⟨a,by rw[qF];simp,fun J=>?_⟩
    have:crs p u q=(1-t)*crs a u q:=by unfold crs;rw[v1,v2];grind
    rw[J]at this
    rcases rH.1 this.symm with r|r
    .grind
    .exact r
   .rcases vW.1 k with k|k
    .exact⟨p,by rw[qF];simp[k],fun J=>J⟩
    .exact absurd (vR Prod.snd (show((p,u):V2×V2)=(a,v) by simpa using k)) uv
  obtain⟨I,U,h6⟩:=ei
  have J:=h6 h7
  rcases xS.1 hq with k|k
  .exact absurd (vR Prod.fst k) uv
  .rcases vW.1 k with k|k
   .exact⟨I,q,U,by rw[qF];simp[k],J⟩
   .have e1:u=a:=vR Prod.fst (show((u,q):V2×V2)=(a,v) by simpa using k)
    have e2:q=v:=vR Prod.snd (show((u,q):V2×V2)=(a,v) by simpa using k)
    subst e1 e2
    refine⟨I,b,U,by rw[qF];simp,?_⟩
    have:crs I u q=t*crs I u b:=by unfold crs;rw[v1,v2];grind
    rw[J]at this
    rcases rH.1 this.symm with r|r
    .grind
    .exact r
 have:=List.countP_mono_left (l:=b::(c++ [a])) (p:=fun u=>@decide (zD8 (v::b::(c++ [a])) u) (Classical.propDecidable _)) (q:=fun u=>@decide (zD8 (b::(c++ [a])) u) (Classical.propDecidable _)) (fun u hu O=>by
  simp only[bY]at O ⊢
  exact keep u hu O)
 have h5:(if(@decide (zD8 (v::b::(c++ [a])) v) (Classical.propDecidable _))=true then 1 else 0)<=1:=by split<;>omega
 omega
structure DoneS(l:List V2)(T:List V6):Prop where
 len:T.length+2+flN l<=l.length
 ne:0<T.length
 pos:∀t,t∈T->0<crs t.1 t.2.1 t.2.2
 cor:∀t,t∈T->t.1∈l/\t.2.1∈l/\t.2.2∈l
 area:(T.map fun t=>crs t.1 t.2.1 t.2.2).sum=arE l
theorem DoneS.perm{T:List V6}(h:DoneS l T)(I:l.Perm l')(J:(eds l).Perm (eds l')):DoneS l' T where
 len:=by rw[<-I.length_eq,<-zFI I J];exact h.len
 ne:=h.ne
 pos:=h.pos
 cor t ht:=by have:=h.cor t ht;exact⟨I.mem_iff.1 this.1,I.mem_iff.1 this.2.1,I.mem_iff.1 this.2.2⟩
 area:=by rw[h.area];exact zEe J _
theorem zKv{r:V2}(h:PO [p,q,r]):0<crs p q r/\DoneS [p,q,r] [(p,q,r)]:=by
 have hs:=h.sim
 have ee:eds [p,q,r]=zCV p q r:=rfl
 have hn:=hs.nod
 have h0:p≠q:=fun e=>by subst e;simp at hn
 have O:p≠r:=fun e=>by subst e;simp at hn
 have U:q≠r:=fun e=>by subst e;simp at hn
 have c1:crs q r p=crs p q r:=by unfold crs;grind
 have c2:crs r p q=crs p q r:=by unfold crs;grind
 have J:∀a v b,(a,v)∈zCV p q r->(v,b)∈zCV p q r->crs a v b=crs p q r:=by
  intro a v b h1 h2
  unfold zCV at h1 h2
  simp only[xS,tL,rL,rK]at h1 h2
  rcases h1 with⟨rfl,rfl⟩|⟨rfl,rfl⟩|⟨rfl,rfl⟩<;>rcases h2 with⟨I,k2⟩|⟨I,k2⟩|⟨I,k2⟩
  .exact absurd I.symm h0
  .rw[k2]
  .exact absurd I U
  .exact absurd I.symm O
  .exact absurd I.symm U
  .rw[k2,c1]
  .rw[k2,c2]
  .exact absurd I h0
  .exact absurd I O
 have hD:0<crs p q r:=by
  obtain⟨a,v,b,_,_,he⟩:=zG9 3 [p,q,r] fC h (p,q) (by rw[ee];simp[zCV])
  rw[<-J a v b (by rw[<-ee];exact he.i) (by rw[<-ee];exact he.o)]
  exact he.pos
 refine⟨hD,?_,fG,fun t ht=>?_,fun t ht=>?_,?_⟩
 .have:flN [p,q,r]=0:=by
   unfold flN
   rw[eS]
   intro u hu
   simp only[bY]
   rintro⟨x,y,hx,hy,hz⟩
   rw[J x u y hx hy]at hz
   grind
  simp[this]
 .obtain rfl:t=(p,q,r):=by simpa using ht
  exact hD
 .obtain rfl:t=(p,q,r):=by simpa using ht
  simp
 .unfold arE
  rw[ee]
  unfold zCV crd
  simp only[xY,bP,nG,nN]
  unfold crs
  grind
theorem zMH{v:V2}{c:List V2}(h:PO (v::b::(c++ [a])))(hc:c≠ [])(h0:crs a v b=0){T:List V6}(I:DoneS (b::(c++ [a])) T):DoneS (v::b::(c++ [a])) T:=by
 refine⟨?_,I.ne,I.pos,fun t ht=>?_,?_⟩
 .have:=I.len
  have:=zJx h.sim h0
  simp only[lU]at*
  omega
 .have:=I.cor t ht
  exact⟨.tail _ this.1,.tail _ this.2.1,.tail _ this.2.2⟩
 .rw[I.area,zL3,h0]
  grind
theorem zPp{v:V2}{c:List V2}(h:PO (v::b::(c++ [a])))(hc:c≠ [])(J:EarP (v::b::(c++ [a])) a v b)(hf:flN (v::b::(c++ [a]))=0){T:List V6}(I:DoneS (b::(c++ [a])) T):DoneS (v::b::(c++ [a])) ((a,v,b)::T):=by
 refine⟨?_,fG,fun t ht=>?_,fun t ht=>?_,?_⟩
 .have:=I.len
  simp only[lU]at*
  omega
 .rcases xS.1 ht with rfl|ht
  .exact J.pos
  .exact I.pos t ht
 .rcases xS.1 ht with rfl|ht
  .simp
  .have:=I.cor t ht
   exact⟨.tail _ this.1,.tail _ this.2.1,.tail _ this.2.2⟩
 .rw[xY,nG,I.area,zL3]
  grind
theorem zED:∀(n:Nat) (l:List V2),l.length<=n->PO l->∃T,zIy n l=some T/\DoneS l T
 |0,l,hn,h=>by have:=h.sim.three;omega
 | n+1,l,hn,h=>by
  have h3:=h.sim.three
  by_cases hl:l.length<=3
  .unfold zIy
   rw[if_pos hl]
   match l,h3,hl with
   | [p,q,r],_,_=>
    obtain⟨hD,hd⟩:=zKv h
    refine⟨_,rfl,?_⟩
    have:zEx [p,q,r]=[(p,q,r)]:=by
     unfold zEx
     rw[if_pos ⟨rfl,zBE.2 hD⟩]
     rfl
    rw[this]
    exact hd
  .unfold zIy
   rw[if_neg hl]
   cases hf:zGK l with
   |some i=>
    have hi:i<l.length:=xU.1 (tW hf)
    have ht:=zZ4 hf
    simp only[bC]at ht
    obtain⟨X,Y,b,c,a,el,O,et,ee,hc⟩:=zEk h3 hi
    have J:c≠ []:=fun e=>by rw[e]at hc;simp at hc;omega
    rw[et]at ht
    have h0:crs a (at_ l i) b=0:=zA7.1 ht
    have hP:PO (at_ l i::b::(c++ [a])):=PO.at (by rw[<-el];exact h) O
    have h6:PO (X++Y):=PO.rot (by rw[O];exact(hP.flat J h0).1)
    simp only
    rw[ee]
    obtain⟨T,e1,hT⟩:=zED n (X++Y) (by rw[<-ee,zZZ hi];omega) h6
    refine⟨T,e1,?_⟩
    have d1:DoneS (b::(c++ [a])) T:=by rw[<-O];exact hT.perm rO (jQ Y X)
    have d2:=zMH hP J h0 d1
    have hp:=jQ X (at_ l i::Y)
    have I:(X++at_ l i::Y).Perm (at_ l i::Y++X):=rO
    rw[<-el,mM,O]at hp I
    exact d2.perm I.symm hp
   | none=>
    have hv:∃i,i<l.length/\zKu l i=true:=by
     obtain⟨v0,hC⟩:∃v,v∈l:=by
      match l,h3 with
      |a::_,_=>exact⟨a,fG⟩
     obtain⟨x,y,h1,_⟩:=h.sim.at_corner hC
     obtain⟨a,v,b,_,_,U⟩:=zG9 l.length l lr h _ h1
     obtain⟨i,hi,e⟩:=zFg (zBj U.i).2
     have e':v=at_ l i:=e.symm
     rw[e']at U
     exact⟨i,hi,zST h hi U⟩
    cases hg:zRF l with
    |none=>
     obtain⟨i,hi,U⟩:=hv
     exact absurd U (by simpa using zCT.1 hg i (xU.2 hi))
    | some i=>
     have hi:i<l.length:=xU.1 (tW hg)
     have U:=zSU h hi (zZ4 hg)
     obtain⟨X,Y,b,c,a,el,O,et,ee,hc⟩:=zEk h3 hi
     have J:c≠ []:=fun e=>by rw[e]at hc;simp at hc;omega
     rw[et]at U
     have hp:=jQ X (at_ l i::Y)
     have I:(X++at_ l i::Y).Perm (at_ l i::Y++X):=rO
     rw[<-el,mM,O]at hp I
     have hP:PO (at_ l i::b::(c++ [a])):=PO.at (by rw[<-el];exact h) O
     have h8:=U.of_perm I hp.symm
     have h6:PO (X++Y):=PO.rot (by rw[O];exact(hP.cut J h8).1)
     simp only
     rw[ee]
     obtain⟨T,e1,hT⟩:=zED n (X++Y) (by rw[<-ee,zZZ hi];omega) h6
     refine⟨(a,at_ l i,b)::T,by rw[e1,et];rfl,?_⟩
     have d1:DoneS (b::(c++ [a])) T:=by rw[<-O];exact hT.perm rO (jQ Y X)
     have hq:flN l=0:=by
      unfold flN
      rw[eS]
      intro u hu
      simp only[bY]
      rintro⟨p,q,ho,hm,hz⟩
      obtain⟨j,hj,rfl⟩:=zFg hu
      obtain⟨X',Y',b',c',a',hA,hy,hs,_,_⟩:=zEk h3 hj
      have h5:=jQ X' (at_ l j::Y')
      rw[<-hA,mM,hy]at h5
      have ea:p=a':=vR Prod.fst (h.sim.snd ho (h5.mem_iff.1 jN.1) rfl)
      have eb:q=b':=vR Prod.snd (h.sim.fst hm (h5.mem_iff.1 jN.2) rfl)
      have:=zCT.1 hf j (xU.2 hj)
      rw[hs,<-ea,<-eb]at this
      exact this (by rw[bC];exact zA7.2 hz)
     have d2:=zPp hP J h8 (by rw[<-zFI I hp.symm];exact hq) d1
     exact d2.perm I.symm hp
theorem zZH(h:zAy p q=0):p=q:=by
 unfold zAy at h
 split at h
 .rename_i I;exact rF (zCS.1 I) (zCS.1 h)
 .rename_i I;exact absurd h I
theorem zUb(L:List V2)(p:V2):p∈zF7 L p:=by
 unfold zF7
 split
 .rename_i h
  rw[xW,tZ,bC]at h
  rw[<-zZH h.2]
  exact jZ h.1
 .simp
theorem zQV{x:V2}(h:x∈L):x∈zF7 L p:=by
 unfold zF7
 split
 .exact h
 .rw[<-gB (zN3 L p) L]at h
  rcases vW.1 h with k|k
  .simp[k]
  .simp[k]
theorem zKq{a b c d:V2}:∀(n i:Nat),i<n->(onS a b (at_ [a,b,c,d] i)&&onS c d (at_ [a,b,c,d] i))=true->at_ [a,b,c,d] i∈yR a b c d n
 | n+1,i,hi,h=>by
  by_cases e:i=n
  .subst e
   rw[zKr h]
   exact zUb _ _
  .have I:=zKq n i oA h
   cases hc:onS a b (at_ [a,b,c,d] n)&&onS c d (at_ [a,b,c,d] n)with
   |true=>rw[zKr hc];exact zQV I
   |false=>rw[zO8 hc];exact I
theorem zTi{x y:V2}(O:x∈L)(I:y∈L)(J:x≠y):2<=L.length:=by
 match L,O,I with
 | [z],O,I=>exact absurd ((tV.1 O).trans (tV.1 I).symm) J
 |_::_::_,_,_=>simp
theorem zHx{c:V2}(O:zBR a b c d=1){i j:Nat}(hi:i<4)(hj:j<4)(h1:OnE a b (at_ [a,b,c,d] i))(h2:OnE c d (at_ [a,b,c,d] i))(h3:OnE a b (at_ [a,b,c,d] j))(h4:OnE c d (at_ [a,b,c,d] j)):at_ [a,b,c,d] i=at_ [a,b,c,d] j:=by
 apply rC
 intro J
 have m1:=zKq 4 i hi (by rw[zGG h1,zGG h2];rfl)
 have U:=zKq 4 j hj (by rw[zGG h3,zGG h4];rfl)
 have hl:=zTi m1 U J
 have I:(pns (yR a b c d 4)).length=(yR a b c d 4).length:=by simp[pns]
 unfold zBR at O
 rw[I,if_pos oA]at O
 exact absurd O dA
theorem zWm{v z:V2}(h1:OnE a v z)(h2:OnE v b z)(hz:z≠v):OnE a v b∨OnE v b a:=by
 apply rC
 intro U
 obtain⟨t,t0,t1,e1⟩:=h1
 obtain⟨r,r0,r1,J⟩:=h2
 have x1:z.1=a.1+(v.1-a.1)*t:=by rw[e1]
 have x2:z.2=a.2+(v.2-a.2)*t:=by rw[e1]
 have y1:z.1=v.1+(b.1-v.1)*r:=by rw[J]
 have y2:z.2=v.2+(b.2-v.2)*r:=by rw[J]
 have hr:0<r:=by
  apply rC
  intro h
  have:r=0:=fF
  subst this
  exact hz (rF fF fF)
 have ht:t<1:=by
  apply rC
  intro h
  have:t=1:=fF
  subst this
  exact hz (rF fF fF)
 have c0:crs a v b=0:=by
  have:crs a v b*r=crs a v z:=by unfold crs;rw[y1,y2];grind
  have k:crs a v z=0:=by unfold crs;rw[x1,x2];grind
  rw[k]at this
  rcases rH.1 this with q|q<;>grind
 have c1:crs v b a=0:=by rw[<-c0];unfold crs;grind
 -- b-v and a-v point the same way
 have O:(b.1-v.1)*r=(a.1-v.1)*(1-t):=fF
 have q2:(b.2-v.2)*r=(a.2-v.2)*(1-t):=fF
 have n1:0<(b.1-a.1)*(b.1-v.1)+(b.2-a.2)*(b.2-v.2):=by
  apply rC
  intro h
  exact U (.inl (zGv c0 fF))
 have n2:0<(a.1-v.1)*(a.1-b.1)+(a.2-v.2)*(a.2-b.2):=by
  apply rC
  intro h
  exact U (.inr (zGv c1 fF))
 have s:0<1-t:=fF
 rcases(rM:r<=1-t∨1-t<=r)with k|k
 .-- a is nearer
  have m:=rB n2 hr
  have e:((a.1-v.1)*(a.1-b.1)+(a.2-v.2)*(a.2-b.2))*r= -(((1-t)-r)*((a.1-v.1)*(a.1-v.1)+(a.2-v.2)*(a.2-v.2))):=by
   have:((a.1-v.1)*(a.1-b.1)+(a.2-v.2)*(a.2-b.2))*r=(a.1-v.1)*((a.1-v.1)*r-(b.1-v.1)*r)+(a.2-v.2)*((a.2-v.2)*r-(b.2-v.2)*r):=fF
   rw[this,O,q2];grind
  have I:0<=(a.1-v.1)*(a.1-v.1)+(a.2-v.2)*(a.2-v.2):=by
   by_cases h:((a.1-v.1,a.2-v.2):V2)=(0,0)
   .have h1:=vR Prod.fst h;have h2:=vR Prod.snd h
    simp only at h1 h2
    rw[h1,h2];grind
   .exact rE (zDU h)
  have:=rD (show 0<=(1-t)-r from fF) I
  grind
 .have m:=rB n1 s
  have e:((b.1-a.1)*(b.1-v.1)+(b.2-a.2)*(b.2-v.2))*(1-t)= -((r-(1-t))*((b.1-v.1)*(b.1-v.1)+(b.2-v.2)*(b.2-v.2))):=by
   have:((b.1-a.1)*(b.1-v.1)+(b.2-a.2)*(b.2-v.2))*(1-t)=(b.1-v.1)*((b.1-v.1)*(1-t)-(a.1-v.1)*(1-t))+(b.2-v.2)*((b.2-v.2)*(1-t)-(a.2-v.2)*(1-t)):=fF
   rw[this,<-O,<-q2];grind
  have I:0<=(b.1-v.1)*(b.1-v.1)+(b.2-v.2)*(b.2-v.2):=by
   by_cases h:((b.1-v.1,b.2-v.2):V2)=(0,0)
   .have h1:=vR Prod.fst h;have h2:=vR Prod.snd h
    simp only at h1 h2
    rw[h1,h2];grind
   .exact rE (zDU h)
  have:=rD (show 0<=r-(1-t)from fF) I
  grind
theorem zTC{v:V2}(O:zBR a v v b=1)(J:a≠v)(I:v≠b){z:V2}(h1:OnE a v z)(h2:OnE v b z):z=v:=by
 apply rC
 intro U
 rcases zWm h1 h2 U with k|k
 .exact I (zHx O (i:=1) (j:=3) dA dA (zLy a v) (zHW v b) k (zLy v b))
 .exact J (zHx O (i:=0) (j:=1) dA dA (zHW a v) k (zLy a v) (zHW v b))
theorem zQn{v:V2}(O:zBR v b a v=1)(J:a≠v)(I:v≠b){z:V2}(h1:OnE v b z)(h2:OnE a v z):z=v:=by
 apply rC
 intro U
 rcases zWm h2 h1 U with k|k
 .exact I (zHx O (i:=0) (j:=1) dA dA (zHW v b) (zLy a v) (zLy v b) k)
 .exact J (zHx O (i:=2) (j:=3) dA dA k (zHW a v) (zHW v b) (zLy a v))
theorem zCC(l:List V2):eds l=(List.range l.length).map fun i=>(at_ l i,at_ l ((i+1)%l.length)):=by
 cases l with
 |nil=>rfl
 | cons a t=>
  refine gH ?_ fun i J h2=>?_
  .have:=vR List.length (zIq (a::t))
   simp only[bF]at this
   simp[this]
  .have I:i<(a::t).length:=by simpa using h2
   rw[tI,tJ]
   have U:(eds (a::t))[i].1=(a::t)[i]:=by
    have:=tI (l:=eds (a::t)) (f:=(·.1)) (i:=i) (h:=by rw[bF];exact J)
    rw[<-this]
    exact List.getElem_of_eq (zIq (a::t)) _
   have O:(eds (a::t))[i].2=(t++ [a])[i]'(by simp at I ⊢;omega):=by
    have:=tI (l:=eds (a::t)) (f:=(·.2)) (i:=i) (h:=by rw[bF];exact J)
    rw[<-this]
    exact List.getElem_of_eq (zPf a t) _
   refine rF ?_ ?_
   .rw[U]
    unfold at_
    rw[rG,nE I];rfl
   .rw[O]
    simp only[lU]at I ⊢
    rcases bJ (i+1) (t.length+1)with k|k
    .rw[uD k,List.getElem_append_left oA]
     unfold at_
     rw[rG,nE fM];rfl
    .have:i=t.length:=oA
     subst this
     rw[zZ0]
     simp[at_]
theorem zPg{e:V2×V2}(h:e∈eds l):∃i,i<l.length/\e=(at_ l i,at_ l ((i+1)%l.length)):=by
 rw[zCC]at h
 obtain⟨i,hi,rfl⟩:=xH.1 h
 exact⟨i,xU.1 hi,rfl⟩
theorem zS2(h:i<l.length):(at_ l i,at_ l ((i+1)%l.length))∈eds l:=by
 rw[zCC]
 exact xH.2 ⟨i,xU.2 h,rfl⟩
theorem zLC(h:∀i k,k<i->i<l.length->at_ l i≠at_ l k):l.Nodup:=by
 rw[List.nodup_iff_pairwise_ne,List.pairwise_iff_getElem]
 intro i j hi J I e
 have:=h j i I J
 unfold at_ at this
 rw[rG,rG,nE hi,nE J]at this
 exact this e.symm
theorem zQk(h:zDH l=true):Sim l:=by
 unfold zDH at h
 rw[xW,tZ,xT]at h
 obtain⟨h3,h⟩:=h
 have I:∀i k,k<i->i<l.length->(zAy (at_ l i) (at_ l k)==0)=false/\zAU l k i=true:=fun i k U hi=>by
  have:=xT.1 (h i (xU.2 hi)) k (xU.2 U)
  unfold zRv at this
  rw[cR,hH,Bool.not_eq_false']at this
  exact this
 have ne:∀i k,i<l.length->k<l.length->i≠k->at_ l i≠at_ l k:=fun i k hi U h7 e=>by
  rcases Nat.lt_or_gt_of_ne h7 with q|q
  .have:=(I k i q U).1
   rw[zLV e.symm]at this
   exact absurd this dA
  .have:=(I i k q hi).1
   rw[zLV e]at this
   exact absurd this dA
 have J:∀k,k<l.length->(k+1)%l.length=if k+1=l.length then 0 else k+1:=fun k U=>by
  split
  .rename_i e;rw[e,zZ0]
  .exact uD oA
 have ap:∀k i,k<i->i<l.length->∀z,OnE (at_ l k) (at_ l ((k+1)%l.length)) z->OnE (at_ l i) (at_ l ((i+1)%l.length)) z->(z=at_ l ((k+1)%l.length)/\z=at_ l i)∨(z=at_ l k/\z=at_ l ((i+1)%l.length)):=fun k i h5 hi z o1 O=>by
  have:=(I i k h5 hi).2
  unfold zAU at this
  have nk:at_ l k≠at_ l ((k+1)%l.length):=ne k _ oA (vY _ oA) (by rw[J k oA];split<;>omega)
  have ni:at_ l i≠at_ l ((i+1)%l.length):=ne i _ hi (vY _ oA) (by rw[J i hi];split<;>omega)
  by_cases c1:i=k+1
  .left
   rw[if_pos (.inl c1),bC]at this
   have e:(k+1)%l.length=i:=by rw[J k oA];split<;>omega
   rw[e]at this nk o1 ⊢
   have:=zTC this nk ni o1 O
   exact⟨this,this⟩
  .by_cases c2:k=0/\i=l.length-1
   .right
    rw[if_pos (.inr c2),bC]at this
    have e:(i+1)%l.length=k:=by rw[J i hi];split<;>omega
    rw[e]at this ni O ⊢
    have:=zQn this ni nk o1 O
    exact⟨this,this⟩
   .exfalso
    rw[if_neg (fun c=>c.elim c1 c2),bC]at this
    exact zQo nk this o1 O
 refine⟨h3,zLC fun i k U hi=>ne i k hi oA oA,fun e f he hf h6 z o1 O=>?_⟩
 obtain⟨i,hi,rfl⟩:=zPg he
 obtain⟨k,U,rfl⟩:=zPg hf
 rcases(oA:i<k∨k<i∨i=k)with q|q|q
 .exact ap i k q U z o1 O
 .rcases ap k i q hi z O o1 with r|r
  .exact .inr ⟨r.2,r.1⟩
  .exact .inl ⟨r.2,r.1⟩
 .subst q;exact absurd rfl h6
/-! Turned about. -/
def swp(e:V2×V2):V2×V2:=(e.2,e.1)
theorem zE5(l:List V2):(eds (zB6 l)).Perm ((eds l).map swp):=by
 rw[zCC,zCC,zCq]
 have e:(List.range l.length).map (fun i=>(at_ (zB6 l) i,at_ (zB6 l) ((i+1)%l.length)))=((List.range l.length).map fun i=>swp (at_ l i,at_ l ((i+1)%l.length))).reverse:=by
  refine gH fC fun i I h2=>?_
  have hi:i<l.length:=by simpa using I
  have:=zQA hi
  rw[zCq]at this
  rw[tI,tJ,this.1,this.2,List.getElem_reverse,tI,tJ]
  simp[swp]
 rw[e,List.map_map]
 exact List.reverse_perm _
theorem zOD(l:List V2)(x:V2):x∈zB6 l↔x∈l:=by
 constructor
 .intro h
  obtain⟨i,hi,rfl⟩:=zFg h
  rw[zCq]at hi
  rw[zHe hi]
  exact jZ (vY _ oA)
 .intro h
  obtain⟨i,hi,rfl⟩:=zFg h
  have I:(l.length-i)%l.length<l.length:=vY _ oA
  have:=zHe I
  have e:(l.length-(l.length-i)%l.length)%l.length=i:=by
   by_cases k:i=0
   .subst k;rw[pE,zZ0,pE,zZ0]
   .rw[uD (show l.length-i<l.length from oA),show l.length-(l.length-i)=i from oA,uD hi]
  rw[e]at this
  rw[<-this]
  exact jZ (by rw[zCq];exact I)
theorem zIU(h:l.Nodup):(zB6 l).Nodup:=zLC fun i k hk hi e=>by
 rw[zCq]at hi
 rw[zHe hi,zHe oA]at e
 have:=zL2 h (vY _ oA) (vY _ oA) e
 by_cases k0:k=0
 .subst k0
  rw[pE,zZ0,uD (show l.length-i<l.length from oA)]at this
  omega
 .rw[uD (show l.length-i<l.length from oA),uD (show l.length-k<l.length from oA)]at this
  omega
theorem Sim.rev(h:Sim l):Sim (zB6 l):=by
 refine⟨by rw[zCq];exact h.three,zIU h.nod,fun e f he U J z o1 o2=>?_⟩
 obtain⟨e',I,rfl⟩:=xH.1 ((zE5 l).mem_iff.1 he)
 obtain⟨f',O,rfl⟩:=xH.1 ((zE5 l).mem_iff.1 U)
 rcases h.meet e' f' I O (fun k=>J (by rw[k])) z (OnE.symm o1) (OnE.symm o2)with q|q
 .exact .inr q
 .exact .inl q
theorem zRY(l:List V2)(p:V2):wE (eds (zB6 l)) p= -wE (eds l) p:=by
 rw[zEM (zE5 l)]
 generalize eds l=E
 induction E with
 |nil=>rfl
 |cons e E ih=>
  rw[xY,zB3,zB3,ih]
  have:=zDi e.1 e.2 p
  show cI (e.2,e.1) p+_=_
  rw[this]
  show -cI e p+_=_
  omega
theorem zS4(l:List V2):arE (zB6 l)= -arE l:=by
 unfold arE
 rw[zEe (zE5 l)]
 generalize eds l=E
 induction E with
 |nil=>simp
 |cons e E ih=>
  simp only[xY,nG]at ih ⊢
  rw[ih]
  unfold crd swp
  simp only
  grind
theorem zK1{e:V2×V2}{s:Rat}{k:Int}(h:zCU (eds l) e (-s) k):zCU (eds (zB6 l)) (swp e) s (-k):=fun t t0 t1=>by
 obtain⟨d,J,O⟩:=h (1-t) fF fF
 refine⟨d,J,fun x U I=>?_⟩
 rw[zRY,O x ?_ ?_]
 .have:seg e.1 e.2 (1-t)=seg e.2 e.1 t:=by rw[zHy];rw[show 1-(1-t)=t from fF]
  rw[this];exact U
 .rw[zFa]at I ⊢
  have:0<s*crs e.2 e.1 x:=I
  rw[zDF]at this
  grind
theorem Sim.either(h:Sim l):PO l∨PO (zB6 l):=by
 obtain⟨k,U,J⟩:=h.kind
 rcases U with rfl|rfl
 .right
  refine⟨h.rev,fun e he=>?_⟩
  obtain⟨e',I,rfl⟩:=xH.1 ((zE5 l).mem_iff.1 he)
  obtain⟨O,h2⟩:=J e' I
  exact⟨zK1 (k:= -1) h2,zK1 (k:=0) (s:= -1) (by rw[show - -1=(1:Rat)from fF];exact O)⟩
 .exact .inl ⟨h,J⟩
theorem PO.area{l:List V2}(h:PO l):0<arE l:=by
 obtain⟨T,_,I⟩:=zED l.length l lr h
 rw[<-I.area]
 have J:=I.pos
 have U:=I.ne
 clear I
 match T,U with
 | t::T,_=>
  have O:∀T:List V6,(∀t,t∈T->0<crs t.1 t.2.1 t.2.2)->0<=(T.map fun t=>crs t.1 t.2.1 t.2.2).sum:=by
   intro T
   induction T with
   |nil=>intro _;simp
   |cons t T ih=>
    intro h
    rw[xY,nG]
    have:=h t fC
    have:=ih fun t ht=>h t (by simp[ht])
    grind
  rw[xY,nG]
  have:=J t fC
  have:=O T fun t ht=>J t (by simp[ht])
  grind
theorem Sim.way(h:Sim l):(0<arE l/\PO l)∨(arE l<0/\PO (zB6 l)):=by
 rcases h.either with k|k
 .exact .inl ⟨k.area,k⟩
 .have:=k.area
  rw[zS4]at this
  exact .inr ⟨fF,k⟩
def fK(l:List V2):Nat->Nat
 |0=>0
 |k+1=>if zAy (at_ l k) (at_ l (fK l k))<0 then k else fK l k
theorem zWr(l:List V2):∀k,fK l (k+1)<=k
 |0=>by unfold fK;split<;>simp[fK]
 |k+1=>by
  have:=zWr l k
  rw[fK]
  split<;>omega
def ways(l:List V2):List V2:=if arE l<0 then zB6 l else l
def jM(l:List V2):List V2:=zFb (ways l) (fK (ways l) (ways l).length)
def zD4(l:List V2):List V6:=(zIy (jM l).length (jM l)).getD []
theorem zSM{M:List V2}(J:L.length=M.length)(h:∀i,i<L.length->at_ L i=at_ M i):L=M:=
 gH J fun i I h2=>by
  have:=h i I
  unfold at_ at this
  rw[rG,rG,nE I,nE h2]at this
  exact this
theorem zDs:(zFb l k).Perm l/\(eds (zFb l k)).Perm (eds l):=by
 have e:l=l.take k++l.drop k:=(gB k l).symm
 constructor
 .show(l.drop k++l.take k).Perm l
  have:=(rO (l₁:=l.drop k) (l₂:=l.take k))
  rw[<-e]at this
  exact this
 .show(eds (l.drop k++l.take k)).Perm (eds l)
  have:=jQ (l.take k) (l.drop k)
  rw[<-e]at this
  exact this
theorem zXk(l:List V2)(k:Nat):arE (zFb l k)=arE l:=zEe zDs.2 _
theorem zPY(l:List V2):(ways l).length=l.length:=by unfold ways;split<;>simp[zCq]
theorem zH0(l:List V2):(jM l).length=l.length:=by unfold jM;rw[zHF,zPY]
theorem Sim.ways(h:Sim l):PO (ways l):=by
 unfold Go.Proofs.Wd.ways
 rcases h.way with⟨a,p⟩|⟨a,p⟩
 .rw[if_neg fF];exact p
 .rw[if_pos a];exact p
theorem Sim.norm(h:Sim l):PO (jM l):=h.ways.of_perm zDs.1.symm zDs.2.symm
theorem zFE(x:V2):x∈jM l↔x∈l:=by
 unfold jM
 rw[zTI]
 unfold ways
 split
 .exact zOD l x
 .rfl
theorem zLB(l:List V2):(eds (jM l)).Perm (eds l)∨(eds (jM l)).Perm ((eds l).map swp):=by
 unfold jM
 have h:=(zDs (l:=ways l) (k:=fK (ways l) (ways l).length)).2
 unfold ways at h ⊢
 split at h
 .rename_i c
  rw[if_pos c]
  exact .inr (h.trans (zE5 l))
 .rename_i c
  rw[if_neg c]
  exact .inl h
theorem zOt(l:List V2)(p:V2):(∃e,e∈eds (jM l)/\OnE e.1 e.2 p)↔ ∃e,e∈eds l/\OnE e.1 e.2 p:=by
 rcases zLB l with h|h
 .simp only[h.mem_iff]
 .simp only[h.mem_iff,xH]
  constructor
  .rintro⟨e,⟨f,O,rfl⟩,I⟩;exact⟨f,O,OnE.symm I⟩
  .rintro⟨e,J,I⟩;exact⟨swp e,⟨e,J,rfl⟩,OnE.symm I⟩
theorem zWf(l:List V2)(p:V2):wE (eds (jM l)) p=wE (eds l) p∨wE (eds (jM l)) p= -wE (eds l) p:=by
 unfold jM
 rw[zEM (zDs (l:=ways l)).2]
 unfold ways
 split
 .right;exact zRY l p
 .left;rfl
def zA5(l:List V2)(p:V2):Int:=if((List.range l.length).any fun i=>onS (at_ l i) (at_ l ((i+1)%l.length)) p)=true then 0 else if zDI (crK l p) l.length%2=1 then 1 else -1
theorem zXe(e:V2×V2)(p:V2):(cI e p-(if zEG e.1 e.2 p=true then 1 else 0))%2=0:=by
 have h:=@zPr e.1 e.2 p
 unfold cI
 by_cases c1:e.1.2<=p.2/\p.2<e.2.2/\0<crs e.1 e.2 p
 .have: ¬(e.2.2<=p.2/\p.2<e.1.2/\crs e.1 e.2 p<0):=by rintro⟨h1,h2,h3⟩;grind
  rw[if_pos c1,if_neg this,if_pos (h.2 (.inl c1))];rfl
 .by_cases c2:e.2.2<=p.2/\p.2<e.1.2/\crs e.1 e.2 p<0
  .rw[if_neg c1,if_pos c2,if_pos (h.2 (.inr c2))];rfl
  .rw[if_neg c1,if_neg c2,if_neg (fun k=>(h.1 k).elim c1 c2)];rfl
theorem zXE(l:List V2)(p:V2):(wE (eds l) p-(zDI (crK l p) l.length:Int))%2=0:=by
 rw[zCC]
 have:∀k,(wE ((List.range k).map fun i=>(at_ l i,at_ l ((i+1)%l.length))) p-(zDI (crK l p) k:Int))%2=0:=by
  intro k
  induction k with
  |zero=>rfl
  | succ k ih=>
   rw[eH,rQ,zE9]
   have I:=zXe (at_ l k,at_ l ((k+1)%l.length)) p
   have h2:wE (List.map (fun i=>(at_ l i,at_ l ((i+1)%l.length))) [k]) p=cI (at_ l k,at_ l ((k+1)%l.length)) p:=by
    rw[xY,bP,zB3];unfold wE;simp
   rw[h2]
   cases hc:crK l p k with
   |true=>
    rw[zPv hc]
    have:zEG (at_ l k) (at_ l ((k+1)%l.length)) p=true:=hc
    simp only[this,cG]at I
    omega
   |false=>
    rw[zPw hc]
    have:zEG (at_ l k) (at_ l ((k+1)%l.length)) p=false:=hc
    simp only[this]at I
    have I:(cI (at_ l k,at_ l ((k+1)%l.length)) p-0)%2=0:=I
    omega
 exact this l.length
theorem zSu(h:onS a b p=true):OnE a b p:=by
 unfold onS at h
 split at h
 .cases h
 .rename_i I
  have I:(crs a b p).num.sign=0:=by simpa using I
  have h1:=xX h
  refine zGv (zA7.1 I) ?_
  apply rC
  intro hn
  have hp:0<zIx (p.1-a.1,p.2-a.2) (p.1-b.1,p.2-b.2):=by
   show 0<(p.1-a.1)*(p.1-b.1)+(p.2-a.2)*(p.2-b.2)
   grind
  have: ¬zIx (p.1-a.1,p.2-a.2) (p.1-b.1,p.2-b.2)<0:=fF
  rw[<-zEP]at this
  have n0:(zIx (p.1-a.1,p.2-a.2) (p.1-b.1,p.2-b.2)).num.sign≠0:=fun e=>by
   have:=tY.1 (sK.1 e)
   grind
  omega
theorem zS5(l:List V2)(p:V2):((List.range l.length).any fun i=>onS (at_ l i) (at_ l ((i+1)%l.length)) p)=true↔ ∃e,e∈eds l/\OnE e.1 e.2 p:=by
 rw[bX]
 constructor
 .rintro⟨i,hi,h⟩
  exact⟨_,zS2 (xU.1 hi),zSu h⟩
 .rintro⟨e,I,h⟩
  obtain⟨i,hi,rfl⟩:=zPg I
  exact⟨i,xU.2 hi,zGG h⟩
def TNp(t:V6)(v:WE)(w:WB):Prop:=∃a b c:List WE,v=.agg (a++b++c).toArray/\(CU.agg (fPN t.1)).p a w/\(CU.agg (fPN t.2.1)).p b w/\(CU.agg (fPN t.2.2)).p c w
def fTN(t:V6):UF:=.mk' (TNp t) fun _ _ _ ⟨a,b,c,e,h1,h2,h3⟩ k=>⟨a,b,c,e,(CU.agg _).us _ _ _ h1 k,(CU.agg _).us _ _ _ h2 k,(CU.agg _).us _ _ _ h3 k⟩
theorem zFr{cs:List WE}(h:TNp t (.agg cs.toArray) W):∃a b c:List WE,cs=a++b++c/\a.length=6/\b.length=6/\c.length=6/\(CU.agg (fPN t.1)).p a W/\(CU.agg (fPN t.2.1)).p b W/\(CU.agg (fPN t.2.2)).p c W:=by
 obtain⟨a,b,c,e,I,h2,h3⟩:=h
 have:=vR Array.toList (jX e)
 simp only[zZY]at this
 exact⟨a,b,c,this,(zBV _ _ a W I).1,(zBV _ _ b W h2).1,(zBV _ _ c W h3).1,I,h2,h3⟩
theorem zP7(t:V6):CU.ok 18 (CU.agg (fTN t)):=fun cs W h=>by
 obtain⟨a,b,c,rfl,l1,l2,l3,h1,h2,h3⟩:=zFr h
 have U:=zBV _ _ a W h1;have J:=zBV _ _ b W h2;have O:=zBV _ _ c W h3
 refine⟨by simp[l1,l2,l3],zD6 U.2.1 J.2.1 O.2.1,fun u I=>?_⟩
 rcases vW.1 I with I|I
 .rcases vW.1 I with I|I
  .exact U.2.2 u I
  .exact J.2.2 u I
 .exact O.2.2 u I
theorem zFR(t:V6):∀cs:List WE,∀W,(fTN t).p (.agg cs.toArray) W->cs.length=18:=fun cs W h=>(zP7 t cs W h).1
theorem zHo(v:WE)(W:WB)(h:(fTN t).p v W):∃vs:List WE,v=.agg vs.toArray/\vs.length=18/\(∀u,u∈vs->u.oneCell'=true)/\vs.all zY=true/\(CU.agg (fTN t)).p vs W:=by
 obtain⟨a,b,c,rfl,h1⟩:=id h
 have:=zP7 t _ W h
 exact⟨_,rfl,this.1,this.2.2,this.2.1,h⟩
theorem zVs(cs:List WE)(W:WB)(h:(CU.agg (fTN t)).p cs W):0+6<=cs.length/\(fPN t.1).p (.agg ((cs.drop 0).take 6).toArray) W:=by
 obtain⟨a,b,c,rfl,J,I,l3,O,_⟩:=zFr h
 refine⟨by simp[J,I,l3],?_⟩
 rw[nJ,sZ,tM oA,nK oA]
 exact O
theorem zVr(cs:List WE)(W:WB)(h:(CU.agg (fTN t)).p cs W):6+6<=cs.length/\(fPN t.2.1).p (.agg ((cs.drop 6).take 6).toArray) W:=by
 obtain⟨a,b,c,rfl,J,I,l3,_,h2,_⟩:=zFr h
 refine⟨by simp[J,I,l3],?_⟩
 rw[sZ,tO oA,pA oA,lS,tM oA,nK oA]
 exact h2
theorem zTs(cs:List WE)(W:WB)(h:(CU.agg (fTN t)).p cs W):12+6<=cs.length/\(fPN t.2.2).p (.agg ((cs.drop 12).take 6).toArray) W:=by
 obtain⟨a,b,c,rfl,J,I,l3,_,_,h3⟩:=zFr h
 refine⟨by simp[J,I,l3],?_⟩
 rw[tO fM,pA fM,lS,nK oA]
 exact h3
abbrev tns(ts:List V6):List CU:=ts.map fun t=>CU.agg (fTN t)
theorem zFQ(h:i<ts.length):(tns ts)[i]?=some (CU.agg (fTN (at3 ts i))):=by
 unfold tns at3;rw[tK,rG,nE h];rfl
theorem zR6(ts:List V6):∀C,C∈tns ts->CU.ok 18 C:=fun C I=>by
 obtain⟨t,_,rfl⟩:=xH.1 I
 exact zP7 _
theorem zXi{q:WE}(hu:(fPN t.1).p u W)(hv:(fPN t.2.1).p v W)(hq:(fPN t.2.2).p q W):∃cells,prog.built 38 [(0,u),(1,v),(2,q)]=some cells/\(fTN t).p (.agg cells) W:=by
 obtain⟨s,A,n,c,A',n',c',s2,B,k,d,B',k',d',rfl,O,h2⟩:=hu
 obtain⟨s3,A3,n3,c3,A4,n4,c4,s4,B3,J,d3,B4,k4,d4,rfl,h3,h4⟩:=hv
 obtain⟨I,A5,n5,U,A6,n6,c6,s6,B5,k5,d5,B6,k6,d6,rfl,h5,h6⟩:=hq
 exact⟨_,trB ..,_,_,_,rfl,⟨s,A,n,c,A',n',c',s2,B,k,d,B',k',d',rfl,O,h2⟩,⟨s3,A3,n3,c3,A4,n4,c4,s4,B3,J,d3,B4,k4,d4,rfl,h3,h4⟩,⟨I,A5,n5,U,A6,n6,c6,s6,B5,k5,d5,B6,k6,d6,rfl,h5,h6⟩⟩
theorem zJV(h:(fTN t).p v W):∃cs:List WE,v=.agg cs.toArray/\cs.length=18/\(CU.agg (fTN t)).p cs W:=by
 obtain⟨a,b,c,rfl,h1⟩:=id h
 exact⟨_,rfl,(zP7 t _ W h).1,h⟩
theorem zNk(h:(fTN t).p u W):∃e cs,yI prog 33 1 [(0,u)]=some (e,cs)/\(SF.row 18 (tns [t])).p (.slice (some ⟨W.heap.size,0,none⟩) 1 1) (W.alloc (.cells cs e)):=by
 obtain⟨cs,rfl,l,hc⟩:=zJV h
 obtain⟨u0,u1,u2,u3,u4,u5,u6,u7,u8,u9,h1,I,h5,h0,O,J,U,h4,rfl⟩:=zLI l
 refine⟨_,_,zZa ..,some ⟨W.heap.size,0,none⟩,1,rfl,vQ _,fH,fun e=>(by cases e),fun i C hi=>?_⟩
 have hb:=zCs W (.cells #[u0,u1,u2,u3,u4,u5,u6,u7,u8,u9,h1,I,h5,h0,O,J,U,h4] 38)
 have hm:=zBw W #[u0,u1,u2,u3,u4,u5,u6,u7,u8,u9,h1,I,h5,h0,O,J,U,h4] 38
 obtain rfl:i=0:=by have:=(bE.1 hi).1;simp at this;omega
 obtain rfl:CU.agg (fTN t)=C:=by simpa using hi
 refine⟨W.heap.size,0,_,rfl,?_,(CU.agg (fTN t)).us _ _ _ hc (zR hb)⟩
 rw[show 0+0*18=0 from rfl]
 exact hm
theorem zVD{t':V6}(h:(fTN t).p u W)(h':(fTN t').p v W):∃e cs,yI prog 33 2 [(0,u),(1,v)]=some (e,cs)/\(SF.row 18 (tns [t,t'])).p (.slice (some ⟨W.heap.size,0,none⟩) 2 2) (W.alloc (.cells cs e)):=by
 obtain⟨cs,rfl,l,hc⟩:=zJV h
 obtain⟨u0,u1,u2,u3,u4,u5,u6,u7,u8,u9,h8,J,hd,h7,h1,U,h6,ha,rfl⟩:=zLI l
 obtain⟨cs,rfl,l,hG⟩:=zJV h'
 obtain⟨v0,v1,v2,v3,v4,v5,v6,v7,v8,v9,hf,h9,I,O,he,h4,h5,h0,rfl⟩:=zLI l
 refine⟨_,_,zZq ..,some ⟨W.heap.size,0,none⟩,2,rfl,vQ _,fH,fun e=>(by cases e),fun i C hi=>?_⟩
 have hb:=zCs W (.cells #[u0,u1,u2,u3,u4,u5,u6,u7,u8,u9,h8,J,hd,h7,h1,U,h6,ha,v0,v1,v2,v3,v4,v5,v6,v7,v8,v9,hf,h9,I,O,he,h4,h5,h0] 38)
 have hm:=zBw W #[u0,u1,u2,u3,u4,u5,u6,u7,u8,u9,h8,J,hd,h7,h1,U,h6,ha,v0,v1,v2,v3,v4,v5,v6,v7,v8,v9,hf,h9,I,O,he,h4,h5,h0] 38
 have hI:=(bE.1 hi).1
 simp at hI
 rcases(oA:i=0∨i=1)with rfl|rfl
 .obtain rfl:CU.agg (fTN t)=C:=by simpa using hi
  refine⟨W.heap.size,0, [u0,u1,u2,u3,u4,u5,u6,u7,u8,u9,h8,J,hd,h7,h1,U,h6,ha],rfl,?_,(CU.agg (fTN t)).us _ _ _ hc (zR hb)⟩
  intro j u hj
  have hF:=(bE.1 hj).1
  have:=hm j u (by rw[show #[u0,u1,u2,u3,u4,u5,u6,u7,u8,u9,h8,J,hd,h7,h1,U,h6,ha,v0,v1,v2,v3,v4,v5,v6,v7,v8,v9,hf,h9,I,O,he,h4,h5,h0].toList=[u0,u1,u2,u3,u4,u5,u6,u7,u8,u9,h8,J,hd,h7,h1,U,h6,ha]++ [v0,v1,v2,v3,v4,v5,v6,v7,v8,v9,hf,h9,I,O,he,h4,h5,h0]from rfl,gC hF];exact hj)
  simpa using this
 .obtain rfl:CU.agg (fTN t')=C:=by simpa using hi
  refine⟨W.heap.size,0, [v0,v1,v2,v3,v4,v5,v6,v7,v8,v9,hf,h9,I,O,he,h4,h5,h0],rfl,?_,(CU.agg (fTN t')).us _ _ _ hG (zR hb)⟩
  intro j u hj
  have hF:=(bE.1 hj).1
  have:=hm (18+j) u (by rw[show #[u0,u1,u2,u3,u4,u5,u6,u7,u8,u9,h8,J,hd,h7,h1,U,h6,ha,v0,v1,v2,v3,v4,v5,v6,v7,v8,v9,hf,h9,I,O,he,h4,h5,h0].toList=[u0,u1,u2,u3,u4,u5,u6,u7,u8,u9,h8,J,hd,h7,h1,U,h6,ha]++ [v0,v1,v2,v3,v4,v5,v6,v7,v8,v9,hf,h9,I,O,he,h4,h5,h0]from rfl,gE fC];simpa using hj)
  simpa using this
theorem zXL(v:WE)(W:WB)(h:(fTN t).p v W):v.cells.size=18/\(∀u,u∈v.cells.toList->u.oneCell'=true)/\v.cells.toList.all zY=true/\∀cs,(CU.len 18).p cs W->0+18<=cs.length/\(CU.agg (fTN t)).p (jD cs 0 v.cells.toList) W:=by
 obtain⟨vs,rfl,U,h2,h3,I⟩:=zHo v W h
 refine⟨by simpa[Value.cells]using U,fun u O=>h2 u (by simpa[Value.cells]using O),by simpa[Value.cells]using h3,fun cs J=>?_⟩
 have hl:cs.length=18:=J
 refine⟨oA,?_⟩
 rw[show jD cs 0 (Value.agg vs.toArray).cells.toList=vs by simp[jD,Value.cells];omega]
 exact I
theorem zMc{m:Nat}(h:∀p,p∈tl t->QB p.1 m/\QB p.2 m){v:WE}{W:WB}(hv:(fTN t).p v W):(fTR m t).p v W:=by
 obtain⟨a,b,c,e,U,h2,h3⟩:=hv
 have I:=h t.1 (by simp[tl]);have J:=h t.2.1 (by simp[tl]);have O:=h t.2.2 (by simp[tl])
 exact⟨a,b,c,e,zBu I.1 I.2 U,zBu J.1 J.2 h2,zBu O.1 O.2 h3⟩
theorem zTr{m:Nat}(h:∀t,t∈ts->∀p,p∈tl t->QB p.1 m/\QB p.2 m)(v:WE)(W:WB)(O:(SF.row 18 (tns ts)).p v W):(SF.row 18 (trs m ts)).p v W:=
 zHE fC (fun i C D I J cs W U=>by
  have hi:i<ts.length:=by have:=(bE.1 I).1;simpa using this
  rw[zFQ hi]at I
  rw[zDT hi]at J
  cases I;cases J
  refine zMc (h _ ?_) U
  unfold at3
  rw[rG,nE hi]
  exact uZ hi) v W O
theorem zTp{m:Nat}(h:∀p,p∈ps->QB p.1 m/\QB p.2 m){k:Nat}(U:k<ps.length):∀p,p∈tl (zA1 ps k)->QB p.1 m/\QB p.2 m:=fun p O=>by
 have I:∀{j:Nat},j<ps.length->at_ ps j∈ps:=fun {j} hj=>by
  unfold at_
  rw[rG,nE hj]
  exact uZ hj
 have J:0<ps.length:=oA
 simp only[tl,zA1,xS,rL,rK]at O
 rcases O with rfl|rfl|rfl
 .exact h _ (I (vY _ J))
 .exact h _ (I U)
 .exact h _ (I (vY _ J))
abbrev eT(ps:List V2)(k:Nat):List UF:=[uI (k:Int),fTN (zA1 ps k)]
theorem zQy{b:Nat}{W':WB}(h:(SF.row z Cs).p (.slice (some ⟨b,o,none⟩) k c) W)(hb:W'.heap[b]?=W.heap[b]?)(hk:y7 W W'):(SF.row z Cs).p (.slice (some ⟨b,o,none⟩) k c) W':=by
 obtain⟨A,c,e,h2,h3,J,h5⟩:=h
 refine⟨A,c,e,h2,h3,J,fun i C hi=>?_⟩
 obtain⟨b',U,cs,I,O,g3⟩:=h5 i C hi
 refine⟨b',U,cs,I,fun j u hj=>?_,C.us _ _ _ g3 hk⟩
 have:b'=b:=by
  rw[I]at e
  injection e with e1
  injection e1 with e2
  injection e2 with e3
  exact e3.symm
 subst this
 exact(bQ hb).trans (O j u hj)
theorem zHb{b:Nat}{M:Nat->Prop}(hh:w_.heap[b]?=some (.cells #[.slice (some ⟨g,0,none⟩) ps.length cap] 22 (0,0)))(hl:(SF.row 6 (pns ps)).p (.slice (some ⟨g,0,none⟩) ps.length cap) w_)(hC:M g)(hW: ¬C b)(hY: ¬M b)(hn:ps.length<=1000000):
  ItM prog 67 #[pO b 0] (eT ps) ps.length C M w_:=by
 intro l_ J Z W hwW hm hkW h0 hT hp h4 hR
 obtain⟨l,hldef⟩:∃l:WE,l=.slice (some ⟨g,0,none⟩) ps.length cap:=⟨_,rfl⟩
 have hs:=zEi hl
 have ha:=(SF.row 6 (pns ps)).st _ _ _ hl hm
 have ho:W.heap[b]?=some (.cells #[.slice (some ⟨g,0,none⟩) ps.length cap] 22 (0,0)):=(hm.block b (xQ.1 hh).1).trans hh
 have h9:∀{A B:WB},(SF.row 6 (pns ps)).p (.slice (some ⟨g,0,none⟩) ps.length cap) A->B.heap[g]?=A.heap[g]?->y7 A B->(SF.row 6 (pns ps)).p (.slice (some ⟨g,0,none⟩) ps.length cap) B:=fun h1 h2 h3=>zQy h1 h2 h3
 rw[<-hldef]at hh hl hs ha ho
 have h5:∀{A B:WB},(SF.row 6 (pns ps)).p l A->B.heap[g]?=A.heap[g]?->y7 A B->(SF.row 6 (pns ps)).p l B:=fun h1 h2 h3=>by rw[hldef]at h1 ⊢;exact h9 h1 h2 h3
 refine zIc func67 rfl ?_
 have s:=zHw (w:=W) (fn:=f67) (args:=#[.func (.yield l_) #[] #[]]++#[pO b 0]) noS [(0,UF.eq (.func (.yield l_) #[] #[]))] [⟨1,22,wD [l],b,true⟩] kA (fun q I=>by obtain rfl:=tV.1 I;exact⟨fG,rfl⟩) ⟨⟨[l],rfl,.inl rfl,ho,rfl,by simp[hs.2],fun y hy=>by cases hy⟩,trivial⟩ (fun x hx=>by obtain rfl:=tV.1 hx;show 1<2;decide)
 generalize({ tmps:=#[.func (.yield l_) #[] #[]]++#[pO b 0]++Array.replicate (f67.ntmps-(#[.func (.yield l_) #[] #[]]++#[pO b 0]:Array WE).size) undef,defers:=[] }:Act)=a at s ⊢
 have O:(pns ps).length=ps.length:=fG
 refine rgQ ((5,.u (UF.eq l))::(6,.u (uI ((pns ps).length:Int)))::(7,.u (uI 0))::[]) s
  (oc (qE (C:=(wD [l]).cf) kA (fun _ _ h=>h.2) zAS)<|oc (yK (z:=6) (Cs:=pns ps) kA (yM ha s) (fun _=>rfl))<|oc zA<|zB) fun a w1 s=>tT ?_
 have hV:J 0 (fun _=>False) w1:=h0 _ _ _ _ _ hR s.below (fun q I=>I.elim)
 have hQ:=(SF.row 6 (pns ps)).st _ _ _ ha s.below
 have hM:=s.gr.size
 replace s:=(s.keepK [(0,.u (UF.eq (.func (.yield l_) #[] #[]))),(5,.u (UF.eq l)),(6,.u (uI ((pns ps).length:Int))),(7,.u (uI ((0:Nat):Int)))] (fU mz3<|fU (.head _)<|fU mz1<|fU mz2 fnz)).self (y6 kA)
 refine zDz (fun k a w=>k<=ps.length/\J k (fun _=>False) w/\(SF.row 6 (pns ps)).p l w/\W.heap.size<=w.heap.size/\StS (inB [⟨1,22,wD [l],b,true⟩]) w [(0,.u (UF.eq (.func (.yield l_) #[] #[]))),(5,.u (UF.eq l)),(6,.u (uI ((pns ps).length:Int))),(7,.u (uI ((k:Nat):Int)))] [⟨1,22,wD [l],b,true⟩] f67.ntmps [] a w) (fun k=>ps.length-k) 0 ⟨vS _,hV,hQ,hM,s⟩ fun k a w ⟨hk',hJ,hf,hI,s⟩=>?_
 replace s:=s.toSt (fun q ⟨x,hx,_,hr⟩=>by obtain rfl:=tV.1 hx;cases hr) rfl
 refine rgQ ((8,.u (uB (ltz k ((pns ps).length))))::[]) s
  (oc (zI .i64 (k:Int) ((pns ps).length:Int) (ltz k ((pns ps).length)) iiz iiz rfl rfl)<|zB) fun a w2 s=>lP<|StS.cond s (ltz k ((pns ps).length)) iiz (fun e=>?_) (fun e=>?_)
 .have hk:k<ps.length:=by have h7:=xX e;rw[O]at h7;omega
  have q4:(k+ps.length-1)%ps.length<ps.length:=vY _ oA
  have hK:(k+1)%ps.length<ps.length:=vY _ oA
  refine pT<|lP<|tT<|lP<|rgK 3 ((9,.u (uI (k:Int)))::(10,.Y (fPN (at_ ps k)))::(11,.u (fPN (at_ ps k)))::[]) s
   (oc zA<|oc (zO (z:=6) (Cs:=pns ps) (i:=k) (C:=CU.agg (fPN (at_ ps k))) kA (zBt hk) (yM hf s) iiz)<|oc (zT (f:=fPN (at_ ps k)) 6 kA (hz:=y9 _ _))<|zB) fun a w3 s=>zX (CU.len 6) (cs:=zP6) kA rfl s kA (fun W=>rfl) rfl fun b4 a w s=>yQ (uI (k:Int)) rfl s kA iiz fun a w s=>zM (fPN (at_ ps k)) rfl s yY fun a w3 s=>zD rfl ?_
  have U:=(SF.row 6 (pns ps)).st _ _ _ hf s.below
  have hL:J k (fun _=>False) w3:=h0 _ _ _ _ _ hJ s.below (fun q I=>I.elim)
  have hS:W.heap.size<=w3.heap.size:=xR hI s.gr.size
  replace s:StS _ _ _ [⟨4,30,CU.agg (fPN (at_ ps k)),b4,true⟩,⟨1,22,wD [l],b,true⟩] _ _ _ _:=s.freeze
  replace s:=s.reb rfl [(3,.u (uI (k:Int))),(0,.u (UF.eq (.func (.yield l_) #[] #[]))),(5,.u (UF.eq l)),(6,.u (uI ((pns ps).length:Int))),(7,.u (uI (k:Int)))] (fU (.inl (.head _))<|fU (.inl mz4)<|fU (.inl mz5)<|fU (.inl mz6)<|fU (.inl mz7) fnz)
  refine lP<|rgK 23 ((12,.u (UF.eq (.func (.yield l_) #[] #[])))::(13,.u (uI (k:Int)))::(14,.s (UF.eq l).tS)::(15,.s (uI (k:Int)).tS)::(16,.s (UF.eq l).tS)::(17,.s (uI ((pns ps).length:Int)).tS)::(18,.s (uI ((k+ps.length:Nat):Int)).tS)::(19,.s (uI ((k+ps.length-1:Nat):Int)).tS)::(20,.s (UF.eq l).tS)::(21,.s (uI ((pns ps).length:Int)).tS)::(22,.s (uI (((k+ps.length-1)%ps.length:Nat):Int)).tS)::(23,.Y (fPN (at_ ps ((k+ps.length-1)%ps.length))))::(24,.s (fPN (at_ ps ((k+ps.length-1)%ps.length))).tS)::(25,.s (fPN (at_ ps k)).tS)::(26,.s (UF.eq l).tS)::(27,.s (uI (k:Int)).tS)::(28,.s (uI ((k+1:Nat):Int)).tS)::(29,.s (UF.eq l).tS)::(30,.s (uI ((pns ps).length:Int)).tS)::(31,.s (uI (((k+1)%ps.length:Nat):Int)).tS)::(32,.Y (fPN (at_ ps ((k+1)%ps.length))))::(33,.s (fPN (at_ ps ((k+1)%ps.length))).tS)::(34,.u (fTN (zA1 ps k)))::[]) s
   (oc zA<|oc zA<|oc (qE (C:=(wD [l]).cf) kA (fun _ _ h=>h.2) zAS)<|oc zA<|oc (qE (C:=(wD [l]).cf) kA (fun _ _ h=>h.2) zAS)<|oc (yK (z:=6) (Cs:=pns ps) kA (yM U s) (fun _=>rfl))<|oc (yB .i64 (k:Int) ((pns ps).length:Int) ((k+ps.length:Nat):Int) iiz iiz (by rw[O];exact wrap64 _ _ oA oA))<|oc (zEW .i64 ((k+ps.length:Nat):Int) 1 ((k+ps.length-1:Nat):Int) iiz iiz (wrap64 _ _ oA oA))<|oc (qE (C:=(wD [l]).cf) kA (fun _ _ h=>h.2) zAS)<|oc (yK (z:=6) (Cs:=pns ps) kA (yM U s) (fun _=>rfl))<|oc (zBv .i64 ((k+ps.length-1:Nat):Int) ((pns ps).length:Int) (((k+ps.length-1)%ps.length:Nat):Int) iiz iiz (by rw[O];omega) (by rw[O];exact zBK _ _))<|oc (zO (z:=6) (Cs:=pns ps) (i:=((k+ps.length-1)%ps.length)) (C:=CU.agg (fPN (at_ ps ((k+ps.length-1)%ps.length)))) kA (zBt q4) (yM U s) iiz)<|oc (zT (f:=fPN (at_ ps ((k+ps.length-1)%ps.length))) 6 kA (hz:=y9 _ _))<|oc (zT (f:=fPN (at_ ps k)) 6 kA (hz:=y9 _ _))<|oc (qE (C:=(wD [l]).cf) kA (fun _ _ h=>h.2) zAS)<|oc zA<|oc (yB .i64 (k:Int) 1 ((k+1:Nat):Int) iiz iiz (wrap64 _ _ oA oA))<|oc (qE (C:=(wD [l]).cf) kA (fun _ _ h=>h.2) zAS)<|oc (yK (z:=6) (Cs:=pns ps) kA (yM U s) (fun _=>rfl))<|oc (zBv .i64 ((k+1:Nat):Int) ((pns ps).length:Int) (((k+1)%ps.length:Nat):Int) iiz iiz (by rw[O];omega) (by rw[O];exact zBK _ _))<|oc (zO (z:=6) (Cs:=pns ps) (i:=((k+1)%ps.length)) (C:=CU.agg (fPN (at_ ps ((k+1)%ps.length)))) kA (zBt hK) (yM U s) iiz)<|oc (zT (f:=fPN (at_ ps ((k+1)%ps.length))) 6 kA (hz:=y9 _ _))<|oc (zAQ (fun u v q W (hu:(fPN (at_ ps ((k+ps.length-1)%ps.length))).p u W) (hv:(fPN (at_ ps k)).p v W) (I:(fPN (at_ ps ((k+1)%ps.length))).p q W)=>zXi (t:=zA1 ps k) hu hv I))<|zB) fun a w4 s=>?_
  have hw:J k (fun _=>False) w4:=h0 _ _ _ _ _ hL s.below (fun q I=>I.elim)
  have hG:=(SF.row 6 (pns ps)).st _ _ _ U s.below
  have hW4:W.heap.size<=w4.heap.size:=xR hS s.gr.size
  replace s:=s.popB
  have hO:∀x,x∈([⟨1,22,wD [l],b,true⟩]:List Bx)->x.b<w_.heap.size/\ ¬(C x.b∨M x.b):=fun x hx=>by obtain rfl:=tV.1 hx;exact⟨(xQ.1 hh).1,fun hc=>hc.elim hW hY⟩
  refine zHq rfl s iiz kA (y6 kA) hO (h4 _ _ _ _ hk hw (fun q I=>I.elim) ⟨fG,fun i f hi=>?_⟩) fun a w5 bv hr hA s=>?_
  .match i,hi with
   |0,hi=>obtain rfl:=nM hi;rw[zYc];exact s.at.sl 13
   |1,hi=>obtain rfl:=nM hi;rw[zYb];exact s.at.sl 34
  have hsz2:=hr.size
  have q1:bv=false->Z w5:=fun e2=>by rcases hA with⟨e3,_⟩|⟨_,hz⟩;rw[e2]at e3;cases e3;exact hz
  have q3:bv=true->J (k+1) (fun _=>False) w5:=fun e2=>by rcases hA with⟨_,hj⟩|⟨e3,_⟩;exact hj;rw[e2]at e3;cases e3
  replace s:=s.toSt (fun q ⟨x,hx,_,hr⟩=>by obtain rfl:=tV.1 hx;cases hr) rfl
  refine zBJ (uB (!bv)) rfl s kA (zFd bv iiz (fun _=>rfl)) kA fun a w s=>zD rfl<|StS.cond s (!bv) iiz (fun e=>?_) (fun e=>?_)
  .have hz:=q1 (by simpa using e)
   exact pS<|⟨s.nd,.tuple #[],by simp[results,results67],⟨_,rfl⟩,.inr (hT _ _ hz s.below)⟩
  .have hg:=q3 (by simpa using e)
   have q2:=h5 hG ((hp _ _ _ hg g hC).trans (hp _ _ _ hw g hC).symm) hr.keep
   refine pT<|zV 1 ((37,.u (uI ((k+1:Nat):Int)))::[]) s kA
    (oc (yB .i64 (k:Int) 1 ((k+1:Nat):Int) iiz iiz (wrap64 _ _ oA oA))<|zB) fun a w6 s=>?_
   replace s:=s.drop [7]
   refine zBJ (uI ((k+1:Nat):Int)) rfl s kA zA kA fun a w7 s=>zD rfl ?_
   have hsz4:=s.gr.size
   refine⟨k+1,by show ps.length-(k+1)<ps.length-k;omega,hk,h0 _ _ _ _ _ hg s.below (fun q I=>I.elim),(SF.row 6 (pns ps)).st _ _ _ q2 s.below,oA,(s.keepK _ ?_).self (y6 kA)⟩
   exact fmz ⟨mz8,fU mz9<|fU zKe<|fU (.head _) fnz⟩
 .have hZ:k=ps.length:=by have h7:=nF e;rw[O]at h7;omega
  exact tU<|⟨s.nd,.tuple #[],by simp[results,results67],⟨_,rfl⟩,.inl ⟨_,by rw[<-hZ];exact h0 _ _ _ _ _ hJ s.below (fun q I=>.inl I)⟩⟩
def cor(t:V6)(i:Nat):V2:=at_ (tl t) i
def zIw(t:V6)(p:V2):Nat->Int
 |0=>1
 |i+1=>min (yP (cor t i) (cor t ((i+1)%3)) p) (zIw t p i)
theorem zSA(t:V6)(p:V2):zIw t p 3=zBi t p:=rfl
theorem zM6{m:Nat}(hi:i<3)(cs:List WE)(W:WB)(h:(CU.agg (fTR m t)).p cs W):6*i+6<=cs.length/\(fPV m (cor t i)).p (.agg ((cs.drop (6*i)).take 6).toArray) W:=by
 match i,hi with
 |0,_=>exact zGQ cs W h
 |1,_=>exact zKR cs W h
 |2,_=>exact zHn cs W h
theorem zIE(hi:i<3):zHf prog 38 i=some (6*i):=by
 match i,hi with
 |0,_=>show zHf prog 38 0=some 0;kernel_rfl
 |1,_=>show zHf prog 38 1=some 6;kernel_rfl
 |2,_=>show zHf prog 38 2=some 12;kernel_rfl
theorem zZF(u0 u1 u2 u3 u4 u5 u6 u7 u8 u9 h1 J h5 U O h0 I h4:WE)(W:WB):(Instr.index 38 (.agg #[u0,u1,u2,u3,u4,u5,u6,u7,u8,u9,h1,J,h5,U,O,h0,I,h4]) (.int .i64 0)).run prog W=.ok (.agg #[u0,u1,u2,u3,u4,u5]) W:=fJ
theorem zZE(u0 u1 u2 u3 u4 u5 u6 u7 u8 u9 J I h5 h0 U h1 O h4:WE)(W:WB):(Instr.index 38 (.agg #[u0,u1,u2,u3,u4,u5,u6,u7,u8,u9,J,I,h5,h0,U,h1,O,h4]) (.int .i64 1)).run prog W=.ok (.agg #[u6,u7,u8,u9,J,I]) W:=fJ
theorem zZD(u0 u1 u2 u3 u4 u5 u6 u7 u8 u9 h5 h4 h1 O J U I h0:WE)(W:WB):(Instr.index 38 (.agg #[u0,u1,u2,u3,u4,u5,u6,u7,u8,u9,h5,h4,h1,O,J,U,I,h0]) (.int .i64 2)).run prog W=.ok (.agg #[h1,O,J,U,I,h0]) W:=fJ
theorem zX6{m:Nat}(hi:i<3){v:WE}{W:WB}(h:(fTR m t).p v W):∃r,(∀W',(Instr.index 38 v (.int .i64 (i:Int))).run prog W'=.ok r W')/\(fPV m (cor t i)).p r W:=by
 obtain⟨a,b,c,rfl,I,h2,h3⟩:=h
 obtain⟨a0,a1,a2,a3,a4,a5,rfl⟩:=zOG (zBV _ _ a W I).1
 obtain⟨b0,b1,b2,b3,b4,b5,rfl⟩:=zOG (zBV _ _ b W h2).1
 obtain⟨c0,c1,c2,c3,c4,c5,rfl⟩:=zOG (zBV _ _ c W h3).1
 match i,hi with
 |0,_=>exact⟨_,fun W'=>zZF ..,I⟩
 |1,_=>exact⟨_,fun W'=>zZE ..,h2⟩
 |2,_=>exact⟨_,fun W'=>zZD ..,h3⟩
section
variable {F:Fence}{M:Nat}{w0:WB}{ops:Array Oper}{G:Nat->SF}{d:Tmp}{ty:WF}{pos:String}{aft:Array Edge}
theorem zUn{m:Nat}(hi:i<3)(O:∀v W,(fct G x).p v W->(fTR m t).p v W)(hy:∀v W,(fct G y).p v W->v=.int .i64 (i:Int))(U:∀v W,(fPV m (cor t i)).p v W->(G d).p v W:=by exact fun _ _ h=>h):qO F M prog w0 ops G ⟨some d,.index 38 x y,ty,pos,aft,none⟩:=
 qG (fun _ e=>by cases e) (fun _ e=>by cases e) fun b W hb I=>by
  have e1:=O _ _ (I x (by simp[Op.operands]))
  have J:=hy _ _ (I y (by simp[Op.operands]))
  obtain⟨r,h1,h2⟩:=zX6 hi e1
  exact⟨r,by simp[execOp,J,h1 W],U _ _ h2⟩
end
theorem zIo{m:Nat}{x:WE}(O:(fTR m t).p x W)(J:m<=159)(I:0<m)(U:Tab W):Calls prog 36 #[x] W (Ret W (fI (zBm t)).tS):=by
 refine zZ [(fTR m t).tS] func36 rfl kA ⟨O,trivial⟩ fun a s=>?_
 replace s:=s.renew [(0,.u (fTR m t))] (fU (.inr ⟨_,rfl,.head _⟩) fnz)
 refine lP<|rgK 0 [] s
  zB fun a w1 s=>yL (CU.agg (fTR m t)) rfl s kA (fun v W h=>zM7 h) fun b1 a w s=>yQ (uI 0) rfl s kA iiz fun a w s=>zD rfl<|lP ?_
 replace s:=s.drop [2]
 exact rgE ((3,.X (fTR m t) 0)::(4,.Z (fPV m ((t).1)))::(5,.X (fTR m t) 6)::(6,.Z (fPV m ((t).2.1)))::(7,.X (fTR m t) 12)::(8,.Z (fPV m ((t).2.2)))::(9,.Z (uI (zBm t)))::(2,.u (uI (zBm t)))::[]) s
  (oc (zAM (C:=cg (fTR m t)) 0 0 kA (fun _ _ h=>h.2) iiz)<|oc (zQ (C:=cg (fTR m t)) (k:=0) 6 kA (h:=zGQ))<|oc (zAM (C:=cg (fTR m t)) 1 6 kA (fun _ _ h=>h.2) iiz)<|oc (zQ (C:=cg (fTR m t)) (k:=6) 6 kA (h:=zKR))<|oc (zAM (C:=cg (fTR m t)) 2 12 kA (fun _ _ h=>h.2) iiz)<|oc (zQ (C:=cg (fTR m t)) (k:=12) 6 kA (h:=zHn))<|oc (jG zC zWK (fun u0 u1 u2 W hb (h0:(fPV m ((t).1)).p u0 W) (h1:(fPV m ((t).2.1)).p u1 W) (h2:(fPV m ((t).2.2)).p u2 W)=>zNh h0 h1 h2 J I (U.below (s.up hb))))<|oc zF<|zB) fun a w2 s=>pS<|wF s (t:=2) rfl iiz
theorem zSR{m:Nat}{x y:WE}(h1:(fTR m t).p x W)(h2:(fPV m p).p y W)(O:m<=159)(I:0<m)(hT:Tab W):Calls prog 28 #[x,y] W (Ret W (fI (zBi t p)).tS):=by
 refine zZ [(fTR m t).tS,(fPV m p).tS] func28 rfl kA ⟨h1,h2,trivial⟩ fun a s=>?_
 replace s:=s.renew [(0,.u (fTR m t)),(1,.u (fPV m p))] (fU (.inr ⟨_,rfl,.head _⟩)<|fU (.inr ⟨_,rfl,mz1⟩) fnz)
 refine lP<|rgK 0 [] s
  zB fun a w1 s=>yL (CU.agg (fTR m t)) rfl s kA (fun v W h=>zM7 h) fun b2 a w s=>yL (CU.agg (fPV m p)) rfl s kA (fun v W h=>yV h) fun b3 a w s=>yQ (uI 0) rfl s kA iiz fun a w s=>zD rfl<|rgQ ((5,.u (uI 1))::[]) s
  (oc zF<|zB) fun a w2 s=>lP<|rgQ ((8,.u (fTR m t))::(9,.u (uI 0))::[]) s
  (oc (zT (f:=fTR m t) 18 kA (hz:=zKS _ _))<|oc zA<|zB) fun a w3 s=>tT<|zAs (fun i=>i<=3) (fun i=> [(8,.u (fTR m t)),(5,.u (uI (zIw t p i))),(9,.u (uI ((i:Nat):Int)))]) (fun i=>3-i) (0:Nat) (vS _) (s.keepK _ (fU (.head _)<|fU mz2<|fU mz1 fnz)) fun i a w U s=>rgQ ((10,.u (uB (decide ((i:Int)<3))))::[]) s
  (oc (zI .i64 (i:Int) 3 (decide ((i:Int)<3)) iiz iiz rfl rfl)<|zB) fun a w4 s=>lP<|StS.cond s (decide ((i:Int)<3)) iiz (fun e=>?_) (fun e=>?_)
 .have hi:i<3:=by have:=xX e;omega
  have J:(i+1)%3<3:=vY _ dA
  refine pT<|lP<|tT<|lP<|rgK 2 ((11,.u (uI (i:Int)))::(12,.u (fPV m (cor t i)))::[]) s
   (oc zA<|oc (zUn hi iiz iiz)<|zB) fun a w5 s=>zX (CU.len 6) (cs:=zP6) kA rfl s kA (fun W=>rfl) rfl fun b7 a w s=>yQ (uI (i:Int)) rfl s kA iiz fun a w s=>zM (fPV m (cor t i)) rfl s yY fun a w s=>zD rfl<|zDX (K:=[(6,.u (uI (i:Int))),(11,.u (uI (i:Int))),(12,.u (fPV m (cor t i))),(10,.u (uB (decide ((i:Int)<3)))),(8,.u (fTR m t)),(9,.u (uI (i:Int)))]) [(5,.u (uI (zIw t p i)))] [1,8] 10 ((13,.Z (fPV m (cor t i)))::(14,.Z (uI (i:Int)))::(15,.Z (uI ((i+1:Nat):Int)))::(16,.Z (uI (((i+1)%3:Nat):Int)))::(17,.s (wC ((CU.agg (fTR m t)).cf.at (6*((i+1)%3)))))::(18,.Z (fPV m (cor t ((i+1)%3))))::(19,.Z (fPV m p))::(20,.Z (uI (yP (cor t i) (cor t ((i+1)%3)) p)))::(21,.Z (uI (zIw t p i)))::(22,.u (uI (zIw t p (i+1))))::[]) hmix (s.keepK _ (fU mz5<|fU (.head _)<|fU mz1<|fU mz2<|fU mz3<|fU mz4<|fU mz6 fnz)) kA
   (oc (zK m (cor t i))<|oc zA<|oc (yB .i64 (i:Int) 1 ((i+1:Nat):Int) iiz iiz (wrap64 _ _ oA oA))<|oc (zBv .i64 ((i+1:Nat):Int) 3 (((i+1)%3:Nat):Int) iiz iiz dA (zBK _ 3))<|oc (zAM (C:=cg (fTR m t)) ((i+1)%3) (6*((i+1)%3)) (zIE J) (fun _ _ h=>h.2) iiz)<|oc (zQ (C:=cg (fTR m t)) (k:=6*((i+1)%3)) 6 kA (h:=zM6 J))<|oc (zK m p)<|oc (jG zC zWK (fun u0 u1 u2 W hb (h0:(fPV m (cor t i)).p u0 W) (h1:(fPV m (cor t ((i+1)%3))).p u1 W) (h2:(fPV m p).p u2 W)=>zNh h0 h1 h2 O I (hT.below (s.up hb))))<|oc zA<|oc (zOq (yP (cor t i) (cor t ((i+1)%3)) p) (zIw t p i) iiz iiz)<|zB) fun Q' hQ a w6 s=>yQ (uI (zIw t p (i+1))) rfl s kA iiz fun a w s=>zD rfl (hQ _ _ ?_)
  refine zV 1 ((23,.u (uI ((i+1:Nat):Int)))::[]) s kA
   (oc (yB .i64 (i:Int) 1 ((i+1:Nat):Int) iiz iiz (wrap64 _ _ oA oA))<|zB) fun a w7 s=>?_
  replace s:=s.drop [9]
  refine zBJ (uI ((i+1:Nat):Int)) rfl s kA zA kA fun a w s=>zD rfl ?_
  replace s:=s.popB
  exact⟨i+1,hi,(by show 3-(i+1)<3-i;omega),s.keepK _ (fU mz8<|fU mz2<|fU (.head _) fnz)⟩
 .have hi:i=3:=by have h7:=nF e;have h8:=U;omega
  exact tU<|rgQ ((24,.Z (uI (zIw t p i)))::(4,.u (uI (zIw t p i)))::[]) s
   (oc zA<|oc zF<|zB) fun a w8 s=>pS<|wF s (t:=4) rfl (fun v W h=>by rw[<-zSA,<-hi];exact h)
abbrev trn(t:V6):Rat:=crs t.1 t.2.1 t.2.2
def arK(ts:List V6):Nat->Rat
 |0=>((0:Int):Rat)
 |k+1=>arK ts k+trn (at3 ts k)
theorem zKP(h:∀p,p∈tl t->QB p.1 1/\QB p.2 1):QB (trn t) 13:=
 ((((h t.2.1 fC).1.sub (h t.1 fC).1).mul ((h t.2.2 fC).2.sub (h t.1 fC).2)).sub (((h t.2.1 fC).2.sub (h t.1 fC).2).mul ((h t.2.2 fC).1.sub (h t.1 fC).1))).mono dA
theorem zHg{ts:List V6}(h:∀i,i<ts.length->∀p,p∈tl (at3 ts i)->QB p.1 1/\QB p.2 1):∀k,k<=ts.length->QB (arK ts k) (14*k+1)
 |0,_=>QB.zero oA
 |k+1,hk=>((zHg h k oA).add (zKP (h k oA))).mono oA
theorem zU9(t:V6):arK [t] 1=trn t:=by
 show((0:Int):Rat)+trn t=trn t
 have:((0:Int):Rat)=0:=rfl
 rw[this]
 grind
def prK(ps:List V2):Nat->Rat
 |0=>((0:Int):Rat)
 |k+1=>prK ps k+crd (at_ ps k,at_ ps ((k+1)%ps.length))
theorem zJc{ps:List V2}(h:∀p,p∈ps->QB p.1 1/\QB p.2 1):∀k,k<=ps.length->QB (prK ps k) (6*k+1)
 |0,_=>QB.zero oA
 |k+1,hk=>by
  have I:=h _ (jZ (show k<ps.length from oA))
  have h2:=h _ (jZ (show(k+1)%ps.length<ps.length from vY _ oA))
  exact((zJc h k oA).add (((I.1.mul h2.2).sub (I.2.mul h2.1)).mono (m':=5) dA)).mono oA
theorem zSq(ps:List V2):prK ps ps.length=arE ps:=by
 unfold arE
 rw[zCC,List.map_map]
 have:∀k,prK ps k=((List.range k).map (crd ∘ fun i=>(at_ ps i,at_ ps ((i+1)%ps.length)))).sum:=by
  intro k
  induction k with
  |zero=>rfl
  |succ k ih=>
   show prK ps k+_=_
   rw[ih,eH,rQ,sD]
   simp
   rw[Rat.add_zero]
 exact this _
theorem zUQ{l:WE}(hl:(SF.row 18 (trs 1 ts)).p l W)(hn:ts.length<=12)(hT:Tab W):Calls prog 24 #[l] W (Ret W (fQN (arK ts ts.length)).tS):=by
 refine zZ [(UF.eq l).tS] func24 rfl kA ⟨rfl,trivial⟩ fun a s=>?_
 replace s:=s.renew [(0,.u (UF.eq l))] (fU (.inr ⟨_,rfl,.head _⟩) fnz)
 refine lP<|rgK 0 [] s
  zB fun a w1 s=>zX (CU.len 3) (cs:=zR3) kA rfl s kA (fun W=>rfl) rfl fun b2 a w s=>zD rfl<|lP<|rgK 1 ((6,.u (fQN (arK ts 0)))::[]) s
  (oc (zG zC zUN (fun J W hb (O:J=.int .i64 0)=>zVL 0 O dA))<|zB) fun a w2 s=>zX (CU.len 3) (cs:=zR3) kA rfl s kA (fun W=>rfl) rfl fun b3 a w s=>zM (fQN (arK ts 0)) rfl s zW fun a w s=>zD rfl<|lP<|rgQ ((7,.u (UF.eq l))::(8,.u (uI ((trs 1 ts).length:Int)))::(9,.u (uI 0))::[]) s
  (oc zA<|oc (yK (z:=18) (Cs:=trs 1 ts) kA (yM hl s) (fun _=>rfl))<|oc zA<|zB) fun a w3 s=>tT<|zB4 3 (fun k=>CU.agg (fQN (arK ts k))) (fun k=>k<=ts.length) (fun k=> [(7,.u (UF.eq l)),(8,.u (uI ((trs 1 ts).length:Int))),(9,.u (uI ((k:Nat):Int)))]) (fun k=>ts.length-k) (0:Nat) (vS _) (s.keepK _ (fU (.head _)<|fU mz1<|fU mz2 fnz)) rfl fun k a w hx s=>?_
 have h6:(trs 1 ts).length=ts.length:=fG
 refine rgQ ((10,.u (uB (ltz k ((trs 1 ts).length))))::[]) s
  (oc (zI .i64 (k:Int) ((trs 1 ts).length:Int) (ltz k ((trs 1 ts).length)) iiz iiz rfl rfl)<|zB) fun a w4 s=>lP<|StS.cond s (ltz k ((trs 1 ts).length)) iiz (fun e=>?_) (fun e=>?_)
 .have hk:k<ts.length:=by have:=xX e;rw[h6]at this;omega
  have I:=zKN dA hl hk
  have h5:QB (arK ts k) 200:=(zHg (fun i hi=>zKN dA hl hi) k oA).mono oA
  have h9:QB (trn (at3 ts k)) 200:=(zKP I).mono dA
  have U:QB (((at3 ts k).2.1).1-((at3 ts k).1).1,((at3 ts k).2.1).2-((at3 ts k).1).2).1 3/\QB (((at3 ts k).2.1).1-((at3 ts k).1).1,((at3 ts k).2.1).2-((at3 ts k).1).2).2 3:=⟨((I _ (bZ _ (bV ..))).1.sub (I _ (bV ..)).1).mono dA,((I _ (bZ _ (bV ..))).2.sub (I _ (bV ..)).2).mono dA⟩
  have h4:QB (((at3 ts k).2.2).1-((at3 ts k).1).1,((at3 ts k).2.2).2-((at3 ts k).1).2).1 3/\QB (((at3 ts k).2.2).1-((at3 ts k).1).1,((at3 ts k).2.2).2-((at3 ts k).1).2).2 3:=⟨((I _ (bZ _ (bZ _ (bV ..)))).1.sub (I _ (bV ..)).1).mono dA,((I _ (bZ _ (bZ _ (bV ..)))).2.sub (I _ (bV ..)).2).mono dA⟩
  refine pT<|lP<|tT<|lP<|rgK 2 ((11,.Y (fTR 1 (at3 ts k)))::(12,.u (fTR 1 (at3 ts k)))::[]) s
   (oc (zO (z:=18) (Cs:=trs 1 ts) (i:=k) (C:=CU.agg (fTR 1 (at3 ts k))) kA (zDT hk) (yM hl s) iiz)<|oc (zT (f:=fTR 1 (at3 ts k)) 18 kA (hz:=zKS _ _))<|zB) fun a w5 s=>zX (CU.len 18) (cs:=[.bool false, sN, sN,.bool false, sN, sN,.bool false, sN, sN,.bool false, sN, sN,.bool false, sN, sN,.bool false, sN, sN]) kA rfl s kA (fun W=>rfl) rfl fun b5 a w s=>zM (fTR 1 (at3 ts k)) rfl s zKQ fun a w s=>zD rfl<|yJ [] 14 ((13,.Z (fQN (arK ts k)))::(14,.X (fTR 1 (at3 ts k)) 6)::(15,.Z (fPV 1 ((at3 ts k).2.1)))::(16,.X (fTR 1 (at3 ts k)) 0)::(17,.Z (fPV 1 ((at3 ts k).1)))::(18,.Z (fPN (((at3 ts k).2.1).1-((at3 ts k).1).1,((at3 ts k).2.1).2-((at3 ts k).1).2)))::(19,.X (fTR 1 (at3 ts k)) 12)::(20,.Z (fPV 1 ((at3 ts k).2.2)))::(21,.X (fTR 1 (at3 ts k)) 0)::(22,.Z (fPV 1 ((at3 ts k).1)))::(23,.Z (fPN (((at3 ts k).2.2).1-((at3 ts k).1).1,((at3 ts k).2.2).2-((at3 ts k).1).2)))::(24,.Z (fQN (trn (at3 ts k))))::(25,.s (fQS 200 [(arK ts k),(trn (at3 ts k))]))::(26,.u (fQN (arK ts (k+1))))::[]) hmix s kA
   (oc (zT (f:=fQN (arK ts k)) 3 kA (hz:=yW _))<|oc (zAM (C:=cg (fTR 1 (at3 ts k))) 1 6 kA (fun _ _ h=>h.2) iiz)<|oc (zQ (C:=cg (fTR 1 (at3 ts k))) (k:=6) 6 kA (h:=zKR))<|oc (zAM (C:=cg (fTR 1 (at3 ts k))) 0 0 kA (fun _ _ h=>h.2) iiz)<|oc (zQ (C:=cg (fTR 1 (at3 ts k))) (k:=0) 6 kA (h:=zGQ))<|oc (zH zC zRC (fun J u1 W hb (O:(fPV 1 ((at3 ts k).2.1)).p J W) (h1:(fPV 1 ((at3 ts k).1)).p u1 W)=>zKJ (m:=1) (p:=(at3 ts k).2.1) (q:=(at3 ts k).1) O h1 dA dA (hT.below (s.up hb))))<|oc (zAM (C:=cg (fTR 1 (at3 ts k))) 2 12 kA (fun _ _ h=>h.2) iiz)<|oc (zQ (C:=cg (fTR 1 (at3 ts k))) (k:=12) 6 kA (h:=zHn))<|oc (zAM (C:=cg (fTR 1 (at3 ts k))) 0 0 kA (fun _ _ h=>h.2) iiz)<|oc (zQ (C:=cg (fTR 1 (at3 ts k))) (k:=0) 6 kA (h:=zGQ))<|oc (zH zC zRC (fun J u1 W hb (O:(fPV 1 ((at3 ts k).2.2)).p J W) (h1:(fPV 1 ((at3 ts k).1)).p u1 W)=>zKJ (m:=1) (p:=(at3 ts k).2.2) (q:=(at3 ts k).1) O h1 dA dA (hT.below (s.up hb))))<|oc (zH zC zUL (fun J u1 W hb (O:(fPN (((at3 ts k).2.1).1-((at3 ts k).1).1,((at3 ts k).2.1).2-((at3 ts k).1).2)).p J W) (h1:(fPN (((at3 ts k).2.2).1-((at3 ts k).1).1,((at3 ts k).2.2).2-((at3 ts k).1).2)).p u1 W)=>zHl (m:=3) (p:=(((at3 ts k).2.1).1-((at3 ts k).1).1,((at3 ts k).2.1).2-((at3 ts k).1).2)) (q:=(((at3 ts k).2.2).1-((at3 ts k).1).1,((at3 ts k).2.2).2-((at3 ts k).1).2)) (zBu (p:=(((at3 ts k).2.1).1-((at3 ts k).1).1,((at3 ts k).2.1).2-((at3 ts k).1).2)) (m:=3) U.1 U.2 O) (zBu (p:=(((at3 ts k).2.2).1-((at3 ts k).1).1,((at3 ts k).2.2).2-((at3 ts k).1).2)) (m:=3) h4.1 h4.2 h1) U h4 dA dA (hT.below (s.up hb))))<|oc (z9 (fun u v W (hu:QNp (arK ts k) u W) (hv:QNp (trn (at3 ts k)) v W)=>zFW (m:=200) (wH hu h5) (wH hv h9)))<|oc (zG zC zUM (fun J W hb (O:(fQS 200 [(arK ts k),(trn (at3 ts k))]).p J W)=>zJ2 (m:=200) (p:=arK ts k) (q:=trn (at3 ts k)) O h5 h9 dA (hT.below (s.up hb))))<|zB) fun Q' hQ a w6 s=>zAr (CU.agg (fQN (arK ts (k+1)))) ((fQN (arK ts (k+1))).tS) rfl s kA rfl rfl rfl (yW _) iiz zW fun a w s=>zD rfl (hQ _ _ ?_)
  refine zV 1 ((27,.u (uI ((k+1:Nat):Int)))::[]) s kA
   (oc (yB .i64 (k:Int) 1 ((k+1:Nat):Int) iiz iiz (wrap64 _ _ oA oA))<|zB) fun a w7 s=>?_
  replace s:=s.drop [9]
  refine zBJ (uI ((k+1:Nat):Int)) rfl s kA zA kA fun a w s=>zD rfl ?_
  replace s:=s.popB
  exact⟨k+1,hk,(by show ts.length-(k+1)<ts.length-k;omega),s.keepK _ (fU mz5<|fU mz6<|fU (.head _) fnz)⟩
 .have hd:k=ts.length:=by have h7:=nF e;rw[h6]at h7;omega
  subst hd
  exact tU<|lP<|rgK 1 ((28,.u (fQN (arK ts ts.length)))::[]) s
   (oc (zT (f:=fQN (arK ts ts.length)) 3 kA (hz:=yW _))<|zB) fun a w8 s=>zM (fQN (arK ts ts.length)) rfl s zW fun a w s=>zD rfl<|pS<|wK s (CU.agg (fQN (arK ts ts.length))) rfl kA rfl rfl (yW _) (fun cs W h=>h)
theorem zUw{l:WE}(O:(SF.row 6 (pvs 1 ps)).p l W)(hn:ps.length<=12)(hT:Tab W):Calls prog 91 #[l] W (Ret W (fQN (prK ps ps.length)).tS):=by
 have I:=zI9 dA O
 refine zZ [(UF.eq l).tS] func91 rfl kA ⟨rfl,trivial⟩ fun a s=>?_
 replace s:=s.renew [(0,.u (UF.eq l))] (fU (.inr ⟨_,rfl,.head _⟩) fnz)
 refine lP<|rgK 0 [] s
  zB fun a w1 s=>zX (CU.len 3) (cs:=zR3) kA rfl s kA (fun W=>rfl) rfl fun b2 a w s=>zD rfl<|lP<|rgK 1 ((6,.u (fQN (prK ps 0)))::[]) s
  (oc (zG zC zUN (fun u0 W hb (h0:u0=.int .i64 0)=>zVL 0 h0 dA))<|zB) fun a w2 s=>zX (CU.len 3) (cs:=zR3) kA rfl s kA (fun W=>rfl) rfl fun b3 a w s=>zM (fQN (prK ps 0)) rfl s zW fun a w s=>zD rfl<|lP<|rgQ ((7,.u (UF.eq l))::(8,.u (uI ((pvs 1 ps).length:Int)))::(9,.u (uI 0))::[]) s
  (oc zA<|oc (yK (z:=6) (Cs:=pvs 1 ps) kA (yM O s) (fun _=>rfl))<|oc zA<|zB) fun a w3 s=>tT<|zB4 3 (fun k=>CU.agg (fQN (prK ps k))) (fun k=>k<=ps.length) (fun k=> [(0,.u (UF.eq l)),(7,.u (UF.eq l)),(8,.u (uI ((pvs 1 ps).length:Int))),(9,.u (uI ((k:Nat):Int)))]) (fun k=>ps.length-k) (0:Nat) (vS _) (s.keepK _ (fU mz4<|fU (.head _)<|fU mz1<|fU mz2 fnz)) rfl fun k a w hx s=>?_
 have J:(pvs 1 ps).length=ps.length:=fG
 refine rgQ ((10,.u (uB (ltz k ((pvs 1 ps).length))))::[]) s
  (oc (zI .i64 (k:Int) ((pvs 1 ps).length:Int) (ltz k ((pvs 1 ps).length)) iiz iiz rfl rfl)<|zB) fun a w4 s=>lP<|StS.cond s (ltz k ((pvs 1 ps).length)) iiz (fun e=>?_) (fun e=>?_)
 .have hk:k<ps.length:=by have:=xX e;rw[J]at this;omega
  have hj:(k+1)%ps.length<ps.length:=vY _ oA
  have U:QB (prK ps k) 200:=(zJc I k oA).mono oA
  have h8:QB (crd ((at_ ps k),(tn ps k))) 200:=((((I _ (jZ hk)).1.mul (I _ (jZ hj)).2).sub ((I _ (jZ hk)).2.mul (I _ (jZ hj)).1)).mono (m':=5) dA).mono dA
  refine pT<|lP<|tT<|lP<|rgK 3 ((11,.u (uI (k:Int)))::(12,.Y (fPV 1 (at_ ps k)))::(13,.u (fPV 1 (at_ ps k)))::[]) s
   (oc zA<|oc (zO (z:=6) (Cs:=pvs 1 ps) (i:=k) (C:=CU.agg (fPV 1 (at_ ps k))) kA (qJ hk) (yM O s) iiz)<|oc (zK 1 (at_ ps k))<|zB) fun a w5 s=>zX (CU.len 6) (cs:=zP6) kA rfl s kA (fun W=>rfl) rfl fun b5 a w s=>yQ (uI (k:Int)) rfl s kA iiz fun a w s=>zM (fPV 1 (at_ ps k)) rfl s yY fun a w s=>zD rfl<|yJ [2,3,5] 13 ((14,.Z (fQN (prK ps k)))::(15,.Z (fPV 1 (at_ ps k)))::(16,.Z (UF.eq l))::(17,.Z (uI (k:Int)))::(18,.Z (uI ((k+1:Nat):Int)))::(19,.Z (UF.eq l))::(20,.Z (uI ((pvs 1 ps).length:Int)))::(21,.Z (uI (((k+1)%ps.length:Nat):Int)))::(22,.Y (fPV 1 (tn ps k)))::(23,.Z (fPV 1 (tn ps k)))::(24,.Z (fQN (crd ((at_ ps k),(tn ps k)))))::(25,.s (fQS 200 [(prK ps k),(crd ((at_ ps k),(tn ps k)))]))::(26,.u (fQN (prK ps (k+1))))::[]) hmix s kA
   (oc (zT (f:=fQN (prK ps k)) 3 kA (hz:=yW _))<|oc (zK 1 (at_ ps k))<|oc zA<|oc zA<|oc (yB .i64 (k:Int) 1 ((k+1:Nat):Int) iiz iiz (wrap64 _ _ oA oA))<|oc zA<|oc (yK (z:=6) (Cs:=pvs 1 ps) kA (yM O s) (fun _=>rfl))<|oc (zBv .i64 ((k+1:Nat):Int) ((pvs 1 ps).length:Int) (((k+1)%ps.length:Nat):Int) iiz iiz (by rw[J];omega) (by rw[J];exact zBK _ _))<|oc (zO (z:=6) (Cs:=pvs 1 ps) (i:=((k+1)%ps.length)) (C:=CU.agg (fPV 1 (tn ps k))) kA (qJ hj) (yM O s) iiz)<|oc (zK 1 (tn ps k))<|oc (zH zC zUL (fun u0 u1 W hb (h0:(fPV 1 (at_ ps k)).p u0 W) (h1:(fPV 1 (tn ps k)).p u1 W)=>zHl (m:=1) (p:=(at_ ps k)) (q:=(tn ps k)) h0 h1 (I _ (jZ hk)) (I _ (jZ hj)) dA dA (hT.below (s.up hb))))<|oc (z9 (fun u v W (hu:QNp (prK ps k) u W) (hv:QNp (crd ((at_ ps k),(tn ps k))) v W)=>zFW (m:=200) (wH hu U) (wH hv h8)))<|oc (zG zC zUM (fun u0 W hb (h0:(fQS 200 [(prK ps k),(crd ((at_ ps k),(tn ps k)))]).p u0 W)=>zJ2 (m:=200) (p:=prK ps k) (q:=(crd ((at_ ps k),(tn ps k)))) h0 U h8 dA (hT.below (s.up hb))))<|zB) fun Q' hQ a w6 s=>zAr (CU.agg (fQN (prK ps (k+1)))) ((fQN (prK ps (k+1))).tS) rfl s kA rfl rfl rfl (yW _) iiz zW fun a w s=>zD rfl (hQ _ _ ?_)
  refine zV 1 ((27,.u (uI ((k+1:Nat):Int)))::[]) s kA
   (oc (yB .i64 (k:Int) 1 ((k+1:Nat):Int) iiz iiz (wrap64 _ _ oA oA))<|zB) fun a w7 s=>?_
  replace s:=s.drop [9]
  refine zBJ (uI ((k+1:Nat):Int)) rfl s kA zA kA fun a w s=>zD rfl ?_
  replace s:=s.popB
  exact⟨k+1,hk,(by show ps.length-(k+1)<ps.length-k;omega),s.keepK _ (fU mz7<|fU mz8<|fU mz9<|fU (.head _) fnz)⟩
 .have ha:k=ps.length:=by have h7:=nF e;rw[J]at h7;omega
  subst ha
  exact tU<|lP<|rgK 1 ((28,.u (fQN (prK ps ps.length)))::[]) s
   (oc (zT (f:=fQN (prK ps ps.length)) 3 kA (hz:=yW _))<|zB) fun a w8 s=>zM (fQN (prK ps ps.length)) rfl s zW fun a w s=>zD rfl<|pS<|wK s (CU.agg (fQN (prK ps ps.length))) rfl kA rfl rfl (yW _) (fun cs W h=>h)
theorem zWh{l:WE}(U:(SF.row 6 (pvs 1 ps)).p l W)(hn:ps.length<=12)(hT:Tab W):Calls prog 62 #[l] W (Ret W (fI ((arE ps).num.sign)).tS):=by
 have I:=zI9 dA U
 refine zZ [SF.row 6 (pvs 1 ps)] func62 rfl kA ⟨U,trivial⟩ fun a s=>rgQ ((2,.u (uI 0))::[]) s
  (oc zF<|zB) fun a w1 s=>lP ?_
 replace s:=s.drop [2]
 exact rgE ((3,.s (SF.row 6 (pvs 1 ps)))::(4,.Z (fQN (prK ps ps.length)))::(5,.Z (uI ((arE ps).num.sign)))::(2,.u (uI ((arE ps).num.sign)))::[]) s
  (oc zA<|oc (zG zC zYi (fun J W hb (O:(SF.row 6 (pvs 1 ps)).p J W)=>zUw O hn (hT.below (s.up hb))))<|oc (zG zC zWx (fun J W hb (O:QNp (prK ps ps.length) J W)=>(zNG (m:=200) (wH O ((zJc I _ lr).mono oA)) dA dA (hT.below (s.up hb))).mono (wG (fun v W h=>by rw[<-zSq];exact h))))<|oc zF<|zB) fun a w2 s=>pS<|wF s (t:=2) rfl iiz
def atK(ps:List V2)(k:Nat):Int:=if k=0 then -1 else((fK ps k:Nat):Int)
theorem zE7(h:0<k):atK ps k=((fK ps k:Nat):Int):=if_neg oA
theorem zRy(ps:List V2){k:Nat}(h:0<k):fK ps k<k:=by
 obtain⟨n,rfl⟩:∃n,k=n+1:=⟨k-1,oA⟩
 have:=zWr ps n
 omega
theorem zU5(ps:List V2):atK ps 1=((0:Nat):Int):=by
 rw[zE7 dA]
 have:=zRy ps (show 0<1 from fH)
 omega
theorem zU7(e:decide (zAy (at_ ps k) (at_ ps (fK ps k))<0)=true):atK ps (k+1)=(k:Int):=by
 rw[zE7 oA]
 congr 1
 show(if _ then k else fK ps k)=k
 exact if_pos (xX e)
theorem zU6(e:decide (zAy (at_ ps k) (at_ ps (fK ps k))<0)=false):atK ps (k+1)=((fK ps k:Nat):Int):=by
 rw[zE7 oA]
 congr 1
 show(if _ then k else fK ps k)=fK ps k
 exact if_neg (nF e)
theorem zKT{m:Nat}{l:WE}(U:(SF.row 6 (pvs m ps)).p l W)(hm:m<=100)(h4:0<m)(hn:ps.length<=1000000)(hT:Tab W):Calls prog 66 #[l] W (Ret W (fI (atK ps ps.length)).tS):=by
 refine zZ [(UF.eq l).tS] func66 rfl kA ⟨rfl,trivial⟩ fun a s=>?_
 replace s:=s.renew [(0,.u (UF.eq l))] (fU (.inr ⟨_,rfl,.head _⟩) fnz)
 refine rgQ ((2,.u (uI 0))::[]) s
  (oc zF<|zB) fun a w1 s=>rgQ ((3,.u (uI (-1)))::[]) s
  (oc zF<|zB) fun a w2 s=>lP<|rgQ ((6,.u (UF.eq l))::(7,.u (uI ((pvs m ps).length:Int)))::(8,.u (uI 0))::[]) s
  (oc zA<|oc (yK (z:=6) (Cs:=pvs m ps) kA (yM U s) (fun _=>rfl))<|oc zA<|zB) fun a w3 s=>tT<|zAs (fun k=>k<=ps.length) (fun k=> [(0,.u (UF.eq l)),(6,.u (UF.eq l)),(7,.u (uI ((pvs m ps).length:Int))),(3,.u (uI (atK ps k))),(8,.u (uI ((k:Nat):Int)))]) (fun k=>ps.length-k) (0:Nat) (vS _) (s.keepK _ (fU mz5<|fU (.head _)<|fU mz1<|fU mz3<|fU mz2 fnz)) fun k a w hx s=>?_
 have I:(pvs m ps).length=ps.length:=fG
 refine rgQ ((9,.u (uB (ltz k ((pvs m ps).length))))::[]) s
  (oc (zI .i64 (k:Int) ((pvs m ps).length:Int) (ltz k ((pvs m ps).length)) iiz iiz rfl rfl)<|zB) fun a w4 s=>lP<|StS.cond s (ltz k ((pvs m ps).length)) iiz (fun e=>?_) (fun e=>?_)
 .have O:k<ps.length:=by have:=xX e;rw[I]at this;omega
  refine pT<|lP<|tT<|lP<|rgK 3 ((10,.u (uI (k:Int)))::(11,.Y (fPV m (at_ ps k)))::(12,.u (fPV m (at_ ps k)))::[]) s
   (oc zA<|oc (zO (z:=6) (Cs:=pvs m ps) (i:=k) (C:=CU.agg (fPV m (at_ ps k))) kA (qJ O) (yM U s) iiz)<|oc (zK m (at_ ps k))<|zB) fun a w5 s=>zX (CU.len 6) (cs:=zP6) kA rfl s kA (fun W=>rfl) rfl fun b5 a w s=>yQ (uI (k:Int)) rfl s kA iiz fun a w s=>zM (fPV m (at_ ps k)) rfl s yY fun a w s=>zD rfl<|lP ?_
  rcases uJ k with J|J
  .refine rgE ((13,.Z (uI (atK ps k)))::(14,.Z (uB true))::(15,.Z (uB true))::(23,.u (uB true))::[]) s
    (oc zA<|oc (zI .i64 (atK ps k) 0 true iiz iiz (by subst J;rfl) rfl)<|oc zA<|oc (zE 15 true kA iiz fS (fun _ _=>trivial))<|oc (zE 15 true kA iiz fS (fun _ _=>trivial))<|oc (zE 15 true kA iiz fS (fun _ _=>trivial))<|oc (zE 15 true kA iiz fS (fun _ _=>trivial))<|oc (zE 15 true kA iiz fS (fun _ _=>trivial))<|oc (zE 15 true kA iiz fS (fun _ _=>trivial))<|oc (zE 15 true kA iiz fS (fun _ _=>trivial))<|oc (yC true iiz fD fS)<|zB) fun a w6 s=>?_
   refine StS.cond s true iiz (fun e=>?_) fS
   replace s:=s.drop [3]
   refine rgE ((24,.Z (uI (k:Int)))::(3,.u (uI (atK ps (k+1))))::[]) s
    (oc zA<|oc (zF (fun v W _ h=>by rw[show atK ps (k+1)=(k:Int) by subst J;exact zU5 ps];exact h))<|zB) fun a w7 s=>zV 1 ((25,.u (uI ((k+1:Nat):Int)))::[]) s kA
    (oc (yB .i64 (k:Int) 1 ((k+1:Nat):Int) iiz iiz (wrap64 _ _ oA oA))<|zB) fun a w8 s=>?_
   replace s:=s.drop [8]
   refine zBJ (uI ((k+1:Nat):Int)) rfl s kA zA kA fun a w s=>zD rfl ?_
   replace s:=s.popB
   exact⟨k+1,O,(by show ps.length-(k+1)<ps.length-k;omega),s.keepK _ (fU mz8<|fU mz9<|fU zKe<|fU mz2<|fU (.head _) fnz)⟩
  .have hf:fK ps k<ps.length:=by have:=zRy ps J;omega
   rw[zE7 J]at s
   refine rgE ((13,.Z (uI ((fK ps k:Nat):Int)))::(14,.Z (uB false))::(15,.Z (uB false))::(16,.Z (fPV m (at_ ps k)))::(17,.Z (UF.eq l))::(18,.Z (uI ((fK ps k:Nat):Int)))::(19,.Y (fPV m (at_ ps (fK ps k))))::(20,.Z (fPV m (at_ ps (fK ps k))))::(21,.Z (uI (zAy (at_ ps k) (at_ ps (fK ps k)))))::(22,.Z (uB (decide (zAy (at_ ps k) (at_ ps (fK ps k))<0))))::(23,.u (uB (decide (zAy (at_ ps k) (at_ ps (fK ps k))<0))))::[]) s
    (oc zA<|oc (zI .i64 ((fK ps k:Nat):Int) 0 false iiz iiz (xZ oA) rfl)<|oc zA<|oc (zE 15 false kA iiz (fun _=>zT (f:=fPV m (at_ ps k)) 6 kA (hz:=y9 _ _)) arf)<|oc (zE 15 false kA iiz (fun _=>zA) arf)<|oc (zE 15 false kA iiz (fun _=>zA) arf)<|oc (zE 15 false kA iiz (fun _=>zO (z:=6) (Cs:=pvs m ps) (i:=(fK ps k)) (C:=CU.agg (fPV m (at_ ps (fK ps k)))) kA (qJ hf) (yM U s) iiz) arf)<|oc (zE 15 false kA iiz (fun _=>zT (f:=fPV m (at_ ps (fK ps k))) 6 kA (hz:=y9 _ _)) arf)<|oc (zE 15 false kA iiz (fun _=>zH zC zYh (fun u0 u1 W hb (h0:(fPV m (at_ ps k)).p u0 W) (h1:(fPV m (at_ ps (fK ps k))).p u1 W)=>zVn (m:=m) h0 h1 oA h4 (hT.below (s.up hb)))) arf)<|oc (zE 15 false kA iiz (fun _=>zI .i64 (zAy (at_ ps k) (at_ ps (fK ps k))) 0 (decide (zAy (at_ ps k) (at_ ps (fK ps k))<0)) iiz iiz rfl rfl) arf)<|oc (yC false iiz fS fD)<|zB) fun a w9 s=>StS.cond s (decide (zAy (at_ ps k) (at_ ps (fK ps k))<0)) iiz (fun e=>?_) (fun e=>?_)
   .replace s:=s.drop [3]
    refine rgE ((24,.Z (uI (k:Int)))::(3,.u (uI (atK ps (k+1))))::[]) s
     (oc zA<|oc (zF (fun v W _ h=>by rw[zU7 e];exact h))<|zB) fun a w10 s=>zV 1 ((25,.u (uI ((k+1:Nat):Int)))::[]) s kA
     (oc (yB .i64 (k:Int) 1 ((k+1:Nat):Int) iiz iiz (wrap64 _ _ oA oA))<|zB) fun a w11 s=>?_
    replace s:=s.drop [8]
    refine zBJ (uI ((k+1:Nat):Int)) rfl s kA zA kA fun a w s=>zD rfl ?_
    replace s:=s.popB
    exact⟨k+1,O,(by show ps.length-(k+1)<ps.length-k;omega),s.keepK _ (fU mz8<|fU mz9<|fU zKe<|fU mz2<|fU (.head _) fnz)⟩
   .rw[<-zU6 e]at s
    refine pT<|zV 1 ((25,.u (uI ((k+1:Nat):Int)))::[]) s kA
     (oc (yB .i64 (k:Int) 1 ((k+1:Nat):Int) iiz iiz (wrap64 _ _ oA oA))<|zB) fun a w12 s=>?_
    replace s:=s.drop [8]
    refine zBJ (uI ((k+1:Nat):Int)) rfl s kA zA kA fun a w s=>zD rfl ?_
    replace s:=s.popB
    exact⟨k+1,O,(by show ps.length-(k+1)<ps.length-k;omega),s.keepK _ (fU mz7<|fU mz8<|fU mz9<|fU zKe<|fU (.head _) fnz)⟩
 .have h5:k=ps.length:=by have h7:=nF e;rw[I]at h7;omega
  exact tU<|rgQ ((26,.Z (uI (atK ps k)))::(2,.u (uI (atK ps k)))::[]) s
   (oc zA<|oc zF<|zB) fun a w13 s=>pS<|wF s (t:=2) rfl (fun v W h=>by rw[<-h5];exact h)
abbrev eR(m:Nat)(ps:List V2)(idx:Nat->Nat)(k:Nat):List UF:=[fPV m (at_ ps (idx k))]
def zPM(F S:Int)(n:Nat)(idx:Nat->Nat):Prop:= -1<=S/\S<=1/\-1000000<=F/\F<=1000000/\∀i,i<n->idx i<n/\((0<=(F+(i:Int)*S).tmod (n:Int)/\(F+(i:Int)*S).tmod (n:Int)=((idx i:Nat):Int))∨((F+(i:Int)*S).tmod (n:Int)<0/\(F+(i:Int)*S).tmod (n:Int)+(n:Int)=((idx i:Nat):Int)))
theorem zTN{m b1 b2 b3:Nat}{F S:Int}{l:WE}(hw:w_.heap[b1]?=some (.cells #[l] 22 (0,0)))(hs:w_.heap[b2]?=some (.cells #[.int .i64 F] 3 (0,0)))(hE:w_.heap[b3]?=some (.cells #[.int .i64 S] 3 (0,0)))(hl:(SF.row 6 (pvs m ps)).p l w0)(hB:bW w0 w_)(hP:∀k,C k->w0.heap.size<=k)(q4: ¬C b1)(hX: ¬C b2)(qe: ¬C b3)(hn:ps.length<=1000000)(hR:zPM F S ps.length idx):
  ItD prog 122 #[pO b1 0,pO b2 0,pO b3 0] (eR m ps idx) ps.length C w_:=by
 intro l_ J Z W hwW he hkW h0 hU U qc
 obtain⟨hS1,hS2,hF1,hF2,hT⟩:=hR
 have q5:=zEi hl
 have hK:w0.heap.size<=w_.heap.size:=hB.size
 have h8:bW w0 W:=hB.trans (he.mono hB.size)
 have q3:=(SF.row 6 (pvs m ps)).st _ _ _ hl h8
 have q1:W.heap[b1]?=some (.cells #[l] 22 (0,0)):=(he.block b1 (xQ.1 hw).1).trans hw
 have qj:W.heap[b2]?=some (.cells #[.int .i64 F] 3 (0,0)):=(he.block b2 (xQ.1 hs).1).trans hs
 have qa:W.heap[b3]?=some (.cells #[.int .i64 S] 3 (0,0)):=(he.block b3 (xQ.1 hE).1).trans hE
 refine zIc func122 rfl ?_
 have s:=zHw (w:=W) (fn:=f122) (args:=#[.func (.yield l_) #[] #[]]++#[pO b1 0,pO b2 0,pO b3 0]) noS [(0,UF.eq (.func (.yield l_) #[] #[]))] [⟨1,22,wD [l],b1,true⟩,⟨2,3,wD [.int .i64 F],b2,true⟩,⟨3,3,wD [.int .i64 S],b3,true⟩] kA (fun q I=>by obtain rfl:=tV.1 I;exact⟨fG,rfl⟩) ⟨⟨[l],rfl,.inl rfl,q1,rfl,by simp[q5.2],fun y hy=>.inr ⟨rfl,by rcases xS.1 hy with rfl|hy;rfl;obtain rfl:=tV.1 hy;rfl⟩⟩,⟨[.int .i64 F],rfl,.inl rfl,qj,rfl,rfl,fun y hy=>.inr ⟨rfl,by obtain rfl:=tV.1 hy;rfl⟩⟩,⟨[.int .i64 S],rfl,.inl rfl,qa,rfl,rfl,fun y hy=>by cases hy⟩,trivial⟩ (fun x hx=>by
  simp only[xS,rL,rK]at hx
  rcases hx with rfl|rfl|rfl
  .show 1<4;decide
  .show 2<4;decide
  .show 3<4;decide)
 generalize({ tmps:=#[.func (.yield l_) #[] #[]]++#[pO b1 0,pO b2 0,pO b3 0]++Array.replicate (f122.ntmps-(#[.func (.yield l_) #[] #[]]++#[pO b1 0,pO b2 0,pO b3 0]:Array WE).size) undef,defers:=[] }:Act)=a at s ⊢
 have h6:(pvs m ps).length=ps.length:=fG
 have hA:∀q, ¬inB [⟨1,22,wD [l],b1,true⟩,⟨2,3,wD [.int .i64 F],b2,true⟩,⟨3,3,wD [.int .i64 S],b3,true⟩] q:=fun q ⟨x,hx,_,hr⟩=>by
  simp only[xS,rL,rK]at hx
  rcases hx with rfl|rfl|rfl<;>cases hr
 have hO:∀x,x∈([⟨1,22,wD [l],b1,true⟩,⟨2,3,wD [.int .i64 F],b2,true⟩,⟨3,3,wD [.int .i64 S],b3,true⟩]:List Bx)->x.b<w_.heap.size/\ ¬C x.b:=fun x hx=>by
  simp only[xS,rL,rK]at hx
  rcases hx with rfl|rfl|rfl
  .exact⟨(xQ.1 hw).1,q4⟩
  .exact⟨(xQ.1 hs).1,hX⟩
  .exact⟨(xQ.1 hE).1,qe⟩
 refine rgQ ((7,.u (UF.eq l))::(8,.u (uI ((pvs m ps).length:Int)))::(9,.u (uI 0))::[]) s
  (oc (qE (C:=(wD [l]).cf) kA (fun _ _ h=>h.2) zAS)<|oc (yK (z:=6) (Cs:=pvs m ps) kA (yM q3 s) (fun _=>rfl))<|oc zA<|zB) fun a w1 s=>tT ?_
 have qf:J 0 (fun _=>False) w1:=h0 _ _ _ _ _ qc s.below (fun q I=>I.elim)
 have hV:=h8.trans (s.below.mono h8.size)
 have q0:=s.gr.size
 replace s:=(s.keepK [(0,.u (UF.eq (.func (.yield l_) #[] #[]))),(7,.u (UF.eq l)),(8,.u (uI ((pvs m ps).length:Int))),(9,.u (uI ((0:Nat):Int)))] (fU mz3<|fU (.head _)<|fU mz1<|fU mz2 fnz)).self (y6 kA)
 refine zDz (fun k a w=>k<=ps.length/\J k (fun _=>False) w/\bW w0 w/\W.heap.size<=w.heap.size/\StS (inB [⟨1,22,wD [l],b1,true⟩,⟨2,3,wD [.int .i64 F],b2,true⟩,⟨3,3,wD [.int .i64 S],b3,true⟩]) w [(0,.u (UF.eq (.func (.yield l_) #[] #[]))),(7,.u (UF.eq l)),(8,.u (uI ((pvs m ps).length:Int))),(9,.u (uI ((k:Nat):Int)))] [⟨1,22,wD [l],b1,true⟩,⟨2,3,wD [.int .i64 F],b2,true⟩,⟨3,3,wD [.int .i64 S],b3,true⟩] f122.ntmps [] a w) (fun k=>ps.length-k) 0 ⟨vS _,qf,hV,q0,s⟩ fun k a w ⟨hk',hJ,h5,hL,s⟩=>?_
 replace s:=s.toSt hA rfl
 have hd:=(SF.row 6 (pvs m ps)).st _ _ _ hl h5
 refine rgQ ((10,.u (uB (ltz k ((pvs m ps).length))))::[]) s
  (oc (zI .i64 (k:Int) ((pvs m ps).length:Int) (ltz k ((pvs m ps).length)) iiz iiz rfl rfl)<|zB) fun a w2 s=>lP<|StS.cond s (ltz k ((pvs m ps).length)) iiz (fun e=>?_) (fun e=>?_)
 .have hk:k<ps.length:=by have h7:=xX e;rw[h6]at h7;omega
  obtain⟨hN,hZ⟩:=hT k hk
  have hkS: -1000000<=(k:Int)*S/\(k:Int)*S<=1000000:=by
   rcases(oA:S= -1∨S=0∨S=1)with rfl|rfl|rfl<;>omega
  refine pT<|lP<|tT<|rgQ ((11,.s (uI (k:Int)).tS)::(5,.u (uI (k:Int)))::[]) s
   (oc zA<|oc zF<|zB) fun a w3 s=>rgQ ((12,.s (uI F).tS)::(13,.s (uI (k:Int)).tS)::(14,.s (uI S).tS)::(15,.s (uI ((k:Int)*S)).tS)::(16,.s (uI (F+(k:Int)*S)).tS)::(17,.s (UF.eq l).tS)::(18,.s (uI ((pvs m ps).length:Int)).tS)::(19,.s (uI ((F+(k:Int)*S).tmod (ps.length:Int))).tS)::(6,.u (uI ((F+(k:Int)*S).tmod (ps.length:Int))))::[]) s
   (oc (qE (C:=(wD [.int .i64 F]).cf) kA (fun _ _ h=>h.2) zAS)<|oc zA<|oc (qE (C:=(wD [.int .i64 S]).cf) kA (fun _ _ h=>h.2) zAS)<|oc (zUl .i64 (k:Int) S ((k:Int)*S) iiz iiz (by rw[sT];omega))<|oc (yB .i64 F ((k:Int)*S) (F+(k:Int)*S) iiz iiz (by rw[sT];omega))<|oc (qE (C:=(wD [l]).cf) kA (fun _ _ h=>h.2) zAS)<|oc (yK (z:=6) (Cs:=pvs m ps) kA (yM hd s) (fun _=>rfl))<|oc (zBv .i64 (F+(k:Int)*S) ((pvs m ps).length:Int) ((F+(k:Int)*S).tmod (ps.length:Int)) iiz iiz (by rw[h6];omega) (by rw[h6]))<|oc zF<|zB) fun a w4 s=>lP ?_
  rcases hZ with⟨q2,hm⟩|⟨q2,hm⟩
  .refine lP ?_
   refine rgE ((20,.s (uI ((F+(k:Int)*S).tmod (ps.length:Int))).tS)::(21,.u (uB false))::[]) s
    (oc zA<|oc (zI .i64 ((F+(k:Int)*S).tmod (ps.length:Int)) 0 false iiz iiz (xZ oA) rfl)<|zB) fun a w5 s=>StS.cond s false iiz fS (fun e=>?_)
   refine pT ?_
   rw[hm]at s
   refine lP<|rgK 5 ((26,.u (UF.eq (.func (.yield l_) #[] #[])))::(27,.s (UF.eq l).tS)::(28,.s (uI ((idx k:Nat):Int)).tS)::(29,.Y (fPV m (at_ ps (idx k))))::(30,.u (fPV m (at_ ps (idx k))))::[]) s
    (oc zA<|oc (qE (C:=(wD [l]).cf) kA (fun _ _ h=>h.2) zAS)<|oc zA<|oc (zO (z:=6) (Cs:=pvs m ps) (i:=idx k) (C:=CU.agg (fPV m (at_ ps (idx k)))) kA (qJ hN) (yM hd s) iiz)<|oc (zK m (at_ ps (idx k)))<|zB) fun a w4 s=>?_
   have hu:J k (fun _=>False) w4:=h0 _ _ _ _ _ hJ s.below (fun q I=>I.elim)
   have h4:=h5.trans (s.below.mono h5.size)
   have qg:W.heap.size<=w4.heap.size:=xR hL s.gr.size
   refine zHq rfl s iiz kA (y6 kA) hO (U _ _ _ _ hk hu (fun q I=>I.elim) ⟨fG,fun i f hi=>?_⟩) fun a w5 bv hr h9 s=>?_
   .match i,hi with
    |0,hi=>obtain rfl:=nM hi;rw[zWs];exact s.at.sl 30
   have hM:=hr.size
   have O:=zGW h4 hr hK hP
   have hF:bv=false->Z w5:=fun e2=>by rcases h9 with⟨e3,_⟩|⟨_,hz⟩;rw[e2]at e3;cases e3;exact hz
   have hC:bv=true->J (k+1) (fun _=>False) w5:=fun e2=>by rcases h9 with⟨_,hj⟩|⟨e3,_⟩;exact hj;rw[e2]at e3;cases e3
   replace s:=s.toSt hA rfl
   refine zBJ (uB (!bv)) rfl s kA (zFd bv iiz (fun _=>rfl)) kA fun a w s=>zD rfl<|StS.cond s (!bv) iiz (fun e=>?_) (fun e=>?_)
   .have hz:=hF (by simpa using e)
    exact pS<|⟨s.nd,.tuple #[],by simp[results,results122],⟨_,rfl⟩,.inr (hU _ _ hz s.below)⟩
   .have ho:=hC (by simpa using e)
    refine pT<|zV 1 ((33,.u (uI ((k+1:Nat):Int)))::[]) s kA
     (oc (yB .i64 (k:Int) 1 ((k+1:Nat):Int) iiz iiz (wrap64 _ _ oA oA))<|zB) fun a w6 s=>?_
    replace s:=s.drop [9]
    refine zBJ (uI ((k+1:Nat):Int)) rfl s kA zA kA fun a w7 s=>zD rfl ?_
    have hS:=s.gr.size
    refine⟨k+1,by show ps.length-(k+1)<ps.length-k;omega,hk,h0 _ _ _ _ _ ho s.below (fun q I=>I.elim),O.trans (s.below.mono O.size),oA,(s.keepK _ ?_).self (y6 kA)⟩
    exact fmz ⟨zKe,fU zSz<|fU zRg<|fU (.head _) fnz⟩
  .refine lP ?_
   refine rgE ((20,.s (uI ((F+(k:Int)*S).tmod (ps.length:Int))).tS)::(21,.u (uB true))::[]) s
    (oc zA<|oc (zI .i64 ((F+(k:Int)*S).tmod (ps.length:Int)) 0 true iiz iiz (lH oA) rfl)<|zB) fun a w5 s=>StS.cond s true iiz (fun e=>?_) fS
   refine zV 4 ((22,.s (uI ((F+(k:Int)*S).tmod (ps.length:Int))).tS)::(23,.s (UF.eq l).tS)::(24,.s (uI ((pvs m ps).length:Int)).tS)::(25,.u (uI ((idx k:Nat):Int)))::[]) s kA
    (oc zA<|oc (qE (C:=(wD [l]).cf) kA (fun _ _ h=>h.2) zAS)<|oc (yK (z:=6) (Cs:=pvs m ps) kA (yM hd s) (fun _=>rfl))<|oc (yB .i64 ((F+(k:Int)*S).tmod (ps.length:Int)) ((pvs m ps).length:Int) ((idx k:Nat):Int) iiz iiz (by rw[h6,hm];exact wrap64 _ _ rfl oA))<|zB) fun a w6 s=>?_
   replace s:=s.drop [6]
   refine yQ (uI ((idx k:Nat):Int)) rfl s kA iiz fun a w s=>zD rfl<|lP<|rgK 5 ((26,.u (UF.eq (.func (.yield l_) #[] #[])))::(27,.s (UF.eq l).tS)::(28,.s (uI ((idx k:Nat):Int)).tS)::(29,.Y (fPV m (at_ ps (idx k))))::(30,.u (fPV m (at_ ps (idx k))))::[]) s
    (oc zA<|oc (qE (C:=(wD [l]).cf) kA (fun _ _ h=>h.2) zAS)<|oc zA<|oc (zO (z:=6) (Cs:=pvs m ps) (i:=idx k) (C:=CU.agg (fPV m (at_ ps (idx k)))) kA (qJ hN) (yM hd s) iiz)<|oc (zK m (at_ ps (idx k)))<|zB) fun a w4 s=>?_
   have hu:J k (fun _=>False) w4:=h0 _ _ _ _ _ hJ s.below (fun q I=>I.elim)
   have h4:=h5.trans (s.below.mono h5.size)
   have qg:W.heap.size<=w4.heap.size:=xR hL s.gr.size
   refine zHq rfl s iiz kA (y6 kA) hO (U _ _ _ _ hk hu (fun q I=>I.elim) ⟨fG,fun i f hi=>?_⟩) fun a w5 bv hr h9 s=>?_
   .match i,hi with
    |0,hi=>obtain rfl:=nM hi;rw[zWs];exact s.at.sl 30
   have hM:=hr.size
   have O:=zGW h4 hr hK hP
   have hF:bv=false->Z w5:=fun e2=>by rcases h9 with⟨e3,_⟩|⟨_,hz⟩;rw[e2]at e3;cases e3;exact hz
   have hC:bv=true->J (k+1) (fun _=>False) w5:=fun e2=>by rcases h9 with⟨_,hj⟩|⟨e3,_⟩;exact hj;rw[e2]at e3;cases e3
   replace s:=s.toSt hA rfl
   refine zBJ (uB (!bv)) rfl s kA (zFd bv iiz (fun _=>rfl)) kA fun a w s=>zD rfl<|StS.cond s (!bv) iiz (fun e=>?_) (fun e=>?_)
   .have hz:=hF (by simpa using e)
    exact pS<|⟨s.nd,.tuple #[],by simp[results,results122],⟨_,rfl⟩,.inr (hU _ _ hz s.below)⟩
   .have ho:=hC (by simpa using e)
    refine pT<|zV 1 ((33,.u (uI ((k+1:Nat):Int)))::[]) s kA
     (oc (yB .i64 (k:Int) 1 ((k+1:Nat):Int) iiz iiz (wrap64 _ _ oA oA))<|zB) fun a w6 s=>?_
    replace s:=s.drop [9]
    refine zBJ (uI ((k+1:Nat):Int)) rfl s kA zA kA fun a w7 s=>zD rfl ?_
    have hS:=s.gr.size
    refine⟨k+1,by show ps.length-(k+1)<ps.length-k;omega,hk,h0 _ _ _ _ _ ho s.below (fun q I=>I.elim),O.trans (s.below.mono O.size),oA,(s.keepK _ ?_).self (y6 kA)⟩
    exact fmz ⟨zSz,fU zRg<|fU zSy<|fU (.head _) fnz⟩
 .have qh:k=ps.length:=by have h7:=nF e;rw[h6]at h7;omega
  exact tU<|⟨s.nd,.tuple #[],by simp[results,results122],⟨_,rfl⟩,.inl ⟨_,by rw[<-qh];exact h0 _ _ _ _ _ hJ s.below (fun q I=>.inl I)⟩⟩
theorem zT9(m:Nat)(ps:List V2):∀C,C∈pvs m ps->CU.ok 6 C:=fun C I=>by
 obtain⟨t,_,rfl⟩:=xH.1 I
 exact zBV _ _
def rgV(ps:List V2)(idx:Nat->Nat):List V2:=(List.range ps.length).map fun k=>at_ ps (idx k)
theorem zTO{m:Nat}(h:k<ps.length):pvs m ((rgV ps idx).take (k+1))=pvs m ((rgV ps idx).take k)++ [CU.agg (fPV m (at_ ps (idx k)))]:=by
 have e:(rgV ps idx)[k]?=some (at_ ps (idx k)):=by unfold rgV;rw[tK,zZ2 h];rfl
 rw[nW,e]
 simp[pvs]
section
variable {S:Nat->Prop}{P:Program}{Q:Exit->Act->WB->Prop}{w0:WB}{K:List (Nat×KF)}{n:Nat}{ds:List Deferred}{a:Act}{w:WB}
theorem ItD.m(h:ItD P gf lb Ef N C w):ItM P gf lb Ef N C (fun _=>False) w:=fun l J Z W O h2 h3 I U _ h6 h7=>h l J Z W O h2 h3 I U (by simpa only[rK]using h6) h7
theorem zNg{g:Operand}{ps:Array Tmp}{assign body:Code}
    (I:Nat->List Bx)(U:List Bx)(cz:Code)(Kr:Nat->List (Nat×KF))(h:StS S w0 K (I 0) n ds a w)
    (hg:∀v W,(Wd.fct (zAb K (I 0)) g).p v W->v=.func (.func gf) #[] lb)(eg:∀args w,(callFunc gf args).run P w=.ok (.enter gf args) w)
    (hh:ItD P gf lb Ef N (inB (I 0)) w){X:Nat->(Nat->Prop)->WB->Prop}{XZ:WB->Prop}(hX:∀k R W W',zD7 W W'->X k R W->X k R W')(he:∀W W',zD7 W W'->XZ W->XZ W')(h0:X 0 (fun _=>False) w)(h9:∀k,(Ef k).length=ps.size)
    (h8:∀k q,q∈Kr k->(q∈K/\zJP q.2=true/\ps.toList.contains q.1=false)∨ ∃(j:Nat) (f:UF),ps[j]?=some q.1/\(Ef k)[j]?=some f/\q.2=.u f)
    (hps:zAf ps.toList=true)(h5:(ps.toList.all fun p=>Nat.blt p n)=true)(h4:((I 0).all fun x=> !ps.toList.contains x.t)=true)
    (hd:∀k,(I k).map zGC=(I 0).map zGC)(hf:U.map zGC=(I 0).map zGC)
    (J:∀l k R xs W,k<N->X k R W->(∀q,R q->w.heap.size+2<=q/\q<W.heap.size)->w.heap.size+2<=W.heap.size->StS S w0 K (I k) n ds a W->StS (fun q=>inB (I 0) q∨W.heap.size<=q∨R q) W (Kr k) (I k) n [] { tmps:=(ps.zip xs).foldl (fun t (p,v)=>t.setIfInBounds p v) a.tmps,defers:=[] } W->
      assign.wpIn (Fence.wide.inRound l) 0 P (Exit.then (fun a1 W1=>BlS (fun q=>inB (I 0) q∨W.heap.size<=q∨R q) W W1/\∀W2,zD7 W1 W2->(∀p,W2.cell? p=W1.cell? p)->(∀K B,StS (fun q=>inB (I 0) q∨W.heap.size<=q∨R q) W K B n [] a1 W1->StS (fun q=>inB (I 0) q∨W.heap.size<=q∨R q) W2 K B n [] a1 W2)->
        body.wpIn (Fence.wide.inRound l) 0 P (zZc (fun a2 W3=>StS (fun q=>inB (I 0) q∨W.heap.size<=q∨R q) W2 [] (I (k+1)) n [] a2 W3/\∃R',(∀q,R' q->R q∨W.heap.size<=q)/\(∀q,R' q->q<W3.heap.size/\∃(cs:Array WE) (t:WF) (z:Nat×Nat),W3.heap[q]?=some (.cells cs t z)/\cs.toList.all zY=true)/\X (k+1) R' W3) cz (fun a2 W3=>StS (fun q=>inB (I 0) q∨W.heap.size<=q∨R q) W2 [] U n [] a2 W3/\XZ W3)) a1 W2) (fun _ _ _=>False))
        { tmps:=(ps.zip xs).foldl (fun t (p,v)=>t.setIfInBounds p v) a.tmps,defers:=[] } W)
    (done:∀D W R,X N R W->StS S w0 K (I N) n (mark D::ds) { a with defers:=mark D::a.defers } W->Q .normal { a with defers:=mark D::a.defers } W)
    (O:∀D W,XZ W->StS S w0 K U n (mark D::ds) { a with defers:=mark D::a.defers } W->cz.wpIn Fence.wide 0 P Q { a with defers:=mark D::a.defers } W):
    (Code.rangeFunc g ps assign body).wpIn Fence.wide 0 P Q a w:=by
  refine zFT I U cz Kr h hg eg (M:=fun _=>False) (fun q hq=>hq.elim) hh.m hX he h0 h9 h8 hps h5 h4 hd hf (fun l k R xs W hk h7 _ hR hz so s=>?_) done O
  simp only[rK]at s ⊢
  refine cW (fun e a W h=>?_) (J l k R xs W hk h7 hR hz so s)
  cases e<;>first
    |exact⟨h.1,fun W2 h1 h2 h3=>cW (fun e a W h=>by
        cases e<;>first
          |exact h
          |exact⟨h.1,h.2.choose,h.2.choose_spec.1,h.2.choose_spec.2.1,h.2.choose_spec.2.2,fun q hq=>hq.elim⟩) (h.2 W2 h1 h2 h3)⟩
    |exact h
end
theorem zUf{m:Nat}{l:WE}(he:bW w00 W)(hj:W.heap[c1]?=some (.cells #[l] 22 (0,0)))(hh:W.heap[c2]?=some (.cells #[.int .i64 FF] 3 (0,0)))(ha:W.heap[c3]?=some (.cells #[.int .i64 SS] 3 (0,0)))(hl:(SF.row 6 (pvs m ps)).p l w00)(hW:ps.length<=1000000)(hR:zPM FF SS ps.length idx):Calls prog 121 #[sN,(.func (.func 122) #[] #[pO c1 0,pO c2 0,pO c3 0])] W (Ret W (wI W 30 6 (pvs m (rgV ps idx)))):=by
 refine zNu [(UF.eq (sN)).tS,(UF.eq (.func (.func 122) #[] #[pO c1 0,pO c2 0,pO c3 0])).tS] func121 rfl kA ⟨rfl,rfl,trivial⟩ fun a s=>?_
 replace s:=s.renew [(0,.u (UF.eq (sN))),(1,.u (UF.eq (.func (.func 122) #[] #[pO c1 0,pO c2 0,pO c3 0])))] (fU (.inr ⟨_,rfl,.head _⟩)<|fU (.inr ⟨_,rfl,mz1⟩) fnz)
 refine lP<|rgK 0 [] s
  zB fun a w1 s=>yL (wD [sN]) rfl s kA (fun v W h=>zG5 h rfl rfl) fun b2 a w s=>yQ (UF.eq (sN)) rfl s kA iiz fun a w s=>zD rfl<|lP<|rgQ ((6,.u (UF.eq (.func (.func 122) #[] #[pO c1 0,pO c2 0,pO c3 0])))::[]) s
  (oc zA<|zB) fun a w2 s=>tT ?_
 obtain⟨hQ,hX,hn,_⟩:=s.boxAt (c:=2) rfl
 obtain rfl:hQ=[sN]:=hn
 obtain⟨base,hbase⟩:∃b,b=w2.heap.size:=⟨_,rfl⟩
 have hY:b2<base:=by rw[hbase];exact s.old _ (.head _)
 have hW2b:W.heap.size<=b2:=s.inB_new ⟨_,.head _,rfl,rfl⟩
 replace s:=s.keepK [(6,.u (UF.eq (.func (.func 122) #[] #[pO c1 0,pO c2 0,pO c3 0])))] (fU (.head _) fnz)
 replace s:StS noS W _ [⟨2,22,CU.len 1,b2,false⟩] f121.ntmps _ a w2:=s.weakB 2 (CU.len 1) rfl (jJ kA) (fun cs W h=>by rw[show cs=_ from h];rfl)
 have U:∀q,inB ([⟨2,22,CU.len 1,b2,false⟩]) q->q=b2:=fun q ⟨x,O,e,_⟩=>by obtain rfl:=tV.1 O;exact e.symm
 have q2:w2.heap[c1]?=some (.cells #[l] 22 (0,0)):=(s.below.block c1 (xQ.1 hj).1).trans hj
 have hn:w2.heap[c2]?=some (.cells #[.int .i64 FF] 3 (0,0)):=(s.below.block c2 (xQ.1 hh).1).trans hh
 have hM:w2.heap[c3]?=some (.cells #[.int .i64 SS] 3 (0,0)):=(s.below.block c3 (xQ.1 ha).1).trans ha
 have hq1:c1<W.heap.size:=(xQ.1 hj).1
 have hq2:c2<W.heap.size:=(xQ.1 hh).1
 have hq3:c3<W.heap.size:=(xQ.1 ha).1
 refine zNg (N:=ps.length) (fun k=> [⟨2,22,CU.len 1,b2,false⟩]) ([⟨2,22,CU.len 1,b2,false⟩]) (.exit 0) (fun k=> [(7,.u (fPV m (at_ ps (idx k))))]) s iiz (enters_of func122 kA rfl) (zTN (w0:=w00) q2 hn hM hl (he.trans (s.below.mono he.size)) (fun q I=>by have:=he.size;rw[U q I];omega) (fun hc=>by have:=U _ hc;omega) (fun hc=>by have:=U _ hc;omega) (fun hc=>by have:=U _ hc;omega) hW hR) (X:=fun k R W'=>base<=W'.heap.size/\∃v,W'.heap[b2]?=some (.cells #[v] 22 (0,0))/\(∀g,v.ownBlock=some g->R g)/\zAO W' base 30 6 v (pvs m ((rgV ps idx).take k))) (XZ:=fun _=>False) (fun k R A B h0 ⟨h1,v,h2,h3,h4⟩=>⟨xR h1 h0.1,v,h0.2 _ _ h2 rfl,h3,h4.keepC h0⟩) fD ⟨by rw[hbase];exact vQ _,_,hX,fun g J=>by simp[Value.ownBlock]at J,zAO.nil _ _ _ _⟩ (fun k=>rfl) ?_ rfl rfl rfl (fun k=>rfl) rfl (fun l_ k R xs WR hk hZ hRr hsz so s=>?_) (fun D WD R q0 s=>?_) (fun D WD hz s=>hz.elim)
 .intro k q I
  obtain rfl:=tV.1 I
  exact .inr ⟨0,_,rfl,rfl,rfl⟩
 .obtain⟨hm,v,hd,hf,h5⟩:=hZ
  replace s:=s.is1 hd
  obtain⟨A9,n9,c9,rfl⟩:=zC2 h5
  have hWR:b2<WR.heap.size:=vV hY hm
  generalize({ tmps:=_,defers:=[] }:Act)=a at s ⊢
  replace s:=s.move (fun q=>q=b2) (fun q ⟨x,O,e,_⟩=>by obtain rfl:=tV.1 O;exact e.symm) kA
  have sR:=s
  refine rgK 0 [] s
   zB fun a w3 s=>?_
  have hszR:=s.gr.size
  have hA:=s.gr.size
  refine zHs (CU.len 6) (cs:=zP6) kA rfl s kA (fun W=>rfl) rfl fun b5 a w h6 s=>?_
  replace h6:=xR hA h6
  refine zM (fPV m (at_ ps (idx k))) rfl s yY fun a w s=>zD rfl ?_
  have hbl:=s.gr
  have hv:WR.heap.size<=b5:=h6
  refine⟨s.gr.sub (fun q I=>.inl ⟨_,.head _,I.symm,rfl⟩),fun W2 h0 hcell q5=>?_⟩
  have hC:y7 WR _:=qM (s.gr.sub (fun q I=>⟨_,.head _,I.symm,rfl⟩)) sR.bx
  have h7:∀g,Value.ownBlock (.slice A9 n9 c9)=some g->g≠b2/\g≠b5/\g<WR.heap.size:=fun g J=>by have h1:=h5.lt g J;omega
  have qa:=h5.keep (fun g J=>s.gr.block g (h7 g J).2.2 (h7 g J).1) hC
  have q1:=qa.keepC h0
  have h9:WR.heap.size<=W2.heap.size:=xR s.gr.size h0.1
  replace s:=q5 _ _ (s.wider (fun q=>inB ([⟨2,22,CU.len 1,b2,false⟩]) q∨WR.heap.size<=q∨R q) (fun q I=>.inl ⟨_,.head _,I.symm,rfl⟩) kA)
  have sW:=s
  replace s:=s.move (fun q=>q=b2∨q=b5) (fun q ⟨x,O,e,_⟩=>by rcases xS.1 O with rfl|O;exact .inr e.symm;obtain rfl:=tV.1 O;exact .inl e.symm) kA
  have sM:=s
  refine tT<|rgL 3 ((8,.u (UF.eq (.slice A9 n9 c9)))::(9,.Z (fPV m (at_ ps (idx k))))::(10,.s (SF.row 6 [CU.agg (fPV m (at_ ps (idx k)))]))::[]) s
   (oc (qE (C:=(wD [.slice A9 n9 c9]).cf) kA (fun _ _ h=>h.2) zAS)<|oc (zK m (at_ ps (idx k)))<|oc (jV (fun u W (hu:(fPV m (at_ ps (idx k))).p u W)=>zFX hu))<|zB) fun a w4 s hr=>?_
  have hG:y7 W2 _:=qM (s.gr.sub (fun q I=>by rcases I with I|I;exact⟨_,mz1,I.symm,rfl⟩;exact⟨_,.head _,I.symm,rfl⟩)) sM.bx
  have hU:=q1.keep (fun g J=>s.gr.block g (vV (h7 g J).2.2 h9) (fun I=>by have:=h7 g J;rcases I with I|I<;>omega)) hG
  have hE:=s.gr.size
  replace s:=wN sW s (fun q I=>by rcases I with rfl|rfl;exact .inl (.inl ⟨_,.head _,rfl,rfl⟩);exact .inl (.inr (.inl hv))) kA
  refine zSb ([CU.agg (fPV m (at_ ps (idx k)))]) s (xR hm (xR h9 hE)) hU (fun g J=>.inl (.inr (.inr (hf g J)))) rfl kA kA kA (s.val (.head _)) (hr (_,_) mz2) (zT9 m [_]) fM (fun x O e=>by have:=h7 _ e;rcases xS.1 O with rfl|O;exact this.2.1 rfl;obtain rfl:=tV.1 O;exact this.1 rfl) fun v' a w hwz h8 hO hB s=>?_
  rw[<-zTO hk]at h8
  obtain⟨A8,n8,c8,rfl⟩:=zC2 h8
  have sA:=s
  replace s:=s.move (fun q=>q=b2∨q=b5) (fun q ⟨x,O,e,_⟩=>by rcases xS.1 O with rfl|O;exact .inr e.symm;obtain rfl:=tV.1 O;exact .inl e.symm) kA
  have sN:=s
  refine j9 (c:=2) (o:=0) (kk:=1) (wD [.slice A8 n8 c8]) ((UF.eq (.slice A8 n8 c8)).tS) rfl s kA rfl rfl (fun _ _ h=>h.1) iiz (zGD fun cs W h=>by rw[show cs=_ from h];rfl) fun a w s=>zD rfl ?_
  have hF:y7 _ _:=qM (s.gr.sub (fun q I=>by rcases I with I|I;exact⟨_,mz1,I.symm,rfl⟩;exact⟨_,.head _,I.symm,rfl⟩)) sN.bx
  have hD:=h8.keep (fun g J=>s.gr.block g (h8.lt g J).2 (fun I=>by rcases I with I|I;exact hB _ mz1 (by rw[J,I]);exact hB _ (.head _) (by rw[J,I]))) hF
  have hsz5:=s.gr.size
  obtain⟨hP,hT,hN,_⟩:=s.boxAt (c:=2) rfl
  obtain rfl:hP=[.slice A8 n8 c8]:=hN
  replace s:=wN sA s (fun q I=>by rcases I with rfl|rfl;exact .inl (.inl ⟨_,.head _,rfl,rfl⟩);exact .inl (.inr (.inl hv))) kA
  replace s:=s.popB
  exact⟨(s.keepK [] fnz).weakB 2 (CU.len 1) rfl (jJ kA) (fun cs W h=>by rw[show cs=_ from h];rfl),fun q=>Value.ownBlock (.slice A8 n8 c8)=some q,fun q I=>by rcases hO with e|e;exact .inl (hf q (e.symm.trans I));rw[e]at I;injection I with I;exact .inr oA,fun q I=>zDr hD I,oA,_,hT,fun g J=>J,hD⟩
 .obtain⟨hm,v,hd,hf,h5⟩:=q0
  replace s:=s.is1 hd
  rw[nK (by simp[rgV])]at h5
  have hw:W.heap.size<=base:=oA
  generalize({ a with defers:=mark D::a.defers }:Act)=a at s ⊢
  exact lP<|rgN ((12,.s (wI W 30 6 (pvs m (rgV ps idx))))::(4,.s (wI W 30 6 (pvs m (rgV ps idx))))::[]) s
   (oc (zCz (v:=v) (f:=wI W 30 6 (pvs m (rgV ps idx))) kA (fun _ _ h=>h.2) (h5.mono hw))<|oc zF<|zB) fun a w5 s hr=>pS<|s.resM (v:=a.tmps.getD 4 undef) (fun w' _=>by simp[results,results121]) (fun w' ho=>zAO.keepC (hr (_,_) mz1) (zEz ho))
theorem zOb{m:Nat}{l:WE}(I:bW w00 W)(U:W.heap[c1]?=some (.cells #[l] 22 (0,0)))(J:W.heap[c2]?=some (.cells #[.int .i64 FF] 3 (0,0)))(h4:W.heap[c3]?=some (.cells #[.int .i64 SS] 3 (0,0)))(hl:(SF.row 6 (pvs m ps)).p l w00)(h5:ps.length<=1000000)(hR:zPM FF SS ps.length idx):Calls prog 92 #[(.func (.func 122) #[] #[pO c1 0,pO c2 0,pO c3 0])] W (Ret W (wI W 30 6 (pvs m (rgV ps idx)))):=by
 refine zZ [(UF.eq (.func (.func 122) #[] #[pO c1 0,pO c2 0,pO c3 0])).tS] func92 rfl kA ⟨rfl,trivial⟩ fun a s=>rgQ ((2,.u (UF.eq (sN)))::[]) s
  (oc zF<|zB) fun a w1 s=>lP ?_
 have O:=s.gr.size
 replace s:=s.drop [2]
 exact rgN ((3,.Z (UF.eq (.func (.func 122) #[] #[pO c1 0,pO c2 0,pO c3 0])))::(4,.s (wI w1 30 6 (pvs m (rgV ps idx))))::(2,.s (wI w1 30 6 (pvs m (rgV ps idx))))::[]) s
  (oc zA<|oc (zH zC zW1 (fun u0 u1 W hb (h0:u0= sN) h1=>by rw[show u0=_ from h0,show u1=_ from h1];exact(zUf (I.trans ((s.up hb).mono I.size)) (((s.up hb).block c1 (xQ.1 U).1).trans U) (((s.up hb).block c2 (xQ.1 J).1).trans J) (((s.up hb).block c3 (xQ.1 h4).1).trans h4) hl h5 hR).mono (wG (qY hb.size))))<|oc zF<|zB) fun a w2 s hr=>pS<|StS.resN s (xG _ _) rfl (by have:=hr (_,_) mz2;exact zAO.mono this O)
section
variable {F:Fence}{m:Nat}{P:Program}{w0:WB}{ops:Array Oper}{G:Nat->SF}{d:Tmp}{ty:WF}{pos:String}{aft:Array Edge}
theorem zQ9{f:FuncId}{z:Operand}(h:∀u v q W,bW w0 W->(fct G x).p u W->(fct G y).p v W->(fct G z).p q W->(G d).p (.func (.func f) #[] #[u,v,q]) W):qO F m P w0 ops G ⟨some d,.makeFunc (.func f) #[] #[x,y,z],ty,pos,aft,none⟩:=
 zOp fun b W hb I=>by simpa using h _ _ _ W hb (I x fC) (I y fC) (I z fC)
end
def zO4(l:WE)(FF SS:Int):SF:=⟨fun v w=>∃b1 b2 b3,v=.func (.func 122) #[] #[pO b1 0,pO b2 0,pO b3 0]/\w.heap[b1]?=some (.cells #[l] 22 (0,0))/\w.heap[b2]?=some (.cells #[.int .i64 FF] 3 (0,0))/\w.heap[b3]?=some (.cells #[.int .i64 SS] 3 (0,0)),
 fun v w w' ⟨b1,b2,b3,e,h1,h2,h3⟩ hb=>⟨b1,b2,b3,e,(hb.block b1 (xQ.1 h1).1).trans h1,(hb.block b2 (xQ.1 h2).1).trans h2,(hb.block b3 (xQ.1 h3).1).trans h3⟩⟩
theorem zNA:zPM 0 (-1) n fun k=>(n-k)%n:=by
 refine⟨fH,fH,fH,fH,fun i hi=>⟨vY _ oA,?_⟩⟩
 have e:(0+(i:Int)* -1).tmod (n:Int)= -(i:Int):=by
  rw[show(0:Int)+(i:Int)* -1= -(i:Int)from oA,Int.neg_tmod]
  congr 1
  exact Int.tmod_eq_of_lt oA oA
 rw[e]
 by_cases h:i=0
 .subst h
  left
  simp
 .right
  show -(i:Int)<0/\-(i:Int)+(n:Int)=(((n-i)%n:Nat):Int)
  rw[uD (show n-i<n from oA)]
  omega
theorem zTM{f:Nat}(hf:f<n)(hn:n<=1000000):zPM (f:Int) 1 n fun k=>(k+f)%n:=by
 refine⟨fH,fH,oA,oA,fun i hi=>⟨vY _ oA,.inl ?_⟩⟩
 have e:((f:Int)+(i:Int)*1).tmod (n:Int)=(((i+f)%n:Nat):Int):=by
  rw[show(f:Int)+(i:Int)*1=((i+f:Nat):Int)from oA]
  exact zBK _ _
 rw[e]
 exact⟨oA,rfl⟩
theorem zVN(ps:List V2):rgV ps (fun k=>(ps.length-k)%ps.length)=zB6 ps:=rfl
theorem zVM{f:Nat}(I:f<ps.length):rgV ps (fun k=>(k+f)%ps.length)=zFb ps f:=zSM (by simp[rgV,zHF]) fun i hi=>by
 have hi:i<ps.length:=by simpa[rgV]using hi
 rw[zPB I hi]
 unfold rgV
 show((List.range ps.length).map _).getD i (0,0)=_
 rw[rG,tK,zZ2 hi]
 rfl
theorem zM4{l:WE}(I:l.cells=#[l]/\zY l=true)(hu:u=.int .i64 FF)(hv:v=.int .i64 SS):Calls prog 93 #[l,u,v] W (Ret W (zO4 l FF SS)):=by
 refine zZ [(UF.eq l).tS,(uI FF).tS,(uI SS).tS] func93 rfl kA ⟨rfl,hu,hv,trivial⟩ fun a s=>lP<|rgK 0 [] s
  zB fun a w1 s=>yL (wD [l]) rfl s kA (fun v W h=>zG5 h I.1 I.2) fun b3 a w s=>yL (wD [.int .i64 FF]) rfl s kA (fun v W h=>zG5 h rfl rfl) fun U a w s=>yL (wD [.int .i64 SS]) rfl s kA (fun v W h=>zG5 h rfl rfl) fun O a w s=>yQ (UF.eq (.nilFunc)) rfl s kA iiz fun a w s=>zD rfl<|lP ?_
 replace s:=s.drop [6]
 refine rgE ((7,.Z (UF.eq (.func (.func 122) #[] #[pO b3 0,pO U 0,pO O 0])))::(6,.u (UF.eq (.func (.func 122) #[] #[pO b3 0,pO U 0,pO O 0])))::[]) s
  (oc (zQ9 (fun u v q W hb (h:(wL b3 (wD [l]).cf).p u W) (h':(wL U (wD [.int .i64 FF]).cf).p v W) (h'':(wL O (wD [.int .i64 SS]).cf).p q W)=>by rw[h.1,h'.1,h''.1];rfl))<|oc zF<|zB) fun a w2 s=>pS ?_
 obtain⟨cs,e1,e2,e3⟩:=s.boxAt (c:=3) rfl
 obtain⟨cs',f1,f2,f3⟩:=s.boxAt (c:=4) rfl
 obtain⟨J,g1,g2,g3⟩:=s.boxAt (c:=5) rfl
 obtain rfl:cs=_:=e2
 obtain rfl:cs'=_:=f2
 obtain rfl:J=_:=g2
 exact StS.resN s (xG _ _) rfl ⟨b3,U,O,s.val (.head _),e1,f1,g1⟩
theorem zVq{m:Nat}{l:WE}(U:(SF.row 6 (pvs m ps)).p l W)(hn:ps.length<=1000000):Calls prog 63 #[l] W (Ret W (wI W 30 6 (pvs m (zB6 ps)))):=by
 refine zZ [(UF.eq l).tS] func63 rfl kA ⟨rfl,trivial⟩ fun a s=>?_
 replace s:=s.renew [(0,.u (UF.eq l))] (fU (.inr ⟨_,rfl,.head _⟩) fnz)
 refine rgQ ((2,.u (UF.eq (sN)))::[]) s
  (oc zF<|zB) fun a w1 s=>lP ?_
 replace s:=s.drop [2]
 exact rgN ((3,.Z (UF.eq l))::(4,.s (zO4 l 0 (-1)))::(5,.s (wI W 30 6 (pvs m (zB6 ps))))::(2,.s (wI W 30 6 (pvs m (zB6 ps))))::[]) s
  (oc zA<|oc (jG zC zWv (fun I u1 u2 W hb (O:I=l) (J:u1=.int .i64 0) (h2:u2=.int .i64 (-1))=>by rw[show I=l from O];exact zM4 (zEi U) J h2))<|oc (zG zC zWw (fun I W hb (O:(zO4 l 0 (-1)).p I W)=>by obtain⟨b1,b2,b3,e9,J,h2,h3⟩:=O;rw[e9];exact(zOb (idx:=fun k=>(ps.length-k)%ps.length) (s.up hb) J h2 h3 U hn zNA).mono (wG (fun v W h=>qY (s.up hb).size v W (by rw[zVN]at h;exact h)))))<|oc zF<|zB) fun a w2 s hr=>pS<|StS.resN s (xG _ _) rfl (hr _ mz3)
theorem zKO{m:Nat}{l:WE}{f:Nat}(hu:u=.int .i64 (f:Int))(I:(SF.row 6 (pvs m ps)).p l W)(O:f<ps.length)(hn:ps.length<=1000000):Calls prog 65 #[u,l] W (Ret W (wI W 30 6 (pvs m (zFb ps f)))):=by
 refine zZ [(uI (f:Int)).tS,(UF.eq l).tS] func65 rfl kA ⟨hu,rfl,trivial⟩ fun a s=>?_
 replace s:=s.renew [(0,.u (uI (f:Int))),(1,.u (UF.eq l))] (fU (.inr ⟨_,rfl,.head _⟩)<|fU (.inr ⟨_,rfl,mz1⟩) fnz)
 refine rgQ ((4,.u (UF.eq (sN)))::[]) s
  (oc zF<|zB) fun a w1 s=>lP<|rgQ ((5,.Z (UF.eq l))::(6,.Z (uI ((pvs m ps).length:Int)))::(7,.u (uB false))::[]) s
  (oc zA<|oc (yK (z:=6) (Cs:=pvs m ps) kA (yM I s) (fun _=>rfl))<|oc (zI .i64 ((pvs m ps).length:Int) 0 false iiz iiz (nH.2 (by simp only[bF];omega)) rfl)<|zB) fun a w2 s=>StS.cond s false iiz fS (fun e=>?_)
 refine pT<|lP ?_
 replace s:=s.drop [4]
 exact rgN ((8,.Z (UF.eq l))::(9,.Z (uI (f:Int)))::(10,.Z (UF.eq l))::(11,.Z (uI ((pvs m ps).length:Int)))::(12,.Z (uI (f:Int)))::(13,.s (zO4 l (f:Int) 1))::(14,.s (wI W 30 6 (pvs m (zFb ps f))))::(4,.s (wI W 30 6 (pvs m (zFb ps f))))::[]) s
  (oc zA<|oc zA<|oc zA<|oc (yK (z:=6) (Cs:=pvs m ps) kA (yM I s) (fun _=>rfl))<|oc (zBv .i64 (f:Int) ((pvs m ps).length:Int) (f:Int) iiz iiz (by simp only[bF];omega) (by simp only[bF];rw[zBK,uD O]))<|oc (jG zC zWv (fun J u1 u2 W hb (h0:J=l) (U:u1=.int .i64 (f:Int)) (h2:u2=.int .i64 1)=>by rw[show J=l from h0];exact zM4 (zEi I) U h2))<|oc (zG zC zWw (fun J W hb (h0:(zO4 l (f:Int) 1).p J W)=>by obtain⟨b1,b2,b3,e9,U,h2,h3⟩:=h0;rw[e9];exact(zOb (idx:=fun k=>(k+f)%ps.length) (s.up hb) U h2 h3 I hn (zTM O hn)).mono (wG (fun v W h=>qY (s.up hb).size v W (by rw[zVM O]at h;exact h)))))<|oc zF<|zB) fun a w3 s hr=>pS<|StS.resN s (xG _ _) rfl (hr _ mz7)
theorem zRe(h:arE ps<0):zFb (zB6 ps) (fK (zB6 ps) (zB6 ps).length)=jM ps:=by
 unfold jM ways
 rw[if_pos h]
theorem zRd(h: ¬arE ps<0):zFb ps (fK ps ps.length)=jM ps:=by
 unfold jM ways
 rw[if_neg h]
theorem zM9{l:WE}(hl:(SF.row 6 (pvs 1 ps)).p l W)(h6:0<ps.length)(hn:ps.length<=12)(hT:Tab W):Calls prog 34 #[l] W (Ret W (wI W 30 6 (pns (jM ps)))):=by
 refine zZ [(UF.eq l).tS] func34 rfl kA ⟨rfl,trivial⟩ fun a s=>?_
 replace s:=s.renew [(0,.u (UF.eq l))] (fU (.inr ⟨_,rfl,.head _⟩) fnz)
 refine rgQ ((2,.u (UF.eq (sN)))::[]) s
  (oc zF<|zB) fun a w1 s=>lP<|rgQ ((3,.s (UF.eq l).tS)::(4,.s (UF.eq (.int .i64 (arE ps).num.sign)).tS)::(5,.u (uB (decide ((arE ps).num.sign<0))))::[]) s
  (oc zA<|oc (zG zC zYw (fun I X hb (J:I=l)=>zWh (by rw[show I=l from J];exact(SF.row 6 (pvs 1 ps)).st _ _ _ hl (s.up hb)) hn (hT.below (s.up hb))))<|oc (zI .i64 ((arE ps).num.sign) 0 (decide ((arE ps).num.sign<0)) iiz iiz rfl rfl)<|zB) fun a w2 s=>StS.cond s (decide ((arE ps).num.sign<0)) iiz (fun e=>?_) (fun e=>?_)
 .have h8:=zEP.1 (xX e)
  refine zDW 2 ((6,.s (UF.eq l).tS)::(7,.s (wI W 30 6 (pvs 1 (zB6 ps))))::[]) s kA
   (oc zA<|oc (zG zC zYv (fun I X hb (J:I=l)=>(zVq (m:=1) (by rw[show I=l from J];exact(SF.row 6 (pvs 1 ps)).st _ _ _ hl (s.up hb)) oA).mono (wG (qY (s.up hb).size))))<|zB) fun a w3 s hr=>?_
  obtain⟨v7,e7⟩:∃v,a.tmps.getD 7 undef=v:=⟨_,rfl⟩
  have h7:(SF.row 6 (pvs 1 (zB6 ps))).p v7 w3:=e7▸jK _ _ (hr (_,_) mz1)
  replace s:=s.learn 7 v7 e7
  have U:=s.below
  have hd:=hT
  have hT:=hd.below U
  replace s:=s.drop [0]
  replace s:=s.reb rfl [(7,.u (UF.eq v7)),(2,.u (UF.eq (sN)))] (fU (.inl (.head _))<|fU (.inl mz2) fnz)
  refine yQ (UF.eq v7) rfl s kA iiz fun a w s=>zD rfl ?_
  have O:0<(zB6 ps).length:=by rw[zCq];exact h6
  have hqn:(zB6 ps).length<=12:=by rw[zCq];exact hn
  refine lP ?_
  replace s:=s.drop [2]
  refine rgN ((8,.s (UF.eq v7).tS)::(9,.s (uI ((fK (zB6 ps) (zB6 ps).length:Nat):Int)).tS)::(10,.s (UF.eq v7).tS)::(11,.s (SF.row 6 (pvs 1 (zFb (zB6 ps) (fK (zB6 ps) (zB6 ps).length)))))::(12,.s (wI w3 30 6 (pns (zFb (zB6 ps) (fK (zB6 ps) (zB6 ps).length)))))::(2,.s (wI w3 30 6 (pns (zFb (zB6 ps) (fK (zB6 ps) (zB6 ps).length)))))::[]) s
   (oc zA<|oc (zG zC zWF (fun I X hb (J:I=v7)=>(zKT (m:=1) (ps:=(zB6 ps)) (zCw h7 J (s.up hb)) dA dA oA (hT.below (s.up hb))).mono (wG (fun v W h=>by rw[zE7 O]at h;exact h))))<|oc zA<|oc (zH zC zWG (fun I u1 X hb J (h1:u1=v7)=>(zKO (m:=1) (ps:=(zB6 ps)) J (zCw h7 h1 (s.up hb)) (zRy _ O) oA).mono (wG jK)))<|oc (zG zC zWH (fun I X hb (J:(SF.row 6 (pvs 1 (zFb (zB6 ps) (fK (zB6 ps) (zB6 ps).length)))).p I X)=>(zM1 (m:=1) J dA dA (by rw[zHF];omega) (hT.below (s.up hb))).mono (wG (qY (s.up hb).size))))<|oc zF<|zB) fun a w9 s hr=>pS ?_
  rw[zRe h8]at hr
  have h9:=hr (_,_) mz5
  exact StS.resN s U rfl (zAO.mono h9 U.size)
 .have ha: ¬arE ps<0:=fun h=>absurd (zEP.2 h) (nF e)
  refine pT ?_
  have O:=h6
  refine lP ?_
  replace s:=s.drop [2]
  refine rgN ((8,.s (UF.eq l).tS)::(9,.s (uI ((fK ps ps.length:Nat):Int)).tS)::(10,.s (UF.eq l).tS)::(11,.s (SF.row 6 (pvs 1 (zFb ps (fK ps ps.length)))))::(12,.s (wI W 30 6 (pns (zFb ps (fK ps ps.length)))))::(2,.s (wI W 30 6 (pns (zFb ps (fK ps ps.length)))))::[]) s
   (oc zA<|oc (zG zC zWF (fun I X hb (J:I=l)=>(zKT (m:=1) (ps:=ps) (zCw hl J (s.up hb)) dA dA oA (hT.below (s.up hb))).mono (wG (fun v W h=>by rw[zE7 O]at h;exact h))))<|oc zA<|oc (zH zC zWG (fun I u1 X hb J (h1:u1=l)=>(zKO (m:=1) (ps:=ps) J (zCw hl h1 (s.up hb)) (zRy _ O) oA).mono (wG jK)))<|oc (zG zC zWH (fun I X hb (J:(SF.row 6 (pvs 1 (zFb ps (fK ps ps.length)))).p I X)=>(zM1 (m:=1) J dA dA (by rw[zHF];omega) (hT.below (s.up hb))).mono (wG (qY (s.up hb).size))))<|oc zF<|zB) fun a w9 s hr=>pS ?_
  rw[zRd ha]at hr
  have h9:=hr (_,_) mz5
  exact StS.resN s (xG _ _) rfl h9
theorem zG8{l:WE}(I:l.cells=#[l]/\zY l=true):Calls prog 35 #[l] W (Ret W (zO5 W 67 22 (wD [l]))):=by
 refine zZ [(UF.eq l).tS] func35 rfl kA ⟨rfl,trivial⟩ fun a s=>lP<|rgK 0 [] s
  zB fun a w1 s=>yL (wD [l]) rfl s kA (fun v W h=>zG5 h I.1 I.2) fun J a w s=>yQ (UF.eq (.nilFunc)) rfl s kA iiz fun a w s=>zD rfl<|lP ?_
 replace s:=s.drop [2]
 refine rgE ((3,.Z (UF.eq (.func (.func 67) #[] #[pO J 0])))::(2,.u (UF.eq (.func (.func 67) #[] #[pO J 0])))::[]) s
  (oc (zLv (fun u W hb (h:(wL J (wD [l]).cf).p u W)=>by rw[h.1];rfl))<|oc zF<|zB) fun a w2 s=>pS ?_
 obtain⟨cs,e1,O,U⟩:=s.boxAt (c:=1) rfl
 exact StS.resN s (xG _ _) rfl ⟨J,cs,s.val (.head _),s.inB_new ⟨_,.head _,rfl,rfl⟩,e1,O,U⟩
def isK(ps:List V2)(i k:Nat):Bool:=(zBm (zA1 ps i)==1)&&(List.range k).all (zSV ps i)
theorem zX7(ps:List V2)(i:Nat):isK ps i 0=(zBm (zA1 ps i)==1):=by unfold isK;simp
theorem zId(ps:List V2)(i k:Nat):isK ps i (k+1)=(isK ps i k&&zSV ps i k):=by
 unfold isK
 rw[eH,lZ,Bool.and_assoc]
 simp
theorem zOT(ps:List V2)(i:Nat):isK ps i ps.length=zKu ps i:=rfl
theorem zWo(h:isK ps i k=false)(I:k<=ps.length):zKu ps i=false:=by
 rw[<-zOT]
 obtain⟨d,e⟩:∃d,ps.length=k+d:=⟨ps.length-k,oA⟩
 rw[e]
 clear e I
 induction d with
 |zero=>exact h
 |succ d ih=>rw[show k+(d+1)=k+d+1 from oA,zId,ih];rfl
theorem zE2(a b:Nat):((a:Int)==(b:Int))=decide (a=b):=by
 by_cases h:a=b
 .subst h;simp
 .have:(a:Int)≠(b:Int):=oA
  rw[xZ h]
  exact nH.2 this
theorem zRs(e:((((k:Int)==(i:Int))||((k:Int)==((zCF ps i:Nat):Int)))||((k:Int)==((zD9 ps i:Nat):Int)))=true):isK ps i (k+1)=isK ps i k:=by
 rw[zE2,zE2,zE2]at e
 rw[zId]
 have:zSV ps i k=true:=by unfold zSV;rw[e];rfl
 rw[this,Bool.and_true]
theorem zRt(h:(!(isK ps i k))=false)(e:((((k:Int)==(i:Int))||((k:Int)==((zCF ps i:Nat):Int)))||((k:Int)==((zD9 ps i:Nat):Int)))=false):isK ps i (k+1)=decide (zBi (zA1 ps i) (at_ ps k)<0):=by
 rw[zE2,zE2,zE2]at e
 rw[zId]
 have I:isK ps i k=true:=by simpa using h
 rw[I,Bool.true_and]
 unfold zSV
 rw[e,cS]
theorem zSS{m:Nat}{l:WE}(I:(SF.row 6 (pvs m ps)).p l W)(hu:u=.int .i64 (i:Int))(hi:i<ps.length)(h3:3<=ps.length)(hn:ps.length<=1000000)(hm:m<=159)(J:0<m)(hT:Tab W):Calls prog 33 #[l,u] W (Ret W (fB (zKu ps i)).tS):=by
 have U:zCF ps i<ps.length:=vY _ oA
 have h8:zD9 ps i<ps.length:=vY _ oA
 refine zZ [(UF.eq l).tS,(uI (i:Int)).tS] func33 rfl kA ⟨rfl,hu,trivial⟩ fun a s=>?_
 replace s:=s.renew [(0,.u (UF.eq l)),(1,.u (uI (i:Int)))] (fU (.inr ⟨_,rfl,.head _⟩)<|fU (.inr ⟨_,rfl,mz1⟩) fnz)
 refine rgQ ((4,.u (uB false))::[]) s
  (oc zF<|zB) fun a w1 s=>(bL (n:=0)).2 (wp_scope_straight ((bL (n:=0)).1 ?_))
 refine lP<|rgQ ((11,.Z (UF.eq l))::(12,.Z (uI ((pvs m ps).length:Int)))::(13,.Z (uB false))::(14,.Z (uB false))::(15,.Z (uI (i:Int)))::(16,.Z (uB false))::(17,.Z (uB false))::(18,.Z (uB false))::(19,.Z (uI (i:Int)))::(20,.Z (UF.eq l))::(21,.Z (uI ((pvs m ps).length:Int)))::(22,.Z (uB false))::(23,.u (uB false))::[]) s
  (oc zA<|oc (yK (z:=6) (Cs:=pvs m ps) kA (yM I s) (fun _=>rfl))<|oc (zI .i64 ((pvs m ps).length:Int) 3 false iiz iiz (xZ (by simp only[bF];omega)) rfl)<|oc zA<|oc (zE 14 false kA iiz (fun _=>zA) arf)<|oc (zE 14 false kA iiz (fun _=>zI .i64 (i:Int) 0 false iiz iiz (xZ oA) rfl) arf)<|oc (yC false iiz fS fD)<|oc zA<|oc (zE 18 false kA iiz (fun _=>zA) arf)<|oc (zE 18 false kA iiz (fun _=>zA) arf)<|oc (zE 18 false kA iiz (fun _=>yK (z:=6) (Cs:=pvs m ps) kA (yM I s) (fun _=>rfl)) arf)<|oc (zE 18 false kA iiz (fun _=>zI .i64 (i:Int) ((pvs m ps).length:Int) false iiz iiz (xZ (by simp only[bF];omega)) rfl) arf)<|oc (yC false iiz fS fD)<|zB) fun a w2 s=>StS.cond s false iiz fS (fun e=>?_)
 refine pT<|rgQ ((24,.Z (uI (i:Int)))::(25,.Z (UF.eq l))::(26,.Z (uI ((pvs m ps).length:Int)))::(27,.Z (uI ((i+ps.length:Nat):Int)))::(28,.Z (uI ((i+ps.length-1:Nat):Int)))::(29,.Z (UF.eq l))::(30,.Z (uI ((pvs m ps).length:Int)))::(31,.Z (uI ((zCF ps i:Nat):Int)))::(32,.Z (uI (i:Int)))::(33,.Z (uI ((i+1:Nat):Int)))::(34,.Z (UF.eq l))::(35,.Z (uI ((pvs m ps).length:Int)))::(36,.Z (uI ((zD9 ps i:Nat):Int)))::(5,.u (uI ((zCF ps i:Nat):Int)))::(6,.u (uI ((zD9 ps i:Nat):Int)))::[]) s
  (oc zA<|oc zA<|oc (yK (z:=6) (Cs:=pvs m ps) kA (yM I s) (fun _=>rfl))<|oc (yB .i64 (i:Int) ((pvs m ps).length:Int) ((i+ps.length:Nat):Int) iiz iiz (by simp only[bF];exact wrap64 _ _ oA oA))<|oc (zEW .i64 ((i+ps.length:Nat):Int) 1 ((i+ps.length-1:Nat):Int) iiz iiz (wrap64 _ _ oA oA))<|oc zA<|oc (yK (z:=6) (Cs:=pvs m ps) kA (yM I s) (fun _=>rfl))<|oc (zBv .i64 ((i+ps.length-1:Nat):Int) ((pvs m ps).length:Int) ((zCF ps i:Nat):Int) iiz iiz (by simp only[bF];omega) (by simp only[bF];exact zBK _ _))<|oc zA<|oc (yB .i64 (i:Int) 1 ((i+1:Nat):Int) iiz iiz (wrap64 _ _ oA oA))<|oc zA<|oc (yK (z:=6) (Cs:=pvs m ps) kA (yM I s) (fun _=>rfl))<|oc (zBv .i64 ((i+1:Nat):Int) ((pvs m ps).length:Int) ((zD9 ps i:Nat):Int) iiz iiz (by simp only[bF];omega) (by simp only[bF];exact zBK _ _))<|oc zF<|oc zF<|zB) fun a w3 s=>lP ?_
 have so:=s.old;have sg:=s.gr
 refine zBs [] [⟨13,7,38, [.bool false, sN, sN,.bool false, sN, sN,.bool false, sN, sN,.bool false, sN, sN,.bool false, sN, sN,.bool false, sN, sN],wJ w3 38 (CU.len 18)⟩] 14 ((37,.Z (UF.eq l))::(38,.Z (uI ((zCF ps i:Nat):Int)))::(39,.Y (fPV m (at_ ps (zCF ps i))))::(40,.Z (fPV m (at_ ps (zCF ps i))))::(41,.Z (UF.eq l))::(42,.Z (uI (i:Int)))::(43,.Y (fPV m (at_ ps i)))::(44,.Z (fPV m (at_ ps i)))::(45,.Z (UF.eq l))::(46,.Z (uI ((zD9 ps i:Nat):Int)))::(47,.Y (fPV m (at_ ps (zD9 ps i))))::(48,.Z (fPV m (at_ ps (zD9 ps i))))::(49,.u (fTR m (zA1 ps i)))::(7,.s (wJ w3 38 (CU.len 18)))::[]) hmix s (fU ⟨by show 13<14;decide,zSy,⟨_,_,_,rfl⟩,fJ,zAK (fun _=>rfl) rfl⟩ fnz) kA
  (oc zA<|oc zA<|oc (zO (z:=6) (Cs:=pvs m ps) (i:=(zCF ps i)) (C:=CU.agg (fPV m (at_ ps (zCF ps i)))) kA (qJ U) (yM I s) iiz)<|oc (zK m (at_ ps (zCF ps i)))<|oc zA<|oc zA<|oc (zO (z:=6) (Cs:=pvs m ps) (i:=i) (C:=CU.agg (fPV m (at_ ps i))) kA (qJ hi) (yM I s) iiz)<|oc (zK m (at_ ps i))<|oc zA<|oc zA<|oc (zO (z:=6) (Cs:=pvs m ps) (i:=(zD9 ps i)) (C:=CU.agg (fPV m (at_ ps (zD9 ps i)))) kA (qJ h8) (yM I s) iiz)<|oc (zK m (at_ ps (zD9 ps i)))<|oc (zAQ (fun u v q W (hu:(fPV m (at_ ps (zCF ps i))).p u W) (hv:(fPV m (at_ ps i)).p v W) (hq:(fPV m (at_ ps (zD9 ps i))).p q W)=>zZJ (t:=(zA1 ps i)) hu hv hq))<|oc (zBY (cs:=[.bool false, sN, sN,.bool false, sN, sN,.bool false, sN, sN,.bool false, sN, sN,.bool false, sN, sN,.bool false, sN, sN]) kA (zAK (fun _=>rfl) rfl))<|zB) fun Q' hQ a w4 s hr hd=>?_
 obtain⟨b7,hB7,e7,s⟩:=s.adoptA false 7 (hr (_,_) zSy) sg (fun y hy=>.inl (so y hy))
 refine zM (fTR m (zA1 ps i)) rfl s zKQ fun a w s=>zD rfl (hQ _ _ ?_)
 refine rgQ ((50,.Z (fTR m (zA1 ps i)))::(51,.Z (uI (zBm (zA1 ps i))))::(52,.Z (uB (isK ps i 0)))::(8,.u (uB (isK ps i 0)))::[]) s
  (oc (zT (f:=fTR m (zA1 ps i)) 18 kA (hz:=zKS _ _))<|oc (zG zC zUP (fun u0 W hb (h0:(fTR m (zA1 ps i)).p u0 W)=>zIo h0 hm J (hT.below (s.up hb))))<|oc (zI .i64 (zBm (zA1 ps i)) 1 (isK ps i 0) iiz iiz (by rw[zX7]) rfl)<|oc zF<|zB) fun a w5 s=>lP<|wpIn_label<|lP<|rgQ ((53,.u (UF.eq l))::(54,.u (uI ((pvs m ps).length:Int)))::(55,.u (uI 0))::[]) s
  (oc zA<|oc (yK (z:=6) (Cs:=pvs m ps) kA (yM I s) (fun _=>rfl))<|oc zA<|zB) fun a w6 s=>tT<|zAs (fun k=>k<=ps.length) (fun k=> [(0,.u (UF.eq l)),(1,.u (uI (i:Int))),(5,.u (uI ((zCF ps i:Nat):Int))),(6,.u (uI ((zD9 ps i:Nat):Int))),(53,.u (UF.eq l)),(54,.u (uI ((pvs m ps).length:Int))),(8,.u (uB (isK ps i k))),(55,.u (uI ((k:Nat):Int)))]) (fun k=>ps.length-k) (0:Nat) (vS _) (s.keepK _ (fU mz9<|fU zKe<|fU mz5<|fU mz6<|fU (.head _)<|fU mz1<|fU mz3<|fU mz2 fnz)) fun k a w hx s=>?_
 have O:(pvs m ps).length=ps.length:=fG
 refine rgQ ((56,.u (uB (ltz k ((pvs m ps).length))))::[]) s
  (oc (zI .i64 (k:Int) ((pvs m ps).length:Int) (ltz k ((pvs m ps).length)) iiz iiz rfl rfl)<|zB) fun a w7 s=>lP<|StS.cond s (ltz k ((pvs m ps).length)) iiz (fun e=>?_) (fun e=>?_)
 .have hk:k<ps.length:=by have:=xX e;rw[O]at this;omega
  refine pT<|lP<|tT<|lP<|rgK 3 ((57,.u (uI (k:Int)))::(58,.Y (fPV m (at_ ps k)))::(59,.u (fPV m (at_ ps k)))::[]) s
   (oc zA<|oc (zO (z:=6) (Cs:=pvs m ps) (i:=k) (C:=CU.agg (fPV m (at_ ps k))) kA (qJ hk) (yM I s) iiz)<|oc (zK m (at_ ps k))<|zB) fun a w8 s=>zX (CU.len 6) (cs:=zP6) kA rfl s kA (fun W=>rfl) rfl fun b10 a w s=>yQ (uI (k:Int)) rfl s kA iiz fun a w s=>zM (fPV m (at_ ps k)) rfl s yY fun a w s=>zD rfl<|lP<|tT<|rgQ ((61,.Z (uB (isK ps i k)))::(62,.Z (uB (!(isK ps i k))))::(60,.u (uB (!(isK ps i k))))::[]) s
   (oc zA<|oc (zFd (isK ps i k) iiz (fun _=>rfl))<|oc zF<|zB) fun a w9 s=>StS.cond s (!(isK ps i k)) iiz (fun e=>?_) (fun e=>?_)
  .have eN:isK ps i k=false:=by simpa using e
   exact tU<|rgQ ((82,.Z (uB (isK ps i k)))::(4,.u (uB (isK ps i k)))::[]) s
    (oc zA<|oc zF<|zB) fun a w10 s=>pS<|wF s (t:=4) rfl (fun v W h=>by rw[zWo eN oA,<-eN];exact h)
  .have h6:=e
   refine rgQ ((64,.Z (uI (k:Int)))::(65,.Z (uI (i:Int)))::(66,.Z (uB ((k:Int)==(i:Int))))::(67,.Z (uB ((k:Int)==(i:Int))))::(68,.s (SF.imp (((k:Int)==(i:Int))=false) ((uI (k:Int)).tS)))::(69,.s (SF.imp (((k:Int)==(i:Int))=false) ((uI ((zCF ps i:Nat):Int)).tS)))::(70,.s (SF.imp (((k:Int)==(i:Int))=false) ((uB ((k:Int)==((zCF ps i:Nat):Int))).tS)))::(71,.Z (uB (((k:Int)==(i:Int))||((k:Int)==((zCF ps i:Nat):Int)))))::(72,.Z (uB (((k:Int)==(i:Int))||((k:Int)==((zCF ps i:Nat):Int)))))::(73,.s (SF.imp ((((k:Int)==(i:Int))||((k:Int)==((zCF ps i:Nat):Int)))=false) ((uI (k:Int)).tS)))::(74,.s (SF.imp ((((k:Int)==(i:Int))||((k:Int)==((zCF ps i:Nat):Int)))=false) ((uI ((zD9 ps i:Nat):Int)).tS)))::(75,.s (SF.imp ((((k:Int)==(i:Int))||((k:Int)==((zCF ps i:Nat):Int)))=false) ((uB ((k:Int)==((zD9 ps i:Nat):Int))).tS)))::(76,.Z (uB ((((k:Int)==(i:Int))||((k:Int)==((zCF ps i:Nat):Int)))||((k:Int)==((zD9 ps i:Nat):Int)))))::(63,.u (uB ((((k:Int)==(i:Int))||((k:Int)==((zCF ps i:Nat):Int)))||((k:Int)==((zD9 ps i:Nat):Int)))))::[]) s
    (oc zA<|oc zA<|oc (zI .i64 (k:Int) (i:Int) ((k:Int)==(i:Int)) iiz iiz rfl rfl)<|oc zA<|oc (zE 67 ((k:Int)==(i:Int)) kA iiz (fun e=>z5 [] ((uI (k:Int)).tS) fnz fO kA zA) fN)<|oc (zE 67 ((k:Int)==(i:Int)) kA iiz (fun e=>z5 [] ((uI ((zCF ps i:Nat):Int)).tS) fnz fO kA zA) fN)<|oc (zE 67 ((k:Int)==(i:Int)) kA iiz (fun e=>z5 [(68,(uI (k:Int)).tS),(69,(uI ((zCF ps i:Nat):Int)).tS)] ((uB ((k:Int)==((zCF ps i:Nat):Int))).tS) (fU (fun v W h=>zN (c:=((k:Int)==(i:Int))=false) (f:=(uI (k:Int)).tS) e h)<|fU (fun v W h=>zN (c:=((k:Int)==(i:Int))=false) (f:=(uI ((zCF ps i:Nat):Int)).tS) e h) fnz) fO kA (zI .i64 (k:Int) ((zCF ps i:Nat):Int) ((k:Int)==((zCF ps i:Nat):Int)) iiz iiz rfl rfl)) fN)<|oc (yC ((k:Int)==(i:Int)) iiz (fun e v W h=>zHP h e) (fun e v W h=>zFy (zN e h) e))<|oc zA<|oc (zE 72 (((k:Int)==(i:Int))||((k:Int)==((zCF ps i:Nat):Int))) kA iiz (fun e=>z5 [] ((uI (k:Int)).tS) fnz fO kA zA) fN)<|oc (zE 72 (((k:Int)==(i:Int))||((k:Int)==((zCF ps i:Nat):Int))) kA iiz (fun e=>z5 [] ((uI ((zD9 ps i:Nat):Int)).tS) fnz fO kA zA) fN)<|oc (zE 72 (((k:Int)==(i:Int))||((k:Int)==((zCF ps i:Nat):Int))) kA iiz (fun e=>z5 [(73,(uI (k:Int)).tS),(74,(uI ((zD9 ps i:Nat):Int)).tS)] ((uB ((k:Int)==((zD9 ps i:Nat):Int))).tS) (fU (fun v W h=>zN (c:=(((k:Int)==(i:Int))||((k:Int)==((zCF ps i:Nat):Int)))=false) (f:=(uI (k:Int)).tS) e h)<|fU (fun v W h=>zN (c:=(((k:Int)==(i:Int))||((k:Int)==((zCF ps i:Nat):Int)))=false) (f:=(uI ((zD9 ps i:Nat):Int)).tS) e h) fnz) fO kA (zI .i64 (k:Int) ((zD9 ps i:Nat):Int) ((k:Int)==((zD9 ps i:Nat):Int)) iiz iiz rfl rfl)) fN)<|oc (yC (((k:Int)==(i:Int))||((k:Int)==((zCF ps i:Nat):Int))) iiz (fun e v W h=>zHP h e) (fun e v W h=>zFy (zN e h) e))<|oc zF<|zB) fun a w11 s=>StS.cond s ((((k:Int)==(i:Int))||((k:Int)==((zCF ps i:Nat):Int)))||((k:Int)==((zD9 ps i:Nat):Int))) iiz (fun e=>?_) (fun e=>?_)
   .rw[<-zRs e]at s
    refine tU<|zV 1 ((81,.u (uI ((k+1:Nat):Int)))::[]) s kA
     (oc (yB .i64 (k:Int) 1 ((k+1:Nat):Int) iiz iiz (wrap64 _ _ oA oA))<|zB) fun a w12 s=>?_
    replace s:=s.drop [55]
    refine zBJ (uI ((k+1:Nat):Int)) rfl s kA zA kA fun a w s=>zD rfl ?_
    replace s:=s.popB
    exact⟨k+1,hk,(by show ps.length-(k+1)<ps.length-k;omega),s.keepK _ (fU mz8<|fU mz9<|fU zKe<|fU zSz<|fU zRg<|fU zSy<|fU zX5<|fU (.head _) fnz)⟩
   .have h9:=e
    refine pT ?_
    replace s:=s.drop [8]
    refine rgE ((77,.Z (fTR m (zA1 ps i)))::(78,.Z (fPV m (at_ ps k)))::(79,.Z (uI (zBi (zA1 ps i) (at_ ps k))))::(80,.Z (uB (decide ((zBi (zA1 ps i) (at_ ps k))<0))))::(8,.u (uB (isK ps i (k+1))))::[]) s
     (oc (zT (f:=fTR m (zA1 ps i)) 18 kA (hz:=zKS _ _))<|oc (zK m (at_ ps k))<|oc (zH zC zWQ (fun u0 u1 W hb (h0:(fTR m (zA1 ps i)).p u0 W) (h1:(fPV m (at_ ps k)).p u1 W)=>zSR h0 h1 hm J (hT.below (s.up hb))))<|oc (zI .i64 (zBi (zA1 ps i) (at_ ps k)) 0 (decide ((zBi (zA1 ps i) (at_ ps k))<0)) iiz iiz rfl rfl)<|oc (zF (fun v W _ h=>by rw[zRt h6 h9];exact h))<|zB) fun a w13 s=>zV 1 ((81,.u (uI ((k+1:Nat):Int)))::[]) s kA
     (oc (yB .i64 (k:Int) 1 ((k+1:Nat):Int) iiz iiz (wrap64 _ _ oA oA))<|zB) fun a w14 s=>?_
    replace s:=s.drop [55]
    refine zBJ (uI ((k+1:Nat):Int)) rfl s kA zA kA fun a w s=>zD rfl ?_
    replace s:=s.popB
    exact⟨k+1,hk,(by show ps.length-(k+1)<ps.length-k;omega),s.keepK _ (fU mz9<|fU zKe<|fU zSz<|fU zRg<|fU zSy<|fU zX5<|fU mz2<|fU (.head _) fnz)⟩
 .have he:k=ps.length:=by have h7:=nF e;rw[O]at h7;omega
  exact tU<|rgQ ((82,.Z (uB (isK ps i k)))::(4,.u (uB (isK ps i k)))::[]) s
   (oc zA<|oc zF<|zB) fun a w15 s=>pS<|wF s (t:=4) rfl (fun v W h=>by rw[<-zOT,<-he];exact h)
end Go.Proofs.Wd
