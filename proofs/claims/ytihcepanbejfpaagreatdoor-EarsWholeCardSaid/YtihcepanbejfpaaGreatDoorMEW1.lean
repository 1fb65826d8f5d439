/- Natural numbers by limbs: values of lists of limbs, trimmed lists, sum and what it needs. -/

theorem oA{P:Prop}(h:P:=by omega):P:=h
abbrev vQ:=@Nat.le_refl
abbrev vR:=@congrArg
abbrev vS:=@Nat.zero_le
abbrev vT:=@Nat.mul_comm
abbrev vU:=@Nat.add_mul
abbrev vV:=@Nat.lt_of_lt_of_le
abbrev vW:=@List.mem_append
abbrev vX:=@Nat.mul_assoc
abbrev vY:=@Nat.mod_lt
abbrev vZ:=@Nat.pow_le_pow_right
abbrev uA:=@Nat.pow_succ
abbrev uC:=@Nat.pow_add
abbrev uD:=@Nat.mod_eq_of_lt
abbrev uE:=@List.length_take
abbrev uF:=@Nat.mul_le_mul_right
abbrev uG:=@List.length_append
abbrev uH:=@Nat.mul_add
abbrev uJ:=@Nat.eq_zero_or_pos
abbrev uK:=@List.length_drop
abbrev uL:=@List.length_set
abbrev uM:=@Nat.zero_add
abbrev uN:=@Nat.add_zero
abbrev uO:=@Nat.pow_pos
abbrev uP:=@Nat.div_eq_of_lt
abbrev uQ:=@Nat.gcd_comm
abbrev uR:=@Nat.min_eq_left
abbrev uS:=@Nat.mul_le_mul_left
abbrev uT:=@Nat.add_assoc
abbrev uU:=@List.getElem?_take
abbrev uV:=@Nat.one_mul
abbrev uW:=@List.mem_of_mem_take
abbrev uX:=@List.getElem?_drop
abbrev uY:=@Nat.div_add_mod
abbrev uZ:=@List.getElem_mem
abbrev gA:=@List.mem_of_mem_drop
abbrev gB:=@List.take_append_drop
abbrev gC:=@List.getElem?_append_left
abbrev gD:=@Nat.add_mul_div_left
abbrev gE:=@List.getElem?_append_right
abbrev gF:=@List.length_pos_iff
abbrev gG:=@Nat.add_sub_cancel
abbrev gH:=@List.ext_getElem
abbrev gJ:=@Nat.div_lt_of_lt_mul
abbrev gK:=@Nat.mul_one
abbrev gL:=@Nat.mul_add_div
abbrev gM:=@Nat.sub_add_cancel
abbrev gN:=@Nat.zero_mul
abbrev gO:=@Nat.add_comm
abbrev gP:=@Nat.mod_one
abbrev gQ:=@Nat.mul_pos
abbrev gR:=@Nat.pow_succ'
abbrev gS:=@Nat.le_total
abbrev gT:=@Nat.mul_le_mul
abbrev gU:=@Nat.add_mul_mod_self_left
abbrev gV:=@List.getElem?_eq_none
abbrev gW:=@Nat.add_sub_cancel'
abbrev gX:=@Nat.mul_div_cancel_left
abbrev gY:=@Nat.coprime_comm
abbrev gZ:=@Nat.gcd_dvd_right
abbrev xB:=@Nat.shiftLeft_eq
abbrev xC:=@Nat.div_lt_iff_lt_mul
abbrev xD:=@Nat.mod_mul_right_mod
abbrev xE:=@Nat.mul_add_mod
abbrev xF:=@Nat.Coprime.gcd_mul_left_cancel_right
theorem fG{P:Prop}(h:P:=by simp):P:=h
theorem fH{P:Prop}(h:P:=by decide):P:=h
theorem fM{P:Prop}(h:P:=by simp;omega):P:=h
namespace Lb
variable {l m:List Nat}{a b i j k n v x:Nat}
def BB:Nat:=4294967296
def sm(f:Nat->Nat):Nat->Nat
 |0=>0
 |n+1=>sm f n+f n*BB^n
def lm(l:List Nat)(i:Nat):Nat:=l[i]?.getD 0
def val(l:List Nat):Nat:=sm (lm l) l.length
def Lt(l:List Nat):Prop:=∀x∈l,x<BB
def Tr(l:List Nat):Prop:=∀h:l≠ [],l.getLast h≠0
theorem qC:0<BB:=fH
theorem zY7:BB=4294967296:=rfl
theorem zCI(n:Nat):0<BB^n:=uO qC
theorem zAZ{f g:Nat->Nat}:∀{n:Nat},(∀i,i<n->f i=g i)->sm f n=sm g n
 |0,_=>rfl
 |n+1,h=>by simp only[sm];rw[zAZ (fun i hi=>h i oA),h n oA]
theorem zJ0{f:Nat->Nat}:∀{n:Nat},(∀i,i<n->f i<BB)->sm f n<BB^n
 |0,_=>by simp[sm]
 | n+1,h=>by
  have h1:=zJ0 (fun i (hi:i<n)=>h i oA)
  have h2:=h n oA
  have h3:f n*BB^n+BB^n<=BB*BB^n:=by
   have:(f n+1)*BB^n<=BB*BB^n:=uF _ h2
   rw[vU,uV]at this;exact this
  simp only[sm];rw[uA,vT (BB^n)];omega
theorem zDJ{f:Nat->Nat}{n:Nat}:∀{m:Nat},n<=m->(∀i,n<=i->i<m->f i=0)->sm f m=sm f n
 |0,h,_=>by
  have:n=0:=oA
  subst this;rfl
 |m+1,h,hz=>by
  by_cases e:n=m+1
  .subst e;rfl
  .simp only[sm];rw[zDJ oA (fun i I h2=>hz i I oA),hz m oA oA];omega
theorem zJZ{f:Nat->Nat}{n:Nat}:∀{m:Nat},n<=m->sm f n<=sm f m
 |0,h=>by
  have:n=0:=oA
  subst this;exact vQ _
 |m+1,h=>by
  by_cases e:n=m+1
  .subst e;exact vQ _
  .have:=zJZ (f:=f) (show n<=m from oA);simp only[sm];omega
theorem zH4(h:i<l.length):lm l i=l[i]:=by simp[lm,h]
theorem zEw(h:l.length<=i):lm l i=0:=by simp[lm,h]
theorem qQ(h:Lt l)(i:Nat):lm l i<BB:=by
 by_cases hi:i<l.length
 .rw[zH4 hi];exact h _ (uZ hi)
 .rw[zEw oA];exact qC
theorem zBk(h:l.length<=n):sm (lm l) n=val l:=zDJ h (fun _ I _=>zEw I)
theorem qV(h:Lt l):val l<BB^l.length:=zJ0 fun i _=>qQ h i
@[simp] theorem zXF:val []=0:=rfl
theorem zOF:lm (l++ [x]) i=if i=l.length then x else lm l i:=by
 unfold lm
 by_cases h:i<l.length
 .rw[gC h,if_neg oA]
 .rw[gE oA]
  by_cases e:i=l.length
  .subst e;simp
  .rw[if_neg e,gV fM,gV oA]
theorem zAX(l:List Nat)(x:Nat):val (l++ [x])=val l+x*BB^l.length:=by
 unfold val
 rw[uG]
 show sm (lm (l++ [x])) l.length+lm (l++ [x]) l.length*BB^l.length=_
 rw[zOF,if_pos rfl,zAZ (g:=lm l) (fun i hi=>by rw[zOF,if_neg oA])]
theorem zBP(h:Lt l)(hx:x<BB):Lt (l++ [x]):=by
 intro y I
 rcases vW.1 I with I|I
 .exact h y I
 .simp at I;omega
theorem zCp:Lt []:=by intro x I;cases I
theorem zCa(h:Lt l)(n:Nat):Lt (l.take n):=fun x I=>h x (uW I)
theorem zIv(h:Lt l)(n:Nat):Lt (l.drop n):=fun x I=>h x (gA I)
theorem zJN(h:Lt l)(k:Lt m):Lt (l++m):=fun x I=>(vW.1 I).elim (h x) (k x)
theorem j5(n:Nat):Lt (List.replicate n 0):=fun x I=>by rw[List.eq_of_mem_replicate I];exact qC
theorem zGk(i:Nat):lm (l++m) (l.length+i)=lm m i:=by
 unfold lm;rw[gE oA];simp
theorem zGH(h:i<l.length):lm (l++m) i=lm l i:=by
 unfold lm;rw[gC h]
theorem zK0(f:Nat->Nat)(n:Nat):∀m,sm f (n+m)=sm f n+BB^n*sm (fun i=>f (n+i)) m
 |0=>by simp[sm]
 |m+1=>by
  show sm f (n+m)+f (n+m)*BB^(n+m)=_
  rw[zK0 f n m];simp only[sm];rw[uH,uC,uT];congr 2
  rw[<-vX,vT (f (n+m)),vX,vT (f (n+m))]
theorem zDn(l m:List Nat):val (l++m)=val l+BB^l.length*val m:=by
 unfold val
 rw[uG,zK0]
 rw[zAZ (g:=lm l) (fun i hi=>zGH hi),zAZ (f:=fun i=>lm (l++m) (l.length+i)) (g:=lm m) (fun i _=>zGk i)]
theorem j7(l:List Nat)(n:Nat)(h:n<=l.length):val l=val (l.take n)+BB^n*val (l.drop n):=by
 have:=zDn (l.take n) (l.drop n)
 rw[gB,uE,uR h]at this
 exact this
theorem zKi(h:i<n):lm (l.take n) i=lm l i:=by
 unfold lm;rw[uU,if_pos h]
theorem zHk(h:n<=l.length):val (l.take n)=sm (lm l) n:=by
 unfold val;rw[uE,uR h];exact zAZ fun i hi=>zKi hi
theorem zD0:lm (l.drop n) i=lm l (n+i):=by
 unfold lm;rw[uX]
theorem jI(h:n<=l.length)(hz:∀i,n<=i->i<l.length->lm l i=0):val (l.take n)=val l:=by
 rw[zHk h];exact(zDJ h hz).symm
theorem zAB(n:Nat):val (List.replicate n 0)=0:=by
 unfold val
 rw[zDJ (n:=0) (vS _)]
 .rfl
 .intro i _ hi;rw[zH4 hi];simp
theorem zL8:Tr l↔(l=[]∨lm l (l.length-1)≠0):=by
 unfold Tr
 by_cases h:l=[]
 .subst h;simp
 .have hl:0<l.length:=gF.2 h
  rw[zH4 oA]
  constructor
  .intro I;right;rw[<-List.getLast_eq_getElem h];exact I h
  .intro I J;rw[List.getLast_eq_getElem J];exact I.resolve_left h
theorem zTe(h:j<l.length):val (l.set j v)+lm l j*BB^j=val l+v*BB^j:=by
 have J:∀n,n<=l.length->sm (lm (l.set j v)) n+(if j<n then lm l j*BB^j else 0)=sm (lm l) n+(if j<n then v*BB^j else 0):=by
  intro n
  induction n with
  |zero=>intro _;simp[sm]
  | succ n ih=>
   intro hn
   have:=ih oA
   simp only[sm]
   have I:lm (l.set j v) n=if j=n then v else lm l n:=by
    unfold lm
    rw[List.getElem?_set]
    by_cases e:j=n
    .subst e;simp[h]
    .simp[e]
   rw[I]
   by_cases e:j=n
   .subst e;simp at this ⊢;omega
   .by_cases g:j<n
    .rw[if_pos g]at this;rw[if_neg e,if_pos oA];rw[if_pos g]at this;rw[if_pos oA];omega
    .rw[if_neg g]at this;rw[if_neg e,if_neg oA];rw[if_neg g]at this;rw[if_neg oA];omega
 have:=J l.length (vQ _)
 rw[if_pos h,if_pos h]at this
 unfold val;rw[uL];exact this
theorem zDk(h:Lt l){j v:Nat}(hv:v<BB):Lt (l.set j v):=by
 intro x J
 rcases List.mem_or_eq_of_mem_set J with I|I
 .exact h x I
 .omega
theorem zBa(h:j<l.length):lm (l.set j v) i=if j=i then v else lm l i:=by
 unfold lm
 rw[List.getElem?_set]
 by_cases e:j=i
 .subst e;simp[h]
 .simp[e]
theorem zIC(ht:Tr l)(I:l≠ []):BB^(l.length-1)<=val l:=by
 have hl:0<l.length:=gF.2 I
 rcases zL8.1 ht with h|h
 .exact absurd h I
 .unfold val
  obtain⟨k,hk⟩:∃k,l.length=k+1:=⟨l.length-1,oA⟩
  rw[hk]at h ⊢
  simp only[sm,gG]at h ⊢
  have:1*BB^k<=lm l k*BB^k:=uF _ oA
  omega
theorem zPZ(ht:Tr l)(h:val l=0):l=[]:=by
 by_cases hn:l=[]
 .exact hn
 .have:=zIC ht hn;have:=zCI (l.length-1);omega
theorem zFO(ht:Tr l):val l=0↔l=[]:=⟨zPZ ht,fun h=>by subst h;rfl⟩
theorem zBM(ht:Tr l){k:Nat}(h:val l<BB^k):l.length<=k:=by
 by_cases hn:l=[]
 .subst hn;simp
 .have h1:=zIC ht hn
  have h2:BB^(l.length-1)<BB^k:=oA
  have:=(Nat.pow_lt_pow_iff_right (show 1<BB from fH)).1 h2
  omega
theorem zSc{f g:Nat->Nat}:∀{n:Nat},(∀i,i<n->f i<BB)->(∀i,i<n->g i<BB)->sm f n=sm g n->∀i,i<n->f i=g i
 |0,_,_,_,i,hi=>absurd hi oA
 | n+1,hf,hg,h,i,hi=>by
  have U:=zJ0 (f:=f) (n:=n) (fun i hi=>hf i oA)
  have h2:=zJ0 (f:=g) (n:=n) (fun i hi=>hg i oA)
  simp only[sm]at h
  have I:=zCI n
  have e1:(sm f n+f n*BB^n)/BB^n=f n:=by
   rw[vT,gD _ _ I,uP U];omega
  have O:(sm g n+g n*BB^n)/BB^n=g n:=by
   rw[vT,gD _ _ I,uP h2];omega
  have J:f n=g n:=by rw[<-e1,<-O,h]
  by_cases e:i=n
  .subst e;exact J
  .rw[J]at h
   exact zSc (n:=n) (fun i hi=>hf i oA) (fun i hi=>hg i oA) oA i oA
theorem zTf(I:Lt l)(J:Lt m)(tl:Tr l)(U:Tr m)(h:val l=val m):l=m:=by
 have len:l.length=m.length:=by
  have a:l.length<=m.length:=zBM tl (by rw[h];exact qV J)
  have b:m.length<=l.length:=zBM U (by rw[<-h];exact qV I)
  omega
 apply gH len
 intro i O h2
 have:=zSc (f:=lm l) (g:=lm m) (n:=l.length) (fun i _=>qQ I i) (fun i _=>qQ J i) (by unfold val at h;rw[<-len]at h;exact h) i O
 rw[zH4 O,zH4 h2]at this;exact this
theorem zTy{f g:Nat->Nat}(O:k<n)(J:∀i,i<n->f i<BB)(U:∀i,k<i->i<n->f i=g i)(h:f k<g k):sm f n<sm g n:=by
 have I:∀m,k<m->m<=n->sm f m<sm g m:=by
  intro m
  induction m with
  |zero=>intro h;omega
  | succ m ih=>
   intro h1 h2
   simp only[sm]
   by_cases e:k=m
   .subst e
    have a:=zJ0 (f:=f) (n:=k) (fun i hi=>J i oA)
    have b:(f k+1)*BB^k<=g k*BB^k:=uF _ h
    rw[vU]at b;omega
   .have:=ih oA oA
    rw[U m oA oA];omega
 exact I n O (vQ _)
theorem zJS(h:val l<BB^n):sm (lm l) n=val l:=by
 by_cases hl:l.length<=n
 .exact zBk hl
 .have e:val l=sm (lm l) n+BB^n*sm (fun i=>lm l (n+i)) (l.length-n):=by
   rw[<-zK0,gW oA];rfl
  rcases uJ (sm (fun i=>lm l (n+i)) (l.length-n))with I|I
  .rw[I]at e;omega
  .have:BB^n*1<=BB^n*sm (fun i=>lm l (n+i)) (l.length-n):=uS _ I
   omega
theorem zBS(h:k<l.length):val (l.drop k)=lm l k+BB*val (l.drop (k+1)):=by
 rw[List.drop_eq_getElem_cons h,<-List.singleton_append,zDn,zH4 h]
 simp[val,sm,lm]
theorem zJT(h:Lt l)(k:Nat):val (l.drop k)<BB^(l.length-k):=by
 have:=qV (zIv h k)
 rwa [uK]at this
theorem zHu{lo P y z u I:Nat}(heq:a+u*P=lo+b)(J:x+I*4294967296=z+y+u):a+x*P+I*(P*4294967296)=lo+z*P+(b+y*P):=by
 have h:=vR (·*P) J
 simp only[vU]at h
 have e:I*(P*4294967296)=I*4294967296*P:=by rw[vT P,vX]
 omega
theorem zCu(l:List Nat)(n:Nat)(h:n<=l.length)(hz:∀i,n<=i->i<l.length->lm l i=0)(ht:n=0∨lm l (n-1)≠0):Tr (l.take n):=by
 rw[zL8]
 by_cases e:n=0
 .subst e;simp
 .right
  rw[uE,uR h,zKi oA]
  exact ht.resolve_left e
structure Is(l:List Nat)(n:Nat):Prop where
 lt:Lt l
 tr:Tr l
 val:val l=n
theorem Is.inj(h:Is l n)(k:Is m n):l=m:=zTf h.lt k.lt h.tr k.tr (h.val.trans k.val.symm)
theorem Is.nil:Is [] 0:=⟨zCp,by intro h;exact absurd rfl h,rfl⟩
theorem Is.len(h:Is l n)(I:n<BB^k):l.length<=k:=zBM h.tr (by rw[h.val];exact I)
theorem Is.zero_iff(h:Is l n):n=0↔l.length=0:=by
 rw[<-h.val,zFO h.tr,List.length_eq_zero_iff]
theorem Is.pos_iff(h:Is l n):0<n↔0<l.length:=by
 have:=h.zero_iff;omega
theorem Is.lt_pow(h:Is l n):n<BB^l.length:=by rw[<-h.val];exact qV h.lt
def TZ(x k:Nat):Prop:=∃m,x=2^k*(2*m+1)
theorem TZ.pos(h:TZ x k):0<x:=by
 obtain⟨m,rfl⟩:=h
 exact gQ (uO oA) oA
theorem wX(h:x%2=1):TZ x 0:=⟨x/2,oA⟩
theorem TZ.double(h:TZ x k):TZ (2*x) (k+1):=by
 obtain⟨m,rfl⟩:=h
 exact⟨m,by rw[uA,vT (2^k) 2,vX]⟩
theorem TZ.half(h:TZ (x/2) k)(h2:x%2=0):TZ x (k+1):=by
 have:=h.double
 rwa [show 2*(x/2)=x from oA]at this
theorem vL:∀x:Nat,0<x->∃k,TZ x k:=by
 intro x
 induction x using Nat.strongRecOn with
 | _ x ih=>
  intro h
  by_cases e:x%2=0
  .obtain⟨k,I⟩:=ih (x/2) oA oA
   exact⟨k+1,I.half e⟩
  .exact⟨0,wX oA⟩
theorem TZ.part(h:TZ x k):x=2^k*(x/2^k)/\(x/2^k)%2=1:=by
 obtain⟨m,rfl⟩:=h
 rw[gX _ (uO oA)]
 exact⟨rfl,oA⟩
theorem TZ.scale(i:Nat)(h:TZ x k):TZ (2^i*x) (i+k):=by
 obtain⟨m,rfl⟩:=h
 exact⟨m,by rw[uC,vX]⟩
theorem TZ.mod(h:TZ x k)(i:Nat)(hi:i<k):x/2^i%2=0:=by
 obtain⟨m,rfl⟩:=h
 rw[show 2^k=2^i*(2*2^(k-i-1))from by rw[<-gR,<-uC];congr 1;omega,vX,gX _ (uO oA),vX]
 omega
theorem TZ.unique(h:TZ x i)(I:TZ x j):i=j:=by
 rcases Nat.lt_trichotomy i j with e|e|e
 .have:=I.mod i e;have:=h.part.2;omega
 .exact e
 .have:=h.mod j e;have:=I.part.2;omega
theorem zRw(O:a%2=1)(hb:b%2=1):Nat.gcd (2^i*a) (2^j*b)=2^min i j*Nat.gcd a b:=by
 have I:∀x d:Nat,x%2=1->Nat.Coprime x (2^d):=fun x d h=>by
  refine Nat.Coprime.pow_right d ?_
  rw[gY]
  have J:Nat.gcd 2 x∣2:=Nat.gcd_dvd_left 2 x
  have h2:Nat.gcd 2 x∣x:=gZ 2 x
  have h3:Nat.gcd 2 x<=2:=Nat.le_of_dvd oA J
  have h4:Nat.gcd 2 x≠2:=fun e=>by rw[e]at h2;omega
  have h5:0<Nat.gcd 2 x:=Nat.pos_of_dvd_of_pos J oA
  show Nat.gcd 2 x=1
  omega
 rcases gS i j with h|h
 .rw[uR h,show 2^j=2^i*2^(j-i)from by rw[<-uC];congr 1;omega,vX,Nat.gcd_mul_left,xF b (gY.1 (I a _ O))]
 .rw[Nat.min_eq_right h,show 2^i=2^j*2^(i-j)from by rw[<-uC];congr 1;omega,vX,Nat.gcd_mul_left,uQ,xF a (gY.1 (I b _ hb)),uQ]
theorem TZ.gcd(h:TZ a i)(O:TZ b j):Nat.gcd a b=2^min i j*Nat.gcd (a/2^i) (b/2^j):=by
 have J:=h.part;have I:=O.part
 rw[<-zRw J.2 I.2,<-J.1,<-I.1]
theorem vC(I:a%2=1)(J:TZ b j):Nat.gcd a (b/2^j)=Nat.gcd a b:=by
 have:=(wX I).gcd J
 simp at this
 exact this.symm
theorem zIi(h:b<=a):Nat.gcd (a-b) b=Nat.gcd a b:=by
 rw[show Nat.gcd a b=Nat.gcd ((a-b)+b) b from by rw[gM h]]
 simp
theorem TZ.or(h:TZ a i)(h':TZ b j):TZ (a|||b) (min i j):=by
 have e1:=h.part;have U:=h'.part
 have O:∀x y d:Nat,x%2=1->TZ (x|||(2^d*y)) 0:=fun x y d hx=>by
  refine wX ?_
  have:(x|||2^d*y)%2=x%2|||(2^d*y)%2:=Nat.or_mod_two_pow (n:=1)
  rw[this,hx]
  have:(2^d*y)%2<2:=vY _ oA
  rcases(oA:(2^d*y)%2=0∨(2^d*y)%2=1)with e|e<;>rw[e]<;>rfl
 have J:∀x y n:Nat,2^n*x|||2^n*y=2^n*(x|||y):=fun x y n=>by
  rw[vT _ x,vT _ y,vT _ (x|||y),<-xB,<-xB,<-xB,Nat.shiftLeft_or_distrib]
 rcases gS i j with I|I
 .rw[uR I]
  have:=(O (a/2^i) (b/2^j) (j-i) e1.2).scale i
  rw[<-J,<-vX,<-uC,gW I,<-e1.1,<-U.1]at this
  simpa using this
 .rw[Nat.min_eq_right I]
  have:=(O (b/2^j) (a/2^i) (i-j) U.2).scale j
  rw[<-J,<-vX,<-uC,gW I,<-e1.1,<-U.1,Nat.or_comm]at this
  simpa using this
def sg(s:Bool)(x:Nat):Int:=if s then -(x:Int)else x
end Lb

namespace Go.Proofs.Wd
open Lb
variable {N N' P Q T V lo old over q s sb sn so x z:Nat}
theorem zOJ{t J O I:Nat}(h:so+(over+J)*P=sn+t*sb)(U:x*t+over=lo+O*4294967296)(hz:old+I*4294967296=z+lo+J):
  so+old*P+(O+I)*(P*4294967296)=sn+z*P+t*(sb+x*P):=by
 have e1:old*P+I*4294967296*P=z*P+lo*P+J*P:=by rw[<-vU,hz,vU,vU]
 have e2:x*t*P+over*P=lo*P+O*4294967296*P:=by rw[<-vU,U,vU]
 have e3:(O+I)*(P*4294967296)=O*4294967296*P+I*4294967296*P:=by
  rw[vU,vT P,<-vX,<-vX]
 have e4:t*(sb+x*P)=t*sb+x*t*P:=by rw[uH,<-vX,vT t x]
 have e5:(over+J)*P=over*P+J*P:=vU _ _ _
 rw[e3,e4]
 rw[e5]at h
 omega
theorem zOB{I:Nat}(h:sn+over*P=so+sb)(hz:over+x+old=z+I*4294967296):
  sn+z*P+I*(P*4294967296)=so+old*P+(sb+x*P):=by
 have e1:over*P+x*P+old*P=z*P+I*4294967296*P:=by rw[<-vU,<-vU,hz,vU]
 have J:I*(P*4294967296)=I*4294967296*P:=by rw[vT P,<-vX]
 rw[J]
 omega
theorem zOI(x t over old I:Nat)(hx:x<4294967296)(ht:t<4294967296)(ho:over<4294967296)(hold:old<4294967296)(hu:I<=1):
  ∃p s lo over' z under':Nat,x*t=p/\p<18446744073709551616/\p+over=s/\s<18446744073709551616/\s%4294967296=lo/\s/4294967296=over'/\over'<4294967296/\lo<4294967296/\
   (((old:Int)-(lo:Int)-(I:Int))%18446744073709551616)%4294967296=(z:Int)/\(((old:Int)-(lo:Int)-(I:Int))%18446744073709551616)/9223372036854775808=(under':Int)/\z<4294967296/\under'<=1/\
   x*t+over=lo+over'*4294967296/\old+under'*4294967296=z+lo+I/\(x=0->over'=0):=by
 have h1:x*t<=4294967295*4294967295:=gT oA oA
 refine⟨x*t,x*t+over,(x*t+over)%4294967296,(x*t+over)/4294967296,?_,if old<(x*t+over)%4294967296+I then 1 else 0,rfl,oA,rfl,oA,rfl,rfl,oA,oA,?_⟩
 case refine_1=>exact(((old:Int)-((x*t+over)%4294967296:Nat)-(I:Int))%18446744073709551616%4294967296).toNat
 have hl:(x*t+over)%4294967296<4294967296:=oA
 have J:x=0->(x*t+over)/4294967296=0:=fun e=>by subst e;omega
 refine⟨oA,?_,oA,by split<;>omega,oA,?_,J⟩
 .split<;>omega
 .split<;>omega
theorem zOA(over x old:Nat)(ho:over<=1)(hx:x<4294967296)(hold:old<4294967296):
  ∃s z over':Nat,over+x+old=s/\s<18446744073709551616/\(s:Int)%4294967296=(z:Int)/\(s:Int)/4294967296=(over':Int)/\z<4294967296/\over'<=1/\over+x+old=z+over'*4294967296:=
 ⟨over+x+old,(over+x+old)%4294967296,(over+x+old)/4294967296,rfl,oA,oA,oA,oA,oA,oA⟩
theorem zHa(hg:P/V<=q)(J:0<V)(h:P+0*T=N+q*V):q=P/V/\N=P%V:=by
 have I:q*V<=P:=oA
 have h2:q<=P/V:=(Nat.le_div_iff_mul_le J).2 I
 have h3:q=P/V:=oA
 subst h3
 refine⟨rfl,?_⟩
 have:=uY P V
 rw[vT]at this
 omega
theorem zMI(J:0<V)(hN:N<T)(h:P+T=N+q*V):P/V<q/\0<q:=by
 have I:P<q*V:=oA
 exact⟨(xC J).2 I,by
  rcases uJ q with e|e
  .subst e;rw[gN]at I;omega
  .exact e⟩
theorem zMJ(hq:0<q)(h:P+T=N+q*V)(hm:N'+0*T=N+V):P+T=N'+(q-1)*V:=by
 obtain⟨k,rfl⟩:∃k,q=k+1:=⟨q-1,oA⟩
 rw[vU,uV]at h
 rw[gG]
 omega
theorem zMK(J:0<V)(I:P/V<q)(h:P+T=N+q*V)(hm:N'+1*T=N+V):q-1=P/V/\N'=P%V:=by
 obtain⟨k,rfl⟩:∃k,q=k+1:=⟨q-1,(gM (Nat.one_le_of_lt I)).symm⟩
 rw[vU,uV]at h
 rw[gG]
 exact zHa (T:=T) (Nat.lt_succ_iff.1 I) J oA
theorem zMC{top I:Nat}(O:0<I)(hP:P<(top+1)*Q)(J:I*Q<=V):P/V<=top/I:=by
 rcases uJ Q with e|hQ
 .subst e;omega
 rw[Nat.le_div_iff_mul_le O]
 have h1:P/V*(I*Q)<=P/V*V:=uS _ J
 have h2:P/V*V<=P:=Nat.div_mul_le_self _ _
 have h3:P/V*I*Q<(top+1)*Q:=by rw[vX];omega
 have h4:P/V*I<top+1:=Nat.lt_of_mul_lt_mul_right h3
 omega
theorem zOV(h:P<V*4294967296):P/V<=4294967295:=by
 have:P/V<4294967296:=gJ h
 omega
theorem zJu{R A:Nat}(h:A=V*Q+R):x+BB*A=V*((x+BB*R)/V+BB*Q)+(x+BB*R)%V:=by
 have:=uY (x+BB*R) V
 rw[h,uH V,<-vX V BB Q,vT V BB,uH BB,<-vX]
 omega
theorem zTg{low n I:Nat}(h:lo+low*P=s*so)(hz:n*s+low=z+I*4294967296):lo+z*P+I*(P*4294967296)=s*(so+n*P):=by
 have e1:n*s*P+low*P=z*P+I*4294967296*P:=by rw[<-vU,hz,vU]
 have J:s*(so+n*P)=s*so+n*s*P:=by rw[uH,<-vX,vT s n]
 have O:I*(P*4294967296)=I*4294967296*P:=by rw[vT P,<-vX]
 rw[J,O]
 omega
theorem zPn{y f c sf:Nat}(h:so+x%s*P=s*sf+c)(O:s*f=(x-x%s)+4294967296*y):so+x*P+y*(P*4294967296)=s*(sf+f*P)+c:=by
 have U:s*(sf+f*P)=s*sf+(x-x%s)*P+4294967296*y*P:=by rw[uH,<-vX,O,vU,uT]
 have I:x*P=(x-x%s)*P+x%s*P:=by rw[<-vU,gM (Nat.mod_le _ _)]
 have J:y*(P*4294967296)=4294967296*y*P:=by rw[vT P,<-vX,vT y]
 rw[U,I,J]
 omega
end Go.Proofs.Wd

namespace Lb
variable {l:List Nat}{a b i q r:Nat}
theorem zSC(h:Lt l)(j:Nat):lm l j=val l/BB^j%BB:=by
 by_cases hj:j<l.length
 .have e:=j7 l j oA
  have I:=qV (zCa h j)
  rw[uE,uR oA]at I
  rw[e,gD _ _ (zCI j),uP I,uM,zBS hj,gU,uD (qQ h j)]
 .rw[zEw oA,uP (vV (qV h) (vZ qC oA))]
  rfl
theorem zHh(j:Nat):BB^j=2^(32*j):=by
 rw[Nat.pow_mul];rfl
theorem zF9(i:Nat):2^i=BB^(i/32)*2^(i%32):=by
 rw[zHh,<-uC];congr 1;omega
theorem zN2(t:Nat)(h:t<=32):2^t*2^(32-t)=BB:=by
 rw[<-uC,show t+(32-t)=32 from oA];rfl
theorem zU0(h:Lt l)(i:Nat):lm l (i/32)/2^(i%32)%2=val l/2^i%2:=by
 rw[zSC h,zF9 i,<-Nat.div_div_eq_div_mul]
 generalize val l/BB^(i/32)=x
 have ht:i%32<32:=vY _ oA
 generalize i%32=t at*
 have e:BB=2^t*(2*2^(31-t)):=by
  rw[<-zN2 t oA,show 32-t=(31-t)+1 from oA,gR]
 rw[e,Nat.mod_mul_right_div_self,xD]
theorem zRj(h:Lt l)(i:Nat)(hz:val l%2^(i+1)=0):lm l (i/32)%2^(i%32+1)=0:=by
 rw[zSC h]
 have ht:i%32<32:=vY _ oA
 have J:2^(i+1)=BB^(i/32)*2^(i%32+1):=by rw[uA,zF9 i,uA,vX]
 rw[J]at hz
 obtain⟨c,I⟩:=Nat.dvd_of_mod_eq_zero hz
 rw[I,vX,gX _ (zCI _)]
 generalize i%32=t at*
 have e:BB=2^(t+1)*2^(31-t):=by
  rw[<-uC,show t+1+(31-t)=32 from oA];rfl
 rw[e,xD,Nat.mul_mod_right]
structure DivAt(a b i q r:Nat):Prop where
 sum:a=q*b+r*2^i+a%2^i
 less:r<b
 low:q%2^i=0
theorem DivAt.next(h:DivAt a b (i+1) q r):
  let r':=2*r+a/2^i%2
  (r'<b->DivAt a b i q r')/\(b<=r'->DivAt a b i (q+2^i) (r'-b)):=by
 obtain⟨O,h2,h3⟩:=h
 have e:a%2^(i+1)=a/2^i%2*2^i+a%2^i:=by
  rw[uA,Nat.mod_mul,gO,vT]
 have J:q%2^i=0:=by
  have:=xD q (2^i) 2
  rw[<-uA,h3]at this
  simpa using this.symm
 rw[e,uA]at O
 have hc:a/2^i%2<2:=vY _ oA
 generalize a/2^i%2=c at*
 have e2:(2*r+c)*2^i=r*(2^i*2)+c*2^i:=by
  rw[vU,vT 2 r,vX,vT 2]
 refine⟨fun I=>⟨oA,I,J⟩,fun hge=>⟨?_,oA,by rw[Nat.add_mod,J];simp⟩⟩
 have e3:(q+2^i)*b+(2*r+c-b)*2^i=q*b+(2*r+c)*2^i:=by
  rw[vU,vT (2^i) b,uT,<-vU]
  congr 2
  omega
 omega
theorem DivAt.done(h:DivAt a b 0 q r):q=a/b/\r=a%b:=by
 obtain⟨I,h2,-⟩:=h
 rw[Nat.pow_zero,gK,gP,uN]at I
 have hb:0<b:=oA
 constructor
 .rw[I,vT,gL hb,uP h2];rfl
 .rw[I,vT,xE,uD h2]
theorem DivAt.start(h:a/2^i<b):DivAt a b i 0 (a/2^i):=
 ⟨by have:=uY a (2^i);rw[vT]at this;omega,h,fG⟩
end Lb
