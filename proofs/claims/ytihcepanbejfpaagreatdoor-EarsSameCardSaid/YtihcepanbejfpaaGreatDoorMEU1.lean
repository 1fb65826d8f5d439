/- Natural numbers by limbs: values of lists of limbs, trimmed lists, sum and what it needs. -/

theorem oA{P:Prop}(h:P:=by omega):P:=h
abbrev vP:=@Nat.le_refl
abbrev vQ:=@congrArg
abbrev vR:=@Nat.zero_le
abbrev vS:=@Nat.mul_comm
abbrev vT:=@Nat.add_mul
abbrev vU:=@Nat.lt_of_lt_of_le
abbrev vV:=@List.mem_append
abbrev vW:=@Nat.mod_lt
abbrev vX:=@Nat.mul_assoc
abbrev vY:=@Nat.pow_succ
abbrev vZ:=@Nat.pow_le_pow_right
abbrev uA:=@Nat.pow_add
abbrev uC:=@Nat.mod_eq_of_lt
abbrev uD:=@List.length_take
abbrev uE:=@Nat.mul_le_mul_right
abbrev uF:=@List.length_append
abbrev uG:=@Nat.mul_add
abbrev uH:=@Nat.eq_zero_or_pos
abbrev uJ:=@List.length_drop
abbrev uK:=@List.length_set
abbrev uL:=@Nat.zero_add
abbrev uM:=@Nat.add_zero
abbrev uN:=@Nat.pow_pos
abbrev uO:=@Nat.div_eq_of_lt
abbrev uP:=@Nat.gcd_comm
abbrev uQ:=@Nat.min_eq_left
abbrev uR:=@Nat.mul_le_mul_left
abbrev uS:=@Nat.add_assoc
abbrev uT:=@List.getElem?_take
abbrev uU:=@Nat.one_mul
abbrev uV:=@List.mem_of_mem_take
abbrev uW:=@List.getElem?_drop
abbrev uX:=@Nat.div_add_mod
abbrev uY:=@List.getElem_mem
abbrev uZ:=@List.mem_of_mem_drop
abbrev gA:=@List.take_append_drop
abbrev gB:=@List.getElem?_append_left
abbrev gC:=@Nat.add_mul_div_left
abbrev gD:=@List.getElem?_append_right
abbrev gE:=@List.length_pos_iff
abbrev gF:=@Nat.add_sub_cancel
abbrev gG:=@List.ext_getElem
abbrev gH:=@Nat.div_lt_of_lt_mul
abbrev gJ:=@Nat.add_comm
abbrev gK:=@Nat.mul_one
abbrev gL:=@Nat.mul_add_div
abbrev gM:=@Nat.sub_add_cancel
abbrev gN:=@Nat.zero_mul
abbrev gO:=@Nat.mod_one
abbrev gP:=@Nat.mul_pos
abbrev gQ:=@Nat.pow_succ'
abbrev gR:=@Nat.le_total
abbrev gS:=@Nat.mul_le_mul
abbrev gT:=@Nat.add_mul_mod_self_left
abbrev gU:=@List.getElem?_eq_none
abbrev gV:=@Nat.add_sub_cancel'
abbrev gW:=@Nat.mul_div_cancel_left
abbrev gX:=@Nat.coprime_comm
abbrev gY:=@Nat.gcd_dvd_right
abbrev gZ:=@Nat.shiftLeft_eq
abbrev xB:=@Nat.div_lt_iff_lt_mul
abbrev xC:=@Nat.mod_mul_right_mod
abbrev xD:=@Nat.mul_add_mod
abbrev xE:=@Nat.Coprime.gcd_mul_left_cancel_right
namespace Lb
variable {l m:List Nat}{a b i j k n v x:Nat}
def BB:Nat:=4294967296
def sm(f:Nat->Nat):Nat->Nat
 |0=>0
 |n+1=>sm f n+f n*BB^n
def lm(l:List Nat)(i:Nat):Nat:=l[i]?.getD 0
def val(l:List Nat):Nat:=sm (lm l) l.length
def Lt(l:List Nat):Prop:=∀x∈l,x<BB
def Tr(l:List Nat):Prop:=∀h:l≠ [],l.getLast h≠0
theorem qC:0<BB:=by decide
theorem zYl:BB=4294967296:=rfl
theorem zCC(n:Nat):0<BB^n:=uN qC
theorem zAV{f g:Nat->Nat}:∀{n:Nat},(∀i,i<n->f i=g i)->sm f n=sm g n
 |0,_=>rfl
 |n+1,h=>by simp only[sm];rw[zAV (fun i hi=>h i oA),h n oA]
theorem zJv{f:Nat->Nat}:∀{n:Nat},(∀i,i<n->f i<BB)->sm f n<BB^n
 |0,_=>by simp[sm]
 | n+1,h=>by
  have h1:=zJv (fun i (hi:i<n)=>h i oA)
  have h2:=h n oA
  have h3:f n*BB^n+BB^n<=BB*BB^n:=by
   have:(f n+1)*BB^n<=BB*BB^n:=uE _ h2
   rw[vT,uU]at this;exact this
  simp only[sm];rw[vY,vS (BB^n)];omega
theorem zDA{f:Nat->Nat}{n:Nat}:∀{m:Nat},n<=m->(∀i,n<=i->i<m->f i=0)->sm f m=sm f n
  | 0, h, _ => by have:n=0:=by omega
                  subst this;rfl
  | m+1,h,hz=>by
    by_cases e:n=m+1
    . subst e;rfl
    . simp only[sm];rw[zDA oA (fun i I h2=>hz i I oA),hz m oA oA];omega
theorem zJu{f:Nat->Nat}{n:Nat}:∀{m:Nat},n<=m->sm f n<=sm f m
  | 0, h => by have:n=0:=by omega
               subst this;exact vP _
  | m+1,h=>by
    by_cases e:n=m+1
    . subst e;exact vP _
    . have:=zJu (f:=f) (show n<=m by omega);simp only[sm];omega
theorem zHF(h:i<l.length):lm l i=l[i]:=by simp[lm,h]
theorem zEc(h:l.length<=i):lm l i=0:=by simp[lm,h]
theorem qR(h:Lt l)(i:Nat):lm l i<BB:=by
 by_cases hi:i<l.length
 .rw[zHF hi];exact h _ (uY hi)
 .rw[zEc oA];exact qC
theorem zAZ(h:l.length<=n):sm (lm l) n=val l:=zDA h (fun _ I _=>zEc I)
theorem q8(h:Lt l):val l<BB^l.length:=zJv fun i _=>qR h i
@[simp] theorem zWV:val []=0:=rfl
theorem zN3:lm (l++ [x]) i=if i=l.length then x else lm l i:=by
 unfold lm
 by_cases h:i<l.length
 .rw[gB h,if_neg oA]
 .rw[gD oA]
  by_cases e:i=l.length
  .subst e;simp
  .rw[if_neg e,gU (by simp;omega),gU oA]
theorem zAo(l:List Nat)(x:Nat):val (l++ [x])=val l+x*BB^l.length:=by
 unfold val
 rw[uF]
 show sm (lm (l++ [x])) l.length+lm (l++ [x]) l.length*BB^l.length=_
 rw[zN3,if_pos rfl,zAV (g:=lm l) (fun i hi=>by rw[zN3,if_neg oA])]
theorem zBh(h:Lt l)(hx:x<BB):Lt (l++ [x]):=by
 intro y I
 rcases vV.1 I with I|I
 .exact h y I
 .simp at I;omega
theorem zB4:Lt []:=by intro x I;cases I
theorem zB3(h:Lt l)(n:Nat):Lt (l.take n):=fun x I=>h x (uV I)
theorem zH6(h:Lt l)(n:Nat):Lt (l.drop n):=fun x I=>h x (uZ I)
theorem zJf(h:Lt l)(k:Lt m):Lt (l++m):=fun x I=>(vV.1 I).elim (h x) (k x)
theorem zAa(n:Nat):Lt (List.replicate n 0):=fun x I=>by rw[List.eq_of_mem_replicate I];exact qC
theorem zFY(i:Nat):lm (l++m) (l.length+i)=lm m i:=by
 unfold lm;rw[gD oA];simp
theorem zGf(h:i<l.length):lm (l++m) i=lm l i:=by
 unfold lm;rw[gB h]
theorem zKs(f:Nat->Nat)(n:Nat):∀m,sm f (n+m)=sm f n+BB^n*sm (fun i=>f (n+i)) m
 |0=>by simp[sm]
 |m+1=>by
  show sm f (n+m)+f (n+m)*BB^(n+m)=_
  rw[zKs f n m];simp only[sm];rw[uG,uA,uS];congr 2
  rw[<-vX,vS (f (n+m)),vX,vS (f (n+m))]
theorem zDi(l m:List Nat):val (l++m)=val l+BB^l.length*val m:=by
 unfold val
 rw[uF,zKs]
 rw[zAV (g:=lm l) (fun i hi=>zGf hi),zAV (f:=fun i=>lm (l++m) (l.length+i)) (g:=lm m) (fun i _=>zFY i)]
theorem zAb(l:List Nat)(n:Nat)(h:n<=l.length):val l=val (l.take n)+BB^n*val (l.drop n):=by
 have:=zDi (l.take n) (l.drop n)
 rw[gA,uD,uQ h]at this
 exact this
theorem zJO(h:i<n):lm (l.take n) i=lm l i:=by
 unfold lm;rw[uT,if_pos h]
theorem zGT(h:n<=l.length):val (l.take n)=sm (lm l) n:=by
 unfold val;rw[uD,uQ h];exact zAV fun i hi=>zJO hi
theorem zDK:lm (l.drop n) i=lm l (n+i):=by
 unfold lm;rw[uW]
theorem jN(h:n<=l.length)(hz:∀i,n<=i->i<l.length->lm l i=0):val (l.take n)=val l:=by
 rw[zGT h];exact(zDA h hz).symm
theorem zAC(n:Nat):val (List.replicate n 0)=0:=by
 unfold val
 rw[zDA (n:=0) (vR _)]
 .rfl
 .intro i _ hi;rw[zHF hi];simp
theorem zLA:Tr l↔(l=[]∨lm l (l.length-1)≠0):=by
 unfold Tr
 by_cases h:l=[]
 .subst h;simp
 .have hl:0<l.length:=gE.2 h
  rw[zHF oA]
  constructor
  .intro I;right;rw[<-List.getLast_eq_getElem h];exact I h
  .intro I J;rw[List.getLast_eq_getElem J];exact I.resolve_left h
theorem zSt(h:j<l.length):val (l.set j v)+lm l j*BB^j=val l+v*BB^j:=by
 have J:∀n,n<=l.length->sm (lm (l.set j v)) n+(if j<n then lm l j*BB^j else 0)=sm (lm l) n+(if j<n then v*BB^j else 0):=by
  intro n
  induction n with
  |zero=>intro _;simp[sm]
  | succ n ih=>
   intro hn
   have:=ih oA
   simp only[sm]
   have I:lm (l.set j v) n=if j=n then v else lm l n:=by
    unfold lm
    rw[List.getElem?_set]
    by_cases e:j=n
    .subst e;simp[h]
    .simp[e]
   rw[I]
   by_cases e:j=n
   .subst e;simp at this ⊢;omega
   .by_cases g:j<n
    .rw[if_pos g]at this;rw[if_neg e,if_pos oA];rw[if_pos g]at this;rw[if_pos oA];omega
    .rw[if_neg g]at this;rw[if_neg e,if_neg oA];rw[if_neg g]at this;rw[if_neg oA];omega
 have:=J l.length (vP _)
 rw[if_pos h,if_pos h]at this
 unfold val;rw[uK];exact this
theorem zDg(h:Lt l){j v:Nat}(hv:v<BB):Lt (l.set j v):=by
 intro x J
 rcases List.mem_or_eq_of_mem_set J with I|I
 .exact h x I
 .omega
theorem zA3(h:j<l.length):lm (l.set j v) i=if j=i then v else lm l i:=by
 unfold lm
 rw[List.getElem?_set]
 by_cases e:j=i
 .subst e;simp[h]
 .simp[e]
theorem zIc(ht:Tr l)(I:l≠ []):BB^(l.length-1)<=val l:=by
 have hl:0<l.length:=gE.2 I
 rcases zLA.1 ht with h|h
 .exact absurd h I
 .unfold val
  obtain⟨k,hk⟩:∃k,l.length=k+1:=⟨l.length-1,by omega⟩
  rw[hk]at h ⊢
  simp only[sm,gF]at h ⊢
  have:1*BB^k<=lm l k*BB^k:=uE _ oA
  omega
theorem zPd(ht:Tr l)(h:val l=0):l=[]:=by
 by_cases hn:l=[]
 .exact hn
 .have:=zIc ht hn;have:=zCC (l.length-1);omega
theorem zFq(ht:Tr l):val l=0↔l=[]:=⟨zPd ht,fun h=>by subst h;rfl⟩
theorem zBJ(ht:Tr l){k:Nat}(h:val l<BB^k):l.length<=k:=by
 by_cases hn:l=[]
 .subst hn;simp
 .have h1:=zIc ht hn
  have h2:BB^(l.length-1)<BB^k:=by omega
  have:=(Nat.pow_lt_pow_iff_right (show 1<BB by decide)).1 h2
  omega
theorem zRv{f g:Nat->Nat}:∀{n:Nat},(∀i,i<n->f i<BB)->(∀i,i<n->g i<BB)->sm f n=sm g n->∀i,i<n->f i=g i
 |0,_,_,_,i,hi=>absurd hi oA
 | n+1,hf,hg,h,i,hi=>by
  have O:=zJv (f:=f) (n:=n) (fun i hi=>hf i oA)
  have h2:=zJv (f:=g) (n:=n) (fun i hi=>hg i oA)
  simp only[sm]at h
  have I:=zCC n
  have U:(sm f n+f n*BB^n)/BB^n=f n:=by
   rw[vS,gC _ _ I,uO O];omega
  have e2:(sm g n+g n*BB^n)/BB^n=g n:=by
   rw[vS,gC _ _ I,uO h2];omega
  have J:f n=g n:=by rw[<-U,<-e2,h]
  by_cases e:i=n
  .subst e;exact J
  .rw[J]at h
   exact zRv (n:=n) (fun i hi=>hf i oA) (fun i hi=>hg i oA) oA i oA
theorem zSu(J:Lt l)(I:Lt m)(tl:Tr l)(U:Tr m)(h:val l=val m):l=m:=by
 have len:l.length=m.length:=by
  have a:l.length<=m.length:=zBJ tl (by rw[h];exact q8 I)
  have b:m.length<=l.length:=zBJ U (by rw[<-h];exact q8 J)
  omega
 apply gG len
 intro i O h2
 have:=zRv (f:=lm l) (g:=lm m) (n:=l.length) (fun i _=>qR J i) (fun i _=>qR I i) (by unfold val at h;rw[<-len]at h;exact h) i O
 rw[zHF O,zHF h2]at this;exact this
theorem zSM{f g:Nat->Nat}(O:k<n)(J:∀i,i<n->f i<BB)(U:∀i,k<i->i<n->f i=g i)(h:f k<g k):sm f n<sm g n:=by
 have I:∀m,k<m->m<=n->sm f m<sm g m:=by
  intro m
  induction m with
  |zero=>intro h;omega
  | succ m ih=>
   intro h1 h2
   simp only[sm]
   by_cases e:k=m
   .subst e
    have a:=zJv (f:=f) (n:=k) (fun i hi=>J i oA)
    have b:(f k+1)*BB^k<=g k*BB^k:=uE _ h
    rw[vT]at b;omega
   .have:=ih oA oA
    rw[U m oA oA];omega
 exact I n O (vP _)
theorem zJk(h:val l<BB^n):sm (lm l) n=val l:=by
 by_cases hl:l.length<=n
 .exact zAZ hl
 .have e:val l=sm (lm l) n+BB^n*sm (fun i=>lm l (n+i)) (l.length-n):=by
   rw[<-zKs,gV oA];rfl
  rcases uH (sm (fun i=>lm l (n+i)) (l.length-n))with I|I
  .rw[I]at e;omega
  .have:BB^n*1<=BB^n*sm (fun i=>lm l (n+i)) (l.length-n):=uR _ I
   omega
theorem zBN(h:k<l.length):val (l.drop k)=lm l k+BB*val (l.drop (k+1)):=by
 rw[List.drop_eq_getElem_cons h,<-List.singleton_append,zDi,zHF h]
 simp[val,sm,lm]
theorem zJl(h:Lt l)(k:Nat):val (l.drop k)<BB^(l.length-k):=by
 have:=q8 (zH6 h k)
 rwa [uJ]at this
theorem zG4{lo P y z u I:Nat}(heq:a+u*P=lo+b)(J:x+I*4294967296=z+y+u):a+x*P+I*(P*4294967296)=lo+z*P+(b+y*P):=by
 have h:=vQ (·*P) J
 simp only[vT]at h
 have e:I*(P*4294967296)=I*4294967296*P:=by rw[vS P,vX]
 omega
theorem zCm(l:List Nat)(n:Nat)(h:n<=l.length)(hz:∀i,n<=i->i<l.length->lm l i=0)(ht:n=0∨lm l (n-1)≠0):Tr (l.take n):=by
 rw[zLA]
 by_cases e:n=0
 .subst e;simp
 .right
  rw[uD,uQ h,zJO oA]
  exact ht.resolve_left e
structure Is(l:List Nat)(n:Nat):Prop where
 lt:Lt l
 tr:Tr l
 val:val l=n
theorem Is.inj(h:Is l n)(k:Is m n):l=m:=zSu h.lt k.lt h.tr k.tr (h.val.trans k.val.symm)
theorem Is.nil:Is [] 0:=⟨zB4,by intro h;exact absurd rfl h,rfl⟩
theorem Is.len(h:Is l n)(I:n<BB^k):l.length<=k:=zBJ h.tr (by rw[h.val];exact I)
theorem Is.zero_iff(h:Is l n):n=0↔l.length=0:=by
 rw[<-h.val,zFq h.tr,List.length_eq_zero_iff]
theorem Is.pos_iff(h:Is l n):0<n↔0<l.length:=by
 have:=h.zero_iff;omega
theorem Is.lt_pow(h:Is l n):n<BB^l.length:=by rw[<-h.val];exact q8 h.lt
def TZ(x k:Nat):Prop:=∃m,x=2^k*(2*m+1)
theorem TZ.pos(h:TZ x k):0<x:=by
 obtain⟨m,rfl⟩:=h
 exact gP (uN oA) oA
theorem wX(h:x%2=1):TZ x 0:=⟨x/2,by omega⟩
theorem TZ.double(h:TZ x k):TZ (2*x) (k+1):=by
 obtain⟨m,rfl⟩:=h
 exact⟨m,by rw[vY,vS (2^k) 2,vX]⟩
theorem TZ.half(h:TZ (x/2) k)(h2:x%2=0):TZ x (k+1):=by
 have:=h.double
 rwa [show 2*(x/2)=x from by omega]at this
theorem vL:∀x:Nat,0<x->∃k,TZ x k:=by
 intro x
 induction x using Nat.strongRecOn with
 | _ x ih=>
  intro h
  by_cases e:x%2=0
  .obtain⟨k,I⟩:=ih (x/2) oA oA
   exact⟨k+1,I.half e⟩
  .exact⟨0,wX oA⟩
theorem TZ.part(h:TZ x k):x=2^k*(x/2^k)/\(x/2^k)%2=1:=by
 obtain⟨m,rfl⟩:=h
 rw[gW _ (uN oA)]
 exact⟨rfl,by omega⟩
theorem TZ.scale(i:Nat)(h:TZ x k):TZ (2^i*x) (i+k):=by
 obtain⟨m,rfl⟩:=h
 exact⟨m,by rw[uA,vX]⟩
theorem TZ.mod(h:TZ x k)(i:Nat)(hi:i<k):x/2^i%2=0:=by
 obtain⟨m,rfl⟩:=h
 rw[show 2^k=2^i*(2*2^(k-i-1))from by rw[<-gQ,<-uA];congr 1;omega,vX,gW _ (uN oA),vX]
 omega
theorem TZ.unique(h:TZ x i)(I:TZ x j):i=j:=by
 rcases Nat.lt_trichotomy i j with e|e|e
 .have:=I.mod i e;have:=h.part.2;omega
 .exact e
 .have:=h.mod j e;have:=I.part.2;omega
theorem zQQ(O:a%2=1)(hb:b%2=1):Nat.gcd (2^i*a) (2^j*b)=2^min i j*Nat.gcd a b:=by
 have I:∀x d:Nat,x%2=1->Nat.Coprime x (2^d):=fun x d h=>by
  refine Nat.Coprime.pow_right d ?_
  rw[gX]
  have J:Nat.gcd 2 x∣2:=Nat.gcd_dvd_left 2 x
  have h2:Nat.gcd 2 x∣x:=gY 2 x
  have h3:Nat.gcd 2 x<=2:=Nat.le_of_dvd oA J
  have h4:Nat.gcd 2 x≠2:=fun e=>by rw[e]at h2;omega
  have h5:0<Nat.gcd 2 x:=Nat.pos_of_dvd_of_pos J oA
  show Nat.gcd 2 x=1
  omega
 rcases gR i j with h|h
 .rw[uQ h,show 2^j=2^i*2^(j-i)from by rw[<-uA];congr 1;omega,vX,Nat.gcd_mul_left,xE b (gX.1 (I a _ O))]
 .rw[Nat.min_eq_right h,show 2^i=2^j*2^(i-j)from by rw[<-uA];congr 1;omega,vX,Nat.gcd_mul_left,uP,xE a (gX.1 (I b _ hb)),uP]
theorem TZ.gcd(h:TZ a i)(O:TZ b j):Nat.gcd a b=2^min i j*Nat.gcd (a/2^i) (b/2^j):=by
 have J:=h.part;have I:=O.part
 rw[<-zQQ J.2 I.2,<-J.1,<-I.1]
theorem vD(I:a%2=1)(J:TZ b j):Nat.gcd a (b/2^j)=Nat.gcd a b:=by
 have:=(wX I).gcd J
 simp at this
 exact this.symm
theorem zHT(h:b<=a):Nat.gcd (a-b) b=Nat.gcd a b:=by
 rw[show Nat.gcd a b=Nat.gcd ((a-b)+b) b from by rw[gM h]]
 simp
theorem TZ.or(h:TZ a i)(h':TZ b j):TZ (a|||b) (min i j):=by
 have U:=h.part;have e2:=h'.part
 have O:∀x y d:Nat,x%2=1->TZ (x|||(2^d*y)) 0:=fun x y d hx=>by
  refine wX ?_
  have:(x|||2^d*y)%2=x%2|||(2^d*y)%2:=Nat.or_mod_two_pow (n:=1)
  rw[this,hx]
  have:(2^d*y)%2<2:=vW _ oA
  rcases(by omega:(2^d*y)%2=0∨(2^d*y)%2=1)with e|e<;>rw[e]<;>rfl
 have J:∀x y n:Nat,2^n*x|||2^n*y=2^n*(x|||y):=fun x y n=>by
  rw[vS _ x,vS _ y,vS _ (x|||y),<-gZ,<-gZ,<-gZ,Nat.shiftLeft_or_distrib]
 rcases gR i j with I|I
 .rw[uQ I]
  have:=(O (a/2^i) (b/2^j) (j-i) U.2).scale i
  rw[<-J,<-vX,<-uA,gV I,<-U.1,<-e2.1]at this
  simpa using this
 .rw[Nat.min_eq_right I]
  have:=(O (b/2^j) (a/2^i) (i-j) e2.2).scale j
  rw[<-J,<-vX,<-uA,gV I,<-U.1,<-e2.1,Nat.or_comm]at this
  simpa using this
def sg(s:Bool)(x:Nat):Int:=if s then -(x:Int)else x
end Lb

namespace Go.Proofs.Wd
open Lb
variable {N N' P Q T V lo old over q s sb sn so x z:Nat}
theorem zN8{t O J I:Nat}(h:so+(over+O)*P=sn+t*sb)(U:x*t+over=lo+J*4294967296)(hz:old+I*4294967296=z+lo+O):
  so+old*P+(J+I)*(P*4294967296)=sn+z*P+t*(sb+x*P):=by
 have e1:old*P+I*4294967296*P=z*P+lo*P+O*P:=by rw[<-vT,hz,vT,vT]
 have e2:x*t*P+over*P=lo*P+J*4294967296*P:=by rw[<-vT,U,vT]
 have e3:(J+I)*(P*4294967296)=J*4294967296*P+I*4294967296*P:=by
  rw[vT,vS P,<-vX,<-vX]
 have e4:t*(sb+x*P)=t*sb+x*t*P:=by rw[uG,<-vX,vS t x]
 have e5:(over+O)*P=over*P+O*P:=vT _ _ _
 rw[e3,e4]
 rw[e5]at h
 omega
theorem zNY{I:Nat}(h:sn+over*P=so+sb)(hz:over+x+old=z+I*4294967296):
  sn+z*P+I*(P*4294967296)=so+old*P+(sb+x*P):=by
 have e1:over*P+x*P+old*P=z*P+I*4294967296*P:=by rw[<-vT,<-vT,hz,vT]
 have J:I*(P*4294967296)=I*4294967296*P:=by rw[vS P,<-vX]
 rw[J]
 omega
theorem zN7(x t over old I:Nat)(hx:x<4294967296)(ht:t<4294967296)(ho:over<4294967296)(hold:old<4294967296)(hu:I<=1):
  ∃p s lo over' z under':Nat,x*t=p/\p<18446744073709551616/\p+over=s/\s<18446744073709551616/\s%4294967296=lo/\s/4294967296=over'/\over'<4294967296/\lo<4294967296/\
   (((old:Int)-(lo:Int)-(I:Int))%18446744073709551616)%4294967296=(z:Int)/\(((old:Int)-(lo:Int)-(I:Int))%18446744073709551616)/9223372036854775808=(under':Int)/\z<4294967296/\under'<=1/\
   x*t+over=lo+over'*4294967296/\old+under'*4294967296=z+lo+I/\(x=0->over'=0):=by
 have h1:x*t<=4294967295*4294967295:=gS oA oA
 refine⟨x*t,x*t+over,(x*t+over)%4294967296,(x*t+over)/4294967296,?_,if old<(x*t+over)%4294967296+I then 1 else 0,rfl,by omega,rfl,by omega,rfl,rfl,by omega,by omega,?_⟩
 case refine_1=>exact(((old:Int)-((x*t+over)%4294967296:Nat)-(I:Int))%18446744073709551616%4294967296).toNat
 have hl:(x*t+over)%4294967296<4294967296:=by omega
 have J:x=0->(x*t+over)/4294967296=0:=fun e=>by subst e;omega
 refine⟨by omega,?_,by omega,by split<;>omega,by omega,?_,J⟩
 .split<;>omega
 .split<;>omega
theorem zNX(over x old:Nat)(ho:over<=1)(hx:x<4294967296)(hold:old<4294967296):
  ∃s z over':Nat,over+x+old=s/\s<18446744073709551616/\(s:Int)%4294967296=(z:Int)/\(s:Int)/4294967296=(over':Int)/\z<4294967296/\over'<=1/\over+x+old=z+over'*4294967296:=
 ⟨over+x+old,(over+x+old)%4294967296,(over+x+old)/4294967296,rfl,by omega,by omega,by omega,by omega,by omega,by omega⟩
theorem zGI(hg:P/V<=q)(I:0<V)(h:P+0*T=N+q*V):q=P/V/\N=P%V:=by
 have J:q*V<=P:=by omega
 have h2:q<=P/V:=(Nat.le_div_iff_mul_le I).2 J
 have h3:q=P/V:=by omega
 subst h3
 refine⟨rfl,?_⟩
 have:=uX P V
 rw[vS]at this
 omega
theorem zL9(J:0<V)(hN:N<T)(h:P+T=N+q*V):P/V<q/\0<q:=by
 have I:P<q*V:=by omega
 exact⟨(xB J).2 I,by
  rcases uH q with e|e
  .subst e;rw[gN]at I;omega
  .exact e⟩
theorem zMa(hq:0<q)(h:P+T=N+q*V)(hm:N'+0*T=N+V):P+T=N'+(q-1)*V:=by
 obtain⟨k,rfl⟩:∃k,q=k+1:=⟨q-1,by omega⟩
 rw[vT,uU]at h
 rw[gF]
 omega
theorem zMb(J:0<V)(I:P/V<q)(h:P+T=N+q*V)(hm:N'+1*T=N+V):q-1=P/V/\N'=P%V:=by
 obtain⟨k,rfl⟩:∃k,q=k+1:=⟨q-1,(gM (Nat.one_le_of_lt I)).symm⟩
 rw[vT,uU]at h
 rw[gF]
 exact zGI (T:=T) (Nat.lt_succ_iff.1 I) J oA
theorem zL3{top I:Nat}(J:0<I)(hP:P<(top+1)*Q)(O:I*Q<=V):P/V<=top/I:=by
 rcases uH Q with e|hQ
 .subst e;omega
 rw[Nat.le_div_iff_mul_le J]
 have h1:P/V*(I*Q)<=P/V*V:=uR _ O
 have h2:P/V*V<=P:=Nat.div_mul_le_self _ _
 have h3:P/V*I*Q<(top+1)*Q:=by rw[vX];omega
 have h4:P/V*I<top+1:=Nat.lt_of_mul_lt_mul_right h3
 omega
theorem zOl(h:P<V*4294967296):P/V<=4294967295:=by
 have:P/V<4294967296:=gH h
 omega
theorem zIX{R A:Nat}(h:A=V*Q+R):x+BB*A=V*((x+BB*R)/V+BB*Q)+(x+BB*R)%V:=by
 have:=uX (x+BB*R) V
 rw[h,uG V,<-vX V BB Q,vS V BB,uG BB,<-vX]
 omega
theorem zSv{low n I:Nat}(h:lo+low*P=s*so)(hz:n*s+low=z+I*4294967296):lo+z*P+I*(P*4294967296)=s*(so+n*P):=by
 have e1:n*s*P+low*P=z*P+I*4294967296*P:=by rw[<-vT,hz,vT]
 have J:s*(so+n*P)=s*so+n*s*P:=by rw[uG,<-vX,vS s n]
 have O:I*(P*4294967296)=I*4294967296*P:=by rw[vS P,<-vX]
 rw[J,O]
 omega
theorem zOK{y f c sf:Nat}(h:so+x%s*P=s*sf+c)(J:s*f=(x-x%s)+4294967296*y):so+x*P+y*(P*4294967296)=s*(sf+f*P)+c:=by
 have O:s*(sf+f*P)=s*sf+(x-x%s)*P+4294967296*y*P:=by rw[uG,<-vX,J,vT,uS]
 have I:x*P=(x-x%s)*P+x%s*P:=by rw[<-vT,gM (Nat.mod_le _ _)]
 have U:y*(P*4294967296)=4294967296*y*P:=by rw[vS P,<-vX,vS y]
 rw[O,I,U]
 omega
end Go.Proofs.Wd

namespace Lb
variable {l:List Nat}{a b i q r:Nat}
theorem zRQ(h:Lt l)(j:Nat):lm l j=val l/BB^j%BB:=by
 by_cases hj:j<l.length
 .have e:=zAb l j oA
  have I:=q8 (zB3 h j)
  rw[uD,uQ oA]at I
  rw[e,gC _ _ (zCC j),uO I,uL,zBN hj,gT,uC (qR h j)]
 .rw[zEc oA,uO (vU (q8 h) (vZ qC oA))]
  rfl
theorem zGO(j:Nat):BB^j=2^(32*j):=by
 rw[Nat.pow_mul];rfl
theorem zFP(i:Nat):2^i=BB^(i/32)*2^(i%32):=by
 rw[zGO,<-uA];congr 1;omega
theorem zNt(t:Nat)(h:t<=32):2^t*2^(32-t)=BB:=by
 rw[<-uA,show t+(32-t)=32 from by omega];rfl
theorem zUi(h:Lt l)(i:Nat):lm l (i/32)/2^(i%32)%2=val l/2^i%2:=by
 rw[zRQ h,zFP i,<-Nat.div_div_eq_div_mul]
 generalize val l/BB^(i/32)=x
 have ht:i%32<32:=vW _ oA
 generalize i%32=t at*
 have e:BB=2^t*(2*2^(31-t)):=by
  rw[<-zNt t oA,show 32-t=(31-t)+1 from by omega,gQ]
 rw[e,Nat.mod_mul_right_div_self,xC]
theorem zQD(h:Lt l)(i:Nat)(hz:val l%2^(i+1)=0):lm l (i/32)%2^(i%32+1)=0:=by
 rw[zRQ h]
 have ht:i%32<32:=vW _ oA
 have J:2^(i+1)=BB^(i/32)*2^(i%32+1):=by rw[vY,zFP i,vY,vX]
 rw[J]at hz
 obtain⟨c,I⟩:=Nat.dvd_of_mod_eq_zero hz
 rw[I,vX,gW _ (zCC _)]
 generalize i%32=t at*
 have e:BB=2^(t+1)*2^(31-t):=by
  rw[<-uA,show t+1+(31-t)=32 from by omega];rfl
 rw[e,xC,Nat.mul_mod_right]
structure DivAt(a b i q r:Nat):Prop where
 sum:a=q*b+r*2^i+a%2^i
 less:r<b
 low:q%2^i=0
theorem DivAt.next(h:DivAt a b (i+1) q r):
  let r':=2*r+a/2^i%2
  (r'<b->DivAt a b i q r')/\(b<=r'->DivAt a b i (q+2^i) (r'-b)):=by
 obtain⟨O,h2,h3⟩:=h
 have e:a%2^(i+1)=a/2^i%2*2^i+a%2^i:=by
  rw[vY,Nat.mod_mul,gJ,vS]
 have J:q%2^i=0:=by
  have:=xC q (2^i) 2
  rw[<-vY,h3]at this
  simpa using this.symm
 rw[e,vY]at O
 have hc:a/2^i%2<2:=vW _ oA
 generalize a/2^i%2=c at*
 have e2:(2*r+c)*2^i=r*(2^i*2)+c*2^i:=by
  rw[vT,vS 2 r,vX,vS 2]
 refine⟨fun I=>⟨by omega,I,J⟩,fun hge=>⟨?_,by omega,by rw[Nat.add_mod,J];simp⟩⟩
 have e3:(q+2^i)*b+(2*r+c-b)*2^i=q*b+(2*r+c)*2^i:=by
  rw[vT,vS (2^i) b,uS,<-vT]
  congr 2
  omega
 omega
theorem DivAt.done(h:DivAt a b 0 q r):q=a/b/\r=a%b:=by
 obtain⟨I,h2,-⟩:=h
 rw[Nat.pow_zero,gK,gO,uM]at I
 have hb:0<b:=by omega
 constructor
 .rw[I,vS,gL hb,uO h2];rfl
 .rw[I,vS,xD,uC h2]
theorem DivAt.start(h:a/2^i<b):DivAt a b i 0 (a/2^i):=
 ⟨by have:=uX a (2^i);rw[vS]at this;omega,h,by simp⟩
end Lb
