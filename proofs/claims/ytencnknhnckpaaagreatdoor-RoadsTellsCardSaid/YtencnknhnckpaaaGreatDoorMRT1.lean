/- Natural numbers by limbs: values of lists of limbs, trimmed lists, sum and what it needs. -/

theorem oA{P:Prop}(h:P:=by omega):P:=h
abbrev vR:=@Nat.le_refl
abbrev vS:=@Nat.zero_le
abbrev vT:=@Nat.mul_comm
abbrev vU:=@Nat.add_mul
abbrev vV:=@Nat.mul_assoc
abbrev vW:=@Nat.lt_of_lt_of_le
abbrev vX:=@congrArg
abbrev vY:=@Nat.pow_succ
abbrev vZ:=@Nat.pow_le_pow_right
abbrev uA:=@Nat.pow_add
abbrev uC:=@List.length_set
abbrev uD:=@List.length_append
abbrev uE:=@Nat.mul_le_mul_right
abbrev uF:=@Nat.mul_add
abbrev uG:=@List.length_take
abbrev uH:=@Nat.mod_lt
abbrev uJ:=@Nat.eq_zero_or_pos
abbrev uK:=@Nat.zero_add
abbrev uL:=@List.mem_append
abbrev uM:=@Nat.add_zero
abbrev uN:=@Nat.pow_pos
abbrev uO:=@List.getElem_mem
abbrev uP:=@Nat.div_eq_of_lt
abbrev uQ:=@Nat.gcd_comm
abbrev uR:=@Nat.mul_le_mul_left
abbrev uS:=@List.length_drop
abbrev uT:=@Nat.min_eq_left
abbrev uU:=@Nat.mod_eq_of_lt
abbrev uV:=@Nat.add_assoc
abbrev uW:=@List.getElem?_drop
abbrev uX:=@List.getElem?_eq_none
abbrev uY:=@Nat.one_mul
abbrev uZ:=@List.getElem?_append_left
abbrev gA:=@List.mem_of_mem_take
abbrev gB:=@List.getElem?_take
abbrev gC:=@Nat.div_add_mod
abbrev gD:=@Nat.zero_mul
abbrev gE:=@List.ext_getElem
abbrev gF:=@List.getElem?_append_right
abbrev gG:=@Nat.add_sub_cancel
abbrev gH:=@Nat.add_mul_div_left
abbrev gI:=@Nat.mul_one
abbrev gJ:=@Nat.mul_le_mul
abbrev gK:=@Nat.div_lt_of_lt_mul
abbrev gL:=@Nat.add_comm
abbrev gM:=@Nat.mul_add_div
abbrev gN:=@Nat.sub_add_cancel
abbrev gO:=@Nat.mod_one
abbrev gP:=@List.mem_of_mem_drop
abbrev gQ:=@List.getElem?_set
abbrev gR:=@Nat.pow_succ'
abbrev gS:=@Nat.le_total
abbrev gT:=@Nat.add_mul_mod_self_left
abbrev gU:=@List.take_append_drop
abbrev gV:=@Nat.add_sub_cancel'
abbrev gW:=@Nat.mul_div_cancel_left
abbrev gX:=@Nat.lt_trichotomy
abbrev gY:=@Nat.coprime_comm
abbrev gZ:=@Nat.gcd_dvd_right
abbrev xA:=@Nat.shiftLeft_eq
abbrev xB:=@Nat.div_lt_iff_lt_mul
abbrev xC:=@Nat.mod_mul_right_mod
abbrev xD:=@Nat.mul_add_mod
abbrev xE:=@Nat.Coprime.gcd_mul_left_cancel_right
theorem eN{P:Prop}(h:P:=by simp):P:=h
theorem rY{P:Prop}(h:P:=by decide):P:=h
theorem sB{P:Prop}(h:P:=by simp;omega):P:=h
namespace Lb
variable {l m:List Nat}{a b i j k n v x:Nat}
def BB:Nat:=4294967296
def sm(f:Nat->Nat):Nat->Nat
 |0=>0
 |n+1=>sm f n+f n*BB^n
def lm(l:List Nat)(i:Nat):Nat:=l[i]?.getD 0
def val(l:List Nat):Nat:=sm (lm l) l.length
def Lt(l:List Nat):Prop:=∀x∈l,x<BB
def Tr(l:List Nat):Prop:=∀h:l≠ [],l.getLast h≠0
theorem qA:0<BB:=rY
theorem zUa:BB=4294967296:=rfl
theorem zB3(n:Nat):0<BB^n:=uN qA
theorem zAB{f g:Nat->Nat}:∀{n:Nat},(∀i,i<n->f i=g i)->sm f n=sm g n
 |0,_=>rfl
 |n+1,h=>by simp only[sm];rw[zAB (fun i hi=>h i oA),h n oA]
theorem zH9{f:Nat->Nat}:∀{n:Nat},(∀i,i<n->f i<BB)->sm f n<BB^n
 |0,_=>by simp[sm]
 | n+1,h=>by
  have h1:=zH9 (fun i (hi:i<n)=>h i oA)
  have I:=h n oA
  have h3:f n*BB^n+BB^n<=BB*BB^n:=by
   have:(f n+1)*BB^n<=BB*BB^n:=uE _ I
   rw[vU,uY]at this;exact this
  simp only[sm];rw[vY,vT (BB^n)];omega
theorem zCR{f:Nat->Nat}{n:Nat}:∀{m:Nat},n<=m->(∀i,n<=i->i<m->f i=0)->sm f m=sm f n
 |0,h,_=>by
  have:n=0:=oA
  subst this;rfl
 |m+1,h,hz=>by
  by_cases e:n=m+1
  .subst e;rfl
  .simp only[sm];rw[zCR oA (fun i I h2=>hz i I oA),hz m oA oA];omega
theorem zH8{f:Nat->Nat}{n:Nat}:∀{m:Nat},n<=m->sm f n<=sm f m
 |0,h=>by
  have:n=0:=oA
  subst this;exact vR _
 |m+1,h=>by
  by_cases e:n=m+1
  .subst e;exact vR _
  .have:=zH8 (f:=f) (show n<=m from oA);simp only[sm];omega
theorem zGu(h:i<l.length):lm l i=l[i]:=by simp[lm,h]
theorem zDk(h:l.length<=i):lm l i=0:=by simp[lm,h]
theorem qK(h:Lt l)(i:Nat):lm l i<BB:=by
 by_cases hi:i<l.length
 .rw[zGu hi];exact h _ (uO hi)
 .rw[zDk oA];exact qA
theorem zAY(h:l.length<=n):sm (lm l) n=val l:=zCR h (fun _ I _=>zDk I)
theorem qO(h:Lt l):val l<BB^l.length:=zH9 fun i _=>qK h i
@[simp] theorem zSN:val []=0:=rfl
theorem zLS:lm (l++ [x]) i=if i=l.length then x else lm l i:=by
 unfold lm
 by_cases h:i<l.length
 .rw[uZ h,if_neg oA]
 .rw[gF oA]
  by_cases e:i=l.length
  .subst e;simp
  .rw[if_neg e,uX sB,uX oA]
theorem zAz(l:List Nat)(x:Nat):val (l++ [x])=val l+x*BB^l.length:=by
 unfold val
 rw[uD]
 show sm (lm (l++ [x])) l.length+lm (l++ [x]) l.length*BB^l.length=_
 rw[zLS,if_pos rfl,zAB (g:=lm l) (fun i hi=>by rw[zLS,if_neg oA])]
theorem zBk(h:Lt l)(hx:x<BB):Lt (l++ [x]):=by
 intro y I
 rcases uL.1 I with I|I
 .exact h y I
 .simp at I;omega
theorem zCc:Lt []:=by intro x h;cases h
theorem zBC(h:Lt l)(n:Nat):Lt (l.take n):=fun x I=>h x (gA I)
theorem zGM(h:Lt l)(n:Nat):Lt (l.drop n):=fun x I=>h x (gP I)
theorem zHW(h:Lt l)(k:Lt m):Lt (l++m):=fun x I=>(uL.1 I).elim (h x) (k x)
theorem jU(n:Nat):Lt (List.replicate n 0):=fun x h=>by rw[List.eq_of_mem_replicate h];exact qA
theorem zE4(i:Nat):lm (l++m) (l.length+i)=lm m i:=by
 unfold lm;rw[gF oA];simp
theorem zFp(h:i<l.length):lm (l++m) i=lm l i:=by
 unfold lm;rw[uZ h]
theorem zIV(f:Nat->Nat)(n:Nat):∀m,sm f (n+m)=sm f n+BB^n*sm (fun i=>f (n+i)) m
 |0=>by simp[sm]
 |m+1=>by
  show sm f (n+m)+f (n+m)*BB^(n+m)=_
  rw[zIV f n m];simp only[sm];rw[uF,uA,uV];congr 2
  rw[<-vV,vT (f (n+m)),vV,vT (f (n+m))]
theorem zCz(l m:List Nat):val (l++m)=val l+BB^l.length*val m:=by
 unfold val
 rw[uD,zIV]
 rw[zAB (g:=lm l) (fun i h=>zFp h),zAB (f:=fun i=>lm (l++m) (l.length+i)) (g:=lm m) (fun i _=>zE4 i)]
theorem jV(l:List Nat)(n:Nat)(h:n<=l.length):val l=val (l.take n)+BB^n*val (l.drop n):=by
 have:=zCz (l.take n) (l.drop n)
 rw[gU,uG,uT h]at this
 exact this
theorem zIp(h:i<n):lm (l.take n) i=lm l i:=by
 unfold lm;rw[gB,if_pos h]
theorem zF0(h:n<=l.length):val (l.take n)=sm (lm l) n:=by
 unfold val;rw[uG,uT h];exact zAB fun i I=>zIp I
theorem zC2:lm (l.drop n) i=lm l (n+i):=by
 unfold lm;rw[uW]
theorem jJ(h:n<=l.length)(hz:∀i,n<=i->i<l.length->lm l i=0):val (l.take n)=val l:=by
 rw[zF0 h];exact(zCR h hz).symm
theorem zAl(n:Nat):val (List.replicate n 0)=0:=by
 unfold val
 rw[zCR (n:=0) (vS _)]
 .rfl
 .intro i _ h;rw[zGu h];simp
theorem zJT:Tr l↔(l=[]∨lm l (l.length-1)≠0):=by
 unfold Tr
 by_cases h:l=[]
 .subst h;simp
 .have hl:0<l.length:=List.length_pos_iff.2 h
  rw[zGu oA]
  constructor
  .intro I;right;rw[<-List.getLast_eq_getElem h];exact I h
  .intro I J;rw[List.getLast_eq_getElem J];exact I.resolve_left h
theorem zPA(h:j<l.length):val (l.set j v)+lm l j*BB^j=val l+v*BB^j:=by
 have J:∀n,n<=l.length->sm (lm (l.set j v)) n+(if j<n then lm l j*BB^j else 0)=sm (lm l) n+(if j<n then v*BB^j else 0):=by
  intro n
  induction n with
  |zero=>intro _;simp[sm]
  | succ n ih=>
   intro hn
   have:=ih oA
   simp only[sm]
   have I:lm (l.set j v) n=if j=n then v else lm l n:=by
    unfold lm
    rw[gQ]
    by_cases e:j=n
    .subst e;simp[h]
    .simp[e]
   rw[I]
   by_cases e:j=n
   .subst e;simp at this ⊢;omega
   .by_cases g:j<n
    .rw[if_pos g]at this;rw[if_neg e,if_pos oA];rw[if_pos g]at this;rw[if_pos oA];omega
    .rw[if_neg g]at this;rw[if_neg e,if_neg oA];rw[if_neg g]at this;rw[if_neg oA];omega
 have:=J l.length (vR _)
 rw[if_pos h,if_pos h]at this
 unfold val;rw[uC];exact this
theorem zCw(h:Lt l){j v:Nat}(hv:v<BB):Lt (l.set j v):=by
 intro x J
 rcases List.mem_or_eq_of_mem_set J with I|I
 .exact h x I
 .omega
theorem zAK(h:j<l.length):lm (l.set j v) i=if j=i then v else lm l i:=by
 unfold lm
 rw[gQ]
 by_cases e:j=i
 .subst e;simp[h]
 .simp[e]
theorem zGS(J:Tr l)(I:l≠ []):BB^(l.length-1)<=val l:=by
 have hl:0<l.length:=List.length_pos_iff.2 I
 rcases zJT.1 J with h|h
 .exact absurd h I
 .unfold val
  obtain⟨k,hk⟩:∃k,l.length=k+1:=⟨l.length-1,oA⟩
  rw[hk]at h ⊢
  simp only[sm,gG]at h ⊢
  have:1*BB^k<=lm l k*BB^k:=uE _ oA
  omega
theorem zM4(I:Tr l)(h:val l=0):l=[]:=by
 by_cases hn:l=[]
 .exact hn
 .have:=zGS I hn;have:=zB3 (l.length-1);omega
theorem zEy(I:Tr l):val l=0↔l=[]:=⟨zM4 I,fun h=>by subst h;rfl⟩
theorem zBh(I:Tr l){k:Nat}(h:val l<BB^k):l.length<=k:=by
 by_cases hn:l=[]
 .subst hn;simp
 .have h1:=zGS I hn
  have J:BB^(l.length-1)<BB^k:=oA
  have:=(Nat.pow_lt_pow_iff_right (show 1<BB from rY)).1 J
  omega
theorem zOX{f g:Nat->Nat}:∀{n:Nat},(∀i,i<n->f i<BB)->(∀i,i<n->g i<BB)->sm f n=sm g n->∀i,i<n->f i=g i
 |0,_,_,_,i,I=>absurd I oA
 | n+1,hf,hg,h,i,I=>by
  have h1:=zH9 (f:=f) (n:=n) (fun i I=>hf i oA)
  have h2:=zH9 (f:=g) (n:=n) (fun i I=>hg i oA)
  simp only[sm]at h
  have hp:=zB3 n
  have O:(sm f n+f n*BB^n)/BB^n=f n:=by
   rw[vT,gH _ _ hp,uP h1];omega
  have e2:(sm g n+g n*BB^n)/BB^n=g n:=by
   rw[vT,gH _ _ hp,uP h2];omega
  have J:f n=g n:=by rw[<-O,<-e2,h]
  by_cases e:i=n
  .subst e;exact J
  .rw[J]at h
   exact zOX (n:=n) (fun i I=>hf i oA) (fun i I=>hg i oA) oA i oA
theorem zPB(O:Lt l)(J:Lt m)(tl:Tr l)(tm:Tr m)(h:val l=val m):l=m:=by
 have len:l.length=m.length:=by
  have a:l.length<=m.length:=zBh tl (by rw[h];exact qO J)
  have b:m.length<=l.length:=zBh tm (by rw[<-h];exact qO O)
  omega
 apply gE len
 intro i I h2
 have:=zOX (f:=lm l) (g:=lm m) (n:=l.length) (fun i _=>qK O i) (fun i _=>qK J i) (by unfold val at h;rw[<-len]at h;exact h) i I
 rw[zGu I,zGu h2]at this;exact this
theorem zPO{f g:Nat->Nat}(O:k<n)(hf:∀i,i<n->f i<BB)(J:∀i,k<i->i<n->f i=g i)(h:f k<g k):sm f n<sm g n:=by
 have I:∀m,k<m->m<=n->sm f m<sm g m:=by
  intro m
  induction m with
  |zero=>intro h;omega
  | succ m ih=>
   intro h1 h2
   simp only[sm]
   by_cases e:k=m
   .subst e
    have a:=zH9 (f:=f) (n:=k) (fun i hi=>hf i oA)
    have b:(f k+1)*BB^k<=g k*BB^k:=uE _ h
    rw[vU]at b;omega
   .have:=ih oA oA
    rw[J m oA oA];omega
 exact I n O (vR _)
theorem zH0(h:val l<BB^n):sm (lm l) n=val l:=by
 by_cases hl:l.length<=n
 .exact zAY hl
 .have e:val l=sm (lm l) n+BB^n*sm (fun i=>lm l (n+i)) (l.length-n):=by
   rw[<-zIV,gV oA];rfl
  rcases uJ (sm (fun i=>lm l (n+i)) (l.length-n))with I|I
  .rw[I]at e;omega
  .have:BB^n*1<=BB^n*sm (fun i=>lm l (n+i)) (l.length-n):=uR _ I
   omega
theorem zBm(h:k<l.length):val (l.drop k)=lm l k+BB*val (l.drop (k+1)):=by
 rw[List.drop_eq_getElem_cons h,<-List.singleton_append,zCz,zGu h]
 simp[val,sm,lm]
theorem zH1(h:Lt l)(k:Nat):val (l.drop k)<BB^(l.length-k):=by
 have:=qO (zGM h k)
 rwa [uS]at this
theorem zF2{lo P y z u I:Nat}(heq:a+u*P=lo+b)(J:x+I*4294967296=z+y+u):a+x*P+I*(P*4294967296)=lo+z*P+(b+y*P):=by
 have h:=vX (·*P) J
 simp only[vU]at h
 have e:I*(P*4294967296)=I*4294967296*P:=by rw[vT P,vV]
 omega
theorem zBQ(l:List Nat)(n:Nat)(h:n<=l.length)(hz:∀i,n<=i->i<l.length->lm l i=0)(I:n=0∨lm l (n-1)≠0):Tr (l.take n):=by
 rw[zJT]
 by_cases e:n=0
 .subst e;simp
 .right
  rw[uG,uT h,zIp oA]
  exact I.resolve_left e
structure Is(l:List Nat)(n:Nat):Prop where
 lt:Lt l
 tr:Tr l
 val:val l=n
theorem Is.inj(h:Is l n)(k:Is m n):l=m:=zPB h.lt k.lt h.tr k.tr (h.val.trans k.val.symm)
theorem Is.nil:Is [] 0:=⟨zCc,by intro h;exact absurd rfl h,rfl⟩
theorem Is.len(h:Is l n)(I:n<BB^k):l.length<=k:=zBh h.tr (by rw[h.val];exact I)
theorem Is.zero_iff(h:Is l n):n=0↔l.length=0:=by
 rw[<-h.val,zEy h.tr,List.length_eq_zero_iff]
theorem Is.pos_iff(h:Is l n):0<n↔0<l.length:=by
 have:=h.zero_iff;omega
theorem Is.lt_pow(h:Is l n):n<BB^l.length:=by rw[<-h.val];exact qO h.lt
def TZ(x k:Nat):Prop:=∃m,x=2^k*(2*m+1)
theorem TZ.pos(h:TZ x k):0<x:=by
 obtain⟨m,rfl⟩:=h
 exact Nat.mul_pos (uN oA) oA
theorem wY(h:x%2=1):TZ x 0:=⟨x/2,oA⟩
theorem TZ.double(h:TZ x k):TZ (2*x) (k+1):=by
 obtain⟨m,rfl⟩:=h
 exact⟨m,by rw[vY,vT (2^k) 2,vV]⟩
theorem TZ.half(h:TZ (x/2) k)(h2:x%2=0):TZ x (k+1):=by
 have:=h.double
 rwa [show 2*(x/2)=x from oA]at this
theorem vJ:∀x:Nat,0<x->∃k,TZ x k:=by
 intro x
 induction x using Nat.strongRecOn with
 | _ x ih=>
  intro h
  by_cases e:x%2=0
  .obtain⟨k,I⟩:=ih (x/2) oA oA
   exact⟨k+1,I.half e⟩
  .exact⟨0,wY oA⟩
theorem TZ.part(h:TZ x k):x=2^k*(x/2^k)/\(x/2^k)%2=1:=by
 obtain⟨m,rfl⟩:=h
 rw[gW _ (uN oA)]
 exact⟨rfl,oA⟩
theorem TZ.scale(i:Nat)(h:TZ x k):TZ (2^i*x) (i+k):=by
 obtain⟨m,rfl⟩:=h
 exact⟨m,by rw[uA,vV]⟩
theorem TZ.mod(h:TZ x k)(i:Nat)(hi:i<k):x/2^i%2=0:=by
 obtain⟨m,rfl⟩:=h
 rw[show 2^k=2^i*(2*2^(k-i-1))from by rw[<-gR,<-uA];congr 1;omega,vV,gW _ (uN oA),vV]
 omega
theorem TZ.unique(h:TZ x i)(I:TZ x j):i=j:=by
 rcases gX i j with e|e|e
 .have:=I.mod i e;have:=h.part.2;omega
 .exact e
 .have:=h.mod j e;have:=I.part.2;omega
theorem zOc(ha:a%2=1)(hb:b%2=1):Nat.gcd (2^i*a) (2^j*b)=2^min i j*Nat.gcd a b:=by
 have I:∀x d:Nat,x%2=1->Nat.Coprime x (2^d):=fun x d h=>by
  refine Nat.Coprime.pow_right d ?_
  rw[gY]
  have J:Nat.gcd 2 x∣2:=Nat.gcd_dvd_left 2 x
  have O:Nat.gcd 2 x∣x:=gZ 2 x
  have h3:Nat.gcd 2 x<=2:=Nat.le_of_dvd oA J
  have h4:Nat.gcd 2 x≠2:=fun e=>by rw[e]at O;omega
  have h5:0<Nat.gcd 2 x:=Nat.pos_of_dvd_of_pos J oA
  show Nat.gcd 2 x=1
  omega
 rcases gS i j with h|h
 .rw[uT h,show 2^j=2^i*2^(j-i)from by rw[<-uA];congr 1;omega,vV,Nat.gcd_mul_left,xE b (gY.1 (I a _ ha))]
 .rw[Nat.min_eq_right h,show 2^i=2^j*2^(i-j)from by rw[<-uA];congr 1;omega,vV,Nat.gcd_mul_left,uQ,xE a (gY.1 (I b _ hb)),uQ]
theorem TZ.gcd(h:TZ a i)(O:TZ b j):Nat.gcd a b=2^min i j*Nat.gcd (a/2^i) (b/2^j):=by
 have I:=h.part;have J:=O.part
 rw[<-zOc I.2 J.2,<-I.1,<-J.1]
theorem vE(h:a%2=1)(I:TZ b j):Nat.gcd a (b/2^j)=Nat.gcd a b:=by
 have:=(wY h).gcd I
 simp at this
 exact this.symm
theorem zGC(h:b<=a):Nat.gcd (a-b) b=Nat.gcd a b:=by
 rw[show Nat.gcd a b=Nat.gcd ((a-b)+b) b from by rw[gN h]]
 simp
theorem TZ.or(h:TZ a i)(h':TZ b j):TZ (a|||b) (min i j):=by
 have e1:=h.part;have e2:=h'.part
 have O:∀x y d:Nat,x%2=1->TZ (x|||(2^d*y)) 0:=fun x y d hx=>by
  refine wY ?_
  have:(x|||2^d*y)%2=x%2|||(2^d*y)%2:=Nat.or_mod_two_pow (n:=1)
  rw[this,hx]
  have:(2^d*y)%2<2:=uH _ oA
  rcases(oA:(2^d*y)%2=0∨(2^d*y)%2=1)with e|e<;>rw[e]<;>rfl
 have J:∀x y n:Nat,2^n*x|||2^n*y=2^n*(x|||y):=fun x y n=>by
  rw[vT _ x,vT _ y,vT _ (x|||y),<-xA,<-xA,<-xA,Nat.shiftLeft_or_distrib]
 rcases gS i j with I|I
 .rw[uT I]
  have:=(O (a/2^i) (b/2^j) (j-i) e1.2).scale i
  rw[<-J,<-vV,<-uA,gV I,<-e1.1,<-e2.1]at this
  simpa using this
 .rw[Nat.min_eq_right I]
  have:=(O (b/2^j) (a/2^i) (i-j) e2.2).scale j
  rw[<-J,<-vV,<-uA,gV I,<-e1.1,<-e2.1,Nat.or_comm]at this
  simpa using this
def sg(s:Bool)(x:Nat):Int:=if s then -(x:Int)else x
end Lb

namespace Go.Proofs.Wd
open Lb
variable {N N' P Q T V lo old over q s sb sn so x z:Nat}
theorem zLV{t O J I:Nat}(h:so+(over+O)*P=sn+t*sb)(h0:x*t+over=lo+J*4294967296)(hz:old+I*4294967296=z+lo+O):
  so+old*P+(J+I)*(P*4294967296)=sn+z*P+t*(sb+x*P):=by
 have e1:old*P+I*4294967296*P=z*P+lo*P+O*P:=by rw[<-vU,hz,vU,vU]
 have e2:x*t*P+over*P=lo*P+J*4294967296*P:=by rw[<-vU,h0,vU]
 have e3:(J+I)*(P*4294967296)=J*4294967296*P+I*4294967296*P:=by
  rw[vU,vT P,<-vV,<-vV]
 have e4:t*(sb+x*P)=t*sb+x*t*P:=by rw[uF,<-vV,vT t x]
 have e5:(over+O)*P=over*P+O*P:=vU _ _ _
 rw[e3,e4]
 rw[e5]at h
 omega
theorem zLN{I:Nat}(h:sn+over*P=so+sb)(hz:over+x+old=z+I*4294967296):
  sn+z*P+I*(P*4294967296)=so+old*P+(sb+x*P):=by
 have e1:over*P+x*P+old*P=z*P+I*4294967296*P:=by rw[<-vU,<-vU,hz,vU]
 have J:I*(P*4294967296)=I*4294967296*P:=by rw[vT P,<-vV]
 rw[J]
 omega
theorem zLU(x t over old h:Nat)(hx:x<4294967296)(ht:t<4294967296)(ho:over<4294967296)(hold:old<4294967296)(hu:h<=1):
  ∃p s lo over' z under':Nat,x*t=p/\p<18446744073709551616/\p+over=s/\s<18446744073709551616/\s%4294967296=lo/\s/4294967296=over'/\over'<4294967296/\lo<4294967296/\
   (((old:Int)-(lo:Int)-(h:Int))%18446744073709551616)%4294967296=(z:Int)/\(((old:Int)-(lo:Int)-(h:Int))%18446744073709551616)/9223372036854775808=(under':Int)/\z<4294967296/\under'<=1/\
   x*t+over=lo+over'*4294967296/\old+under'*4294967296=z+lo+h/\(x=0->over'=0):=by
 have h1:x*t<=4294967295*4294967295:=gJ oA oA
 refine⟨x*t,x*t+over,(x*t+over)%4294967296,(x*t+over)/4294967296,?_,if old<(x*t+over)%4294967296+h then 1 else 0,rfl,oA,rfl,oA,rfl,rfl,oA,oA,?_⟩
 case refine_1=>exact(((old:Int)-((x*t+over)%4294967296:Nat)-(h:Int))%18446744073709551616%4294967296).toNat
 have hl:(x*t+over)%4294967296<4294967296:=oA
 have I:x=0->(x*t+over)/4294967296=0:=fun e=>by subst e;omega
 refine⟨oA,?_,oA,by split<;>omega,oA,?_,I⟩
 .split<;>omega
 .split<;>omega
theorem zLM(over x old:Nat)(ho:over<=1)(hx:x<4294967296)(hold:old<4294967296):
  ∃s z over':Nat,over+x+old=s/\s<18446744073709551616/\(s:Int)%4294967296=(z:Int)/\(s:Int)/4294967296=(over':Int)/\z<4294967296/\over'<=1/\over+x+old=z+over'*4294967296:=
 ⟨over+x+old,(over+x+old)%4294967296,(over+x+old)/4294967296,rfl,oA,oA,oA,oA,oA,oA⟩
theorem zFQ(hg:P/V<=q)(O:0<V)(h:P+0*T=N+q*V):q=P/V/\N=P%V:=by
 have I:q*V<=P:=oA
 have h2:q<=P/V:=(Nat.le_div_iff_mul_le O).2 I
 have J:q=P/V:=oA
 subst J
 refine⟨rfl,?_⟩
 have:=gC P V
 rw[vT]at this
 omega
theorem zKt(J:0<V)(hN:N<T)(h:P+T=N+q*V):P/V<q/\0<q:=by
 have I:P<q*V:=oA
 exact⟨(xB J).2 I,by
  rcases uJ q with e|e
  .subst e;rw[gD]at I;omega
  .exact e⟩
theorem zKu(hq:0<q)(h:P+T=N+q*V)(hm:N'+0*T=N+V):P+T=N'+(q-1)*V:=by
 obtain⟨k,rfl⟩:∃k,q=k+1:=⟨q-1,oA⟩
 rw[vU,uY]at h
 rw[gG]
 omega
theorem zKv(J:0<V)(I:P/V<q)(h:P+T=N+q*V)(hm:N'+1*T=N+V):q-1=P/V/\N'=P%V:=by
 obtain⟨k,rfl⟩:∃k,q=k+1:=⟨q-1,(gN (Nat.one_le_of_lt I)).symm⟩
 rw[vU,uY]at h
 rw[gG]
 exact zFQ (T:=T) (Nat.lt_succ_iff.1 I) J oA
theorem zKq{top h:Nat}(I:0<h)(hP:P<(top+1)*Q)(O:h*Q<=V):P/V<=top/h:=by
 rcases uJ Q with e|hQ
 .subst e;omega
 rw[Nat.le_div_iff_mul_le I]
 have h1:P/V*(h*Q)<=P/V*V:=uR _ O
 have h2:P/V*V<=P:=Nat.div_mul_le_self _ _
 have J:P/V*h*Q<(top+1)*Q:=by rw[vV];omega
 have h4:P/V*h<top+1:=Nat.lt_of_mul_lt_mul_right J
 omega
theorem zMc(h:P<V*4294967296):P/V<=4294967295:=by
 have:P/V<4294967296:=gK h
 omega
theorem zHy{R A:Nat}(h:A=V*Q+R):x+BB*A=V*((x+BB*R)/V+BB*Q)+(x+BB*R)%V:=by
 have:=gC (x+BB*R) V
 rw[h,uF V,<-vV V BB Q,vT V BB,uF BB,<-vV]
 omega
theorem zPE{low n I:Nat}(h:lo+low*P=s*so)(hz:n*s+low=z+I*4294967296):lo+z*P+I*(P*4294967296)=s*(so+n*P):=by
 have e1:n*s*P+low*P=z*P+I*4294967296*P:=by rw[<-vU,hz,vU]
 have J:s*(so+n*P)=s*so+n*s*P:=by rw[uF,<-vV,vT s n]
 have O:I*(P*4294967296)=I*4294967296*P:=by rw[vT P,<-vV]
 rw[J,O]
 omega
theorem zMt{y f c sf:Nat}(h:so+x%s*P=s*sf+c)(hf:s*f=(x-x%s)+4294967296*y):so+x*P+y*(P*4294967296)=s*(sf+f*P)+c:=by
 have I:s*(sf+f*P)=s*sf+(x-x%s)*P+4294967296*y*P:=by rw[uF,<-vV,hf,vU,uV]
 have J:x*P=(x-x%s)*P+x%s*P:=by rw[<-vU,gN (Nat.mod_le _ _)]
 have O:y*(P*4294967296)=4294967296*y*P:=by rw[vT P,<-vV,vT y]
 rw[I,J,O]
 omega
end Go.Proofs.Wd

namespace Lb
variable {l:List Nat}{a b i q r:Nat}
theorem zPi(h:Lt l)(j:Nat):lm l j=val l/BB^j%BB:=by
 by_cases hj:j<l.length
 .have e:=jV l j oA
  have I:=qO (zBC h j)
  rw[uG,uT oA]at I
  rw[e,gH _ _ (zB3 j),uP I,uK,zBm hj,gT,uU (qK h j)]
 .rw[zDk oA,uP (vW (qO h) (vZ qA oA))]
  rfl
theorem zFW(j:Nat):BB^j=2^(32*j):=by
 rw[Nat.pow_mul];rfl
theorem zET(i:Nat):2^i=BB^(i/32)*2^(i%32):=by
 rw[zFW,<-uA];congr 1;omega
theorem zLz(t:Nat)(h:t<=32):2^t*2^(32-t)=BB:=by
 rw[<-uA,show t+(32-t)=32 from oA];rfl
theorem zQ7(h:Lt l)(i:Nat):lm l (i/32)/2^(i%32)%2=val l/2^i%2:=by
 rw[zPi h,zET i,<-Nat.div_div_eq_div_mul]
 generalize val l/BB^(i/32)=x
 have ht:i%32<32:=uH _ oA
 generalize i%32=t at*
 have e:BB=2^t*(2*2^(31-t)):=by
  rw[<-zLz t oA,show 32-t=(31-t)+1 from oA,gR]
 rw[e,Nat.mod_mul_right_div_self,xC]
theorem zN3(h:Lt l)(i:Nat)(hz:val l%2^(i+1)=0):lm l (i/32)%2^(i%32+1)=0:=by
 rw[zPi h]
 have ht:i%32<32:=uH _ oA
 have J:2^(i+1)=BB^(i/32)*2^(i%32+1):=by rw[vY,zET i,vY,vV]
 rw[J]at hz
 obtain⟨c,I⟩:=Nat.dvd_of_mod_eq_zero hz
 rw[I,vV,gW _ (zB3 _)]
 generalize i%32=t at*
 have e:BB=2^(t+1)*2^(31-t):=by
  rw[<-uA,show t+1+(31-t)=32 from oA];rfl
 rw[e,xC,Nat.mul_mod_right]
structure DivAt(a b i q r:Nat):Prop where
 sum:a=q*b+r*2^i+a%2^i
 less:r<b
 low:q%2^i=0
theorem DivAt.next(h:DivAt a b (i+1) q r):
  let r':=2*r+a/2^i%2
  (r'<b->DivAt a b i q r')/\(b<=r'->DivAt a b i (q+2^i) (r'-b)):=by
 obtain⟨O,h2,h3⟩:=h
 have e:a%2^(i+1)=a/2^i%2*2^i+a%2^i:=by
  rw[vY,Nat.mod_mul,gL,vT]
 have J:q%2^i=0:=by
  have:=xC q (2^i) 2
  rw[<-vY,h3]at this
  simpa using this.symm
 rw[e,vY]at O
 have hc:a/2^i%2<2:=uH _ oA
 generalize a/2^i%2=c at*
 have e2:(2*r+c)*2^i=r*(2^i*2)+c*2^i:=by
  rw[vU,vT 2 r,vV,vT 2]
 refine⟨fun I=>⟨oA,I,J⟩,fun hge=>⟨?_,oA,by rw[Nat.add_mod,J];simp⟩⟩
 have e3:(q+2^i)*b+(2*r+c-b)*2^i=q*b+(2*r+c)*2^i:=by
  rw[vU,vT (2^i) b,uV,<-vU]
  congr 2
  omega
 omega
theorem DivAt.done(h:DivAt a b 0 q r):q=a/b/\r=a%b:=by
 obtain⟨I,J,-⟩:=h
 rw[Nat.pow_zero,gI,gO,uM]at I
 have O:0<b:=oA
 constructor
 .rw[I,vT,gM O,uP J];rfl
 .rw[I,vT,xD,uU J]
theorem DivAt.start(h:a/2^i<b):DivAt a b i 0 (a/2^i):=
 ⟨by have:=gC a (2^i);rw[vT]at this;omega,h,eN⟩
end Lb
