/- Natural numbers by limbs: values of lists of limbs, trimmed lists, sum and what it needs. -/

theorem oA {P:Prop} (h:P:=by omega):P:=h
abbrev vT:=@Nat.mul_comm
abbrev vU:=@Nat.mul_assoc
abbrev vV:=@Nat.add_mul
abbrev vW:=@Nat.pow_add
abbrev vX:=@Nat.pow_succ
abbrev vY:=@Nat.mul_add
abbrev vZ:=@Nat.min_eq_left
abbrev uA:=@Nat.div_eq_of_lt
abbrev uC:=@Nat.mod_lt
abbrev uD:=@decide_eq_true
abbrev uE:=@decide_eq_false
abbrev uF:=@Nat.pow_pos
abbrev uG:=@Nat.le_refl
abbrev uH:=@List.length_take
abbrev uJ:=@Nat.div_add_mod
abbrev uK:=@Bool.false_eq_true
abbrev uL:=@Int.neg_mul
abbrev uM:=@Nat.mul_le_mul_right
abbrev uN:=@Nat.add_assoc
abbrev uO:=@Nat.add_sub_cancel
abbrev uP:=@Nat.add_mul_div_left
abbrev uQ:=@Nat.add_sub_cancel'
abbrev uR:=@Nat.eq_zero_or_pos
abbrev uS:=@Nat.mul_div_cancel_left
abbrev uT:=@Nat.coprime_comm
abbrev uU:=@Nat.sub_add_cancel
abbrev uV:=@Nat.shiftLeft_eq
abbrev uW:=@Int.natCast_add
abbrev uX:=@Nat.mod_mul_right_mod
abbrev uY:=@List.getElem?_append_left
abbrev uZ:=@List.getElem?_append_right
abbrev gA:=@Nat.Coprime.gcd_mul_left_cancel_right
abbrev gB:=@Decidable.byContradiction
namespace Lb
def BB:Nat:=4294967296
def sm (f:Nat->Nat):Nat->Nat
 |0=>0
 |n+1=>sm f n+f n*BB^n
def lm (l:List Nat) (i:Nat):Nat:=l[i]?.getD 0
def val (l:List Nat):Nat:=sm (lm l) l.length
def Lt (l:List Nat):Prop:= ∀x∈l,x<BB
def Tr (l:List Nat):Prop:= ∀h:l≠ [],l.getLast h≠0
theorem y4:0<BB:=by decide
theorem zU8:BB=4294967296:=rfl
theorem zB1 (n:Nat):0<BB^n:=uF y4
theorem zAJ {f g:Nat->Nat}: ∀{n:Nat},(∀i,i<n->f i=g i)->sm f n=sm g n
 |0,_=>rfl
 |n+1,h=>by simp only [sm];rw [zAJ (fun i hi=>h i oA),h n oA]
theorem zIg {f:Nat->Nat}: ∀{n:Nat},(∀i,i<n->f i<BB)->sm f n<BB^n
 |0,_=>by simp [sm]
 | n+1,h=>by
  have h1:=zIg (fun i (hi:i<n)=>h i oA)
  have h2:=h n oA
  have h3:f n*BB^n+BB^n<=BB*BB^n:=by
   have:(f n+1)*BB^n<=BB*BB^n:=uM _ h2
   rw [vV,Nat.one_mul] at this;exact this
  simp only [sm];rw [vX,vT (BB^n)];omega
theorem zC2 {f:Nat->Nat} {n:Nat}: ∀{m:Nat},n<=m->(∀i,n<=i->i<m->f i=0)->sm f m=sm f n
  | 0, h, _ => by have:n=0:=by omega
                  subst this;rfl
  | m+1,h,hz=>by
    by_cases e:n=m+1
    . subst e;rfl
    . simp only [sm];rw [zC2 oA (fun i h1 h2=>hz i h1 oA),hz m oA oA];omega
theorem zIf {f:Nat->Nat} {n:Nat}: ∀{m:Nat},n<=m->sm f n<=sm f m
  | 0, h => by have:n=0:=by omega
               subst this;exact uG _
  | m+1,h=>by
    by_cases e:n=m+1
    . subst e;exact uG _
    . have:=zIf (f:=f) (show n<=m by omega);simp only [sm];omega
theorem zIF {l:List Nat} {i:Nat} (h:i<l.length):lm l i=l[i]:=by simp [lm,h]
theorem zDQ {l:List Nat} {i:Nat} (h:l.length<=i):lm l i=0:=by simp [lm,h]
theorem qM {l:List Nat} (h:Lt l) (i:Nat):lm l i<BB:=by
 by_cases hi:i<l.length
 ·rw [zIF hi];exact h _ (List.getElem_mem hi)
 ·rw [zDQ oA];exact y4
theorem zA5 {l:List Nat} {n:Nat} (h:l.length<=n):sm (lm l) n=val l:=zC2 h (fun _ h1 _=>zDQ h1)
theorem qT {l:List Nat} (h:Lt l):val l<BB^l.length:=zIg fun i _=>qM h i
@[simp] theorem zTX:val []=0:=rfl
theorem zMy {l:List Nat} {x i:Nat}:lm (l++ [x]) i=if i=l.length then x else lm l i:=by
 unfold lm
 by_cases h:i<l.length
 ·rw [uY h,if_neg oA]
 ·rw [uZ oA]
  by_cases e:i=l.length
  ·subst e;simp
  ·rw [if_neg e,List.getElem?_eq_none (by simp;omega),List.getElem?_eq_none oA]
theorem zAH (l:List Nat) (x:Nat):val (l++ [x])=val l+x*BB^l.length:=by
 unfold val
 rw [List.length_append]
 show sm (lm (l++ [x])) l.length+lm (l++ [x]) l.length*BB^l.length=_
 rw [zMy,if_pos rfl,zAJ (g:=lm l) (fun i hi=>by rw [zMy,if_neg oA])]
theorem zBh {l:List Nat} {x:Nat} (h:Lt l) (hx:x<BB):Lt (l++ [x]):=by
 intro y hy
 rcases List.mem_append.1 hy with hy|hy
 ·exact h y hy
 ·simp at hy;omega
theorem zCi:Lt []:=by intro x hx;cases hx
theorem zBF {l:List Nat} (h:Lt l) (n:Nat):Lt (l.take n):=fun x hx=>h x (List.mem_of_mem_take hx)
theorem zGN {l:List Nat} (h:Lt l) (n:Nat):Lt (l.drop n):=fun x hx=>h x (List.mem_of_mem_drop hx)
theorem zH3 {l m:List Nat} (h:Lt l) (k:Lt m):Lt (l++m):=fun x hx=>(List.mem_append.1 hx).elim (h x) (k x)
theorem jX (n:Nat):Lt (List.replicate n 0):=fun x hx=>by rw [List.eq_of_mem_replicate hx];exact y4
theorem zFf {l m:List Nat} (i:Nat):lm (l++m) (l.length+i)=lm m i:=by
 unfold lm;rw [uZ oA];simp
theorem zFz {l m:List Nat} {i:Nat} (h:i<l.length):lm (l++m) i=lm l i:=by
 unfold lm;rw [uY h]
theorem zI8 (f:Nat->Nat) (n:Nat): ∀m,sm f (n+m)=sm f n+BB^n*sm (fun i=>f (n+i)) m
 |0=>by simp [sm]
 |m+1=>by
  show sm f (n+m)+f (n+m)*BB^(n+m)=_
  rw [zI8 f n m];simp only [sm];rw [vY,vW,uN];congr 2
  rw [<-vU,vT (f (n+m)),vU,vT (f (n+m))]
theorem zCM (l m:List Nat):val (l++m)=val l+BB^l.length*val m:=by
 unfold val
 rw [List.length_append,zI8]
 rw [zAJ (g:=lm l) (fun i hi=>zFz hi),zAJ (f:=fun i=>lm (l++m) (l.length+i)) (g:=lm m) (fun i _=>zFf i)]
theorem jY (l:List Nat) (n:Nat) (h:n<=l.length):val l=val (l.take n)+BB^n*val (l.drop n):=by
 have:=zCM (l.take n) (l.drop n)
 rw [List.take_append_drop,uH,vZ h] at this
 exact this
theorem zIE {l:List Nat} {n i:Nat} (h:i<n):lm (l.take n) i=lm l i:=by
 unfold lm;rw [List.getElem?_take,if_pos h]
theorem zF1 {l:List Nat} {n:Nat} (h:n<=l.length):val (l.take n)=sm (lm l) n:=by
 unfold val;rw [uH,vZ h];exact zAJ fun i hi=>zIE hi
theorem zDf {l:List Nat} {n i:Nat}:lm (l.drop n) i=lm l (n+i):=by
 unfold lm;rw [List.getElem?_drop]
theorem jK {l:List Nat} {n:Nat} (h:n<=l.length) (hz: ∀i,n<=i->i<l.length->lm l i=0):val (l.take n)=val l:=by
 rw [zF1 h];exact (zC2 h hz).symm
theorem zAp (n:Nat):val (List.replicate n 0)=0:=by
 unfold val
 rw [zC2 (n:=0) (Nat.zero_le _)]
 ·rfl
 ·intro i _ hi;rw [zIF hi];simp
theorem zKj {l:List Nat}:Tr l↔(l= []∨lm l (l.length - 1)≠0):=by
 unfold Tr
 by_cases h:l= []
 ·subst h;simp
 ·have hl:0<l.length:=List.length_pos_iff.2 h
  rw [zIF oA]
  constructor
  ·intro hh;right;rw [<-List.getLast_eq_getElem h];exact hh h
  ·intro hh h';rw [List.getLast_eq_getElem h'];exact hh.resolve_left h
theorem zQk {l:List Nat} {j v:Nat} (h:j<l.length):val (l.set j v)+lm l j*BB^j=val l+v*BB^j:=by
 have key: ∀n,n<=l.length->sm (lm (l.set j v)) n+(if j<n then lm l j*BB^j else 0)=sm (lm l) n+(if j<n then v*BB^j else 0):=by
  intro n
  induction n with
  |zero=>intro _;simp [sm]
  | succ n ih=>
   intro hn
   have:=ih oA
   simp only [sm]
   have hset:lm (l.set j v) n=if j=n then v else lm l n:=by
    unfold lm
    rw [List.getElem?_set]
    by_cases e:j=n
    ·subst e;simp [h]
    ·simp [e]
   rw [hset]
   by_cases e:j=n
   ·subst e;simp at this ⊢;omega
   ·by_cases g:j<n
    ·rw [if_pos g] at this;rw [if_neg e,if_pos oA];rw [if_pos g] at this;rw [if_pos oA];omega
    ·rw [if_neg g] at this;rw [if_neg e,if_neg oA];rw [if_neg g] at this;rw [if_neg oA];omega
 have:=key l.length (uG _)
 rw [if_pos h,if_pos h] at this
 unfold val;rw [List.length_set];exact this
theorem zCK {l:List Nat} (h:Lt l) {j v:Nat} (hv:v<BB):Lt (l.set j v):=by
 intro x hx
 rcases List.mem_or_eq_of_mem_set hx with h1|h1
 ·exact h x h1
 ·omega
theorem zAU {l:List Nat} {j v i:Nat} (h:j<l.length):lm (l.set j v) i=if j=i then v else lm l i:=by
 unfold lm
 rw [List.getElem?_set]
 by_cases e:j=i
 ·subst e;simp [h]
 ·simp [e]
theorem zGS {l:List Nat} (ht:Tr l) (hn:l≠ []):BB^(l.length - 1)<=val l:=by
 have hl:0<l.length:=List.length_pos_iff.2 hn
 rcases zKj.1 ht with h|h
 ·exact absurd h hn
 ·unfold val
  obtain ⟨k,hk⟩: ∃k,l.length=k+1:=⟨l.length - 1,by omega⟩
  rw [hk] at h ⊢
  simp only [sm,uO] at h ⊢
  have:1*BB^k<=lm l k*BB^k:=uM _ oA
  omega
theorem zNE {l:List Nat} (ht:Tr l) (h:val l=0):l= []:=by
 by_cases hn:l= []
 ·exact hn
 ·have:=zGS ht hn;have:=zB1 (l.length - 1);omega
theorem zES {l:List Nat} (ht:Tr l):val l=0↔l= []:=⟨zNE ht,fun h=>by subst h;rfl⟩
theorem zBg {l:List Nat} (ht:Tr l) {k:Nat} (h:val l<BB^k):l.length<=k:=by
 by_cases hn:l= []
 ·subst hn;simp
 ·have h1:=zGS ht hn
  have h2:BB^(l.length - 1)<BB^k:=by omega
  have:=(Nat.pow_lt_pow_iff_right (show 1<BB by decide)).1 h2
  omega
theorem zPt {f g:Nat->Nat}: ∀{n:Nat},(∀i,i<n->f i<BB)->(∀i,i<n->g i<BB)->sm f n=sm g n-> ∀i,i<n->f i=g i
 |0,_,_,_,i,hi=>absurd hi oA
 | n+1,hf,hg,h,i,hi=>by
  have h1:=zIg (f:=f) (n:=n) (fun i hi=>hf i oA)
  have h2:=zIg (f:=g) (n:=n) (fun i hi=>hg i oA)
  simp only [sm] at h
  have hp:=zB1 n
  have e1:(sm f n+f n*BB^n) / BB^n=f n:=by
   rw [vT,uP _ _ hp,uA h1];omega
  have e2:(sm g n+g n*BB^n) / BB^n=g n:=by
   rw [vT,uP _ _ hp,uA h2];omega
  have e3:f n=g n:=by rw [<-e1, <-e2,h]
  by_cases e:i=n
  ·subst e;exact e3
  ·rw [e3] at h
   exact zPt (n:=n) (fun i hi=>hf i oA) (fun i hi=>hg i oA) oA i oA
theorem zQl {l m:List Nat} (hl:Lt l) (hm:Lt m) (tl:Tr l) (tm:Tr m) (h:val l=val m):l=m:=by
 have len:l.length=m.length:=by
  have a:l.length<=m.length:=zBg tl (by rw [h];exact qT hm)
  have b:m.length<=l.length:=zBg tm (by rw [<-h];exact qT hl)
  omega
 apply List.ext_getElem len
 intro i h1 h2
 have:=zPt (f:=lm l) (g:=lm m) (n:=l.length) (fun i _=>qM hl i) (fun i _=>qM hm i) (by unfold val at h;rw [<-len] at h;exact h) i h1
 rw [zIF h1,zIF h2] at this;exact this
theorem zQu {f g:Nat->Nat} {k n:Nat} (hk:k<n) (hf: ∀i,i<n->f i<BB) (he: ∀i,k<i->i<n->f i=g i) (h:f k<g k):sm f n<sm g n:=by
 have key: ∀m,k<m->m<=n->sm f m<sm g m:=by
  intro m
  induction m with
  |zero=>intro h;omega
  | succ m ih=>
   intro h1 h2
   simp only [sm]
   by_cases e:k=m
   ·subst e
    have a:=zIg (f:=f) (n:=k) (fun i hi=>hf i oA)
    have b:(f k+1)*BB^k<=g k*BB^k:=uM _ h
    rw [vV] at b;omega
   ·have:=ih oA oA
    rw [he m oA oA];omega
 exact key n hk (uG _)
theorem zH9 {l:List Nat} {n:Nat} (h:val l<BB^n):sm (lm l) n=val l:=by
 by_cases hl:l.length<=n
 ·exact zA5 hl
 ·have e:val l=sm (lm l) n+BB^n*sm (fun i=>lm l (n+i)) (l.length - n):=by
   rw [<-zI8,uQ oA];rfl
  rcases uR (sm (fun i=>lm l (n+i)) (l.length - n)) with h0|h0
  ·rw [h0] at e;omega
  ·have:BB^n*1<=BB^n*sm (fun i=>lm l (n+i)) (l.length - n):=Nat.mul_le_mul_left _ h0
   omega
theorem zBm {l:List Nat} {k:Nat} (h:k<l.length):val (l.drop k)=lm l k+BB*val (l.drop (k+1)):=by
 rw [List.drop_eq_getElem_cons h, <-List.singleton_append,zCM,zIF h]
 simp [val,sm,lm]
theorem zIa {l:List Nat} (h:Lt l) (k:Nat):val (l.drop k)<BB^(l.length - k):=by
 have:=qT (zGN h k)
 rwa [List.length_drop] at this
theorem zF3 {a b lo P x y z u u':Nat} (heq:a+u*P=lo+b) (hs:x+u'*4294967296=z+y+u):a+x*P+u'*(P*4294967296)=lo+z*P+(b+y*P):=by
 have h:=congrArg (·*P) hs
 simp only [vV] at h
 have e:u'*(P*4294967296)=u'*4294967296*P:=by rw [vT P,vU]
 omega
theorem zBS (l:List Nat) (n:Nat) (h:n<=l.length) (hz: ∀i,n<=i->i<l.length->lm l i=0) (ht:n=0∨lm l (n - 1)≠0):Tr (l.take n):=by
 rw [zKj]
 by_cases e:n=0
 ·subst e;simp
 ·right
  rw [uH,vZ h,zIE oA]
  exact ht.resolve_left e
structure Is (l:List Nat) (n:Nat):Prop where
 lt:Lt l
 tr:Tr l
 val:val l=n
theorem Is.inj {l m:List Nat} {n:Nat} (h:Is l n) (k:Is m n):l=m:=zQl h.lt k.lt h.tr k.tr (h.val.trans k.val.symm)
theorem Is.nil:Is [] 0:=⟨zCi,by intro h;exact absurd rfl h,rfl⟩
theorem Is.len {l:List Nat} {n k:Nat} (h:Is l n) (hn:n<BB^k):l.length<=k:=zBg h.tr (by rw [h.val];exact hn)
theorem Is.zero_iff {l:List Nat} {n:Nat} (h:Is l n):n=0↔l.length=0:=by
 rw [<-h.val,zES h.tr,List.length_eq_zero_iff]
theorem Is.pos_iff {l:List Nat} {n:Nat} (h:Is l n):0<n↔0<l.length:=by
 have:=h.zero_iff;omega
theorem Is.lt_pow {l:List Nat} {n:Nat} (h:Is l n):n<BB^l.length:=by rw [<-h.val];exact qT h.lt
end Lb

namespace Lb
def TZ (x k:Nat):Prop:= ∃m,x=2^k*(2*m+1)
theorem TZ.pos {x k:Nat} (h:TZ x k):0<x:=by
 obtain ⟨m,rfl⟩:=h
 exact Nat.mul_pos (uF oA) oA
theorem wY {x:Nat} (h:x % 2=1):TZ x 0:=⟨x / 2,by omega⟩
theorem TZ.double {x k:Nat} (h:TZ x k):TZ (2*x) (k+1):=by
 obtain ⟨m,rfl⟩:=h
 exact ⟨m,by rw [vX,vT (2^k) 2,vU]⟩
theorem TZ.half {x k:Nat} (h:TZ (x / 2) k) (h2:x % 2=0):TZ x (k+1):=by
 have:=h.double
 rwa [show 2*(x / 2)=x from by omega] at this
theorem vL: ∀x:Nat,0<x-> ∃k,TZ x k:=by
 intro x
 induction x using Nat.strongRecOn with
 | _ x ih=>
  intro h
  by_cases e:x % 2=0
  ·obtain ⟨k,hk⟩:=ih (x / 2) oA oA
   exact ⟨k+1,hk.half e⟩
  ·exact ⟨0,wY oA⟩
theorem TZ.part {x k:Nat} (h:TZ x k):x=2^k*(x / 2^k)/\(x / 2^k) % 2=1:=by
 obtain ⟨m,rfl⟩:=h
 rw [uS _ (uF oA)]
 exact ⟨rfl,by omega⟩
theorem TZ.scale {x k:Nat} (i:Nat) (h:TZ x k):TZ (2^i*x) (i+k):=by
 obtain ⟨m,rfl⟩:=h
 exact ⟨m,by rw [vW,vU]⟩
theorem TZ.mod {x k:Nat} (h:TZ x k) (i:Nat) (hi:i<k):x / 2^i % 2=0:=by
 obtain ⟨m,rfl⟩:=h
 rw [show 2^k=2^i*(2*2^(k - i - 1)) from by rw [<-Nat.pow_succ', <-vW];congr 1;omega,vU,uS _ (uF oA),vU]
 omega
theorem TZ.unique {x i j:Nat} (h:TZ x i) (h':TZ x j):i=j:=by
 rcases Nat.lt_trichotomy i j with e|e|e
 ·have:=h'.mod i e;have:=h.part.2;omega
 ·exact e
 ·have:=h.mod j e;have:=h'.part.2;omega
theorem zO4 {a b i j:Nat} (ha:a % 2=1) (hb:b % 2=1):Nat.gcd (2^i*a) (2^j*b)=2^min i j*Nat.gcd a b:=by
 have cop: ∀x d:Nat,x % 2=1->Nat.Coprime x (2^d):=fun x d h=>by
  refine Nat.Coprime.pow_right d ?_
  rw [uT]
  have h1:Nat.gcd 2 x∣2:=Nat.gcd_dvd_left 2 x
  have h2:Nat.gcd 2 x∣x:=Nat.gcd_dvd_right 2 x
  have h3:Nat.gcd 2 x<=2:=Nat.le_of_dvd oA h1
  have h4:Nat.gcd 2 x≠2:=fun e=>by rw [e] at h2;omega
  have h5:0<Nat.gcd 2 x:=Nat.pos_of_dvd_of_pos h1 oA
  show Nat.gcd 2 x=1
  omega
 rcases Nat.le_total i j with h|h
 ·rw [vZ h,show 2^j=2^i*2^(j - i) from by rw [<-vW];congr 1;omega,vU,Nat.gcd_mul_left,gA b (uT.1 (cop a _ ha))]
 ·rw [Nat.min_eq_right h,show 2^i=2^j*2^(i - j) from by rw [<-vW];congr 1;omega,vU,Nat.gcd_mul_left,Nat.gcd_comm,gA a (uT.1 (cop b _ hb)),Nat.gcd_comm]
theorem TZ.gcd {a b i j:Nat} (h:TZ a i) (h':TZ b j):Nat.gcd a b=2^min i j*Nat.gcd (a / 2^i) (b / 2^j):=by
 have e1:=h.part;have e2:=h'.part
 rw [<-zO4 e1.2 e2.2, <-e1.1, <-e2.1]
theorem vE {a b j:Nat} (ha:a % 2=1) (h':TZ b j):Nat.gcd a (b / 2^j)=Nat.gcd a b:=by
 have:=(wY ha).gcd h'
 simp at this
 exact this.symm
theorem zGB {a b:Nat} (h:b<=a):Nat.gcd (a - b) b=Nat.gcd a b:=by
 rw [show Nat.gcd a b=Nat.gcd ((a - b)+b) b from by rw [uU h]]
 simp
theorem TZ.or {a b i j:Nat} (h:TZ a i) (h':TZ b j):TZ (a|||b) (min i j):=by
 have e1:=h.part;have e2:=h'.part
 have key: ∀x y d:Nat,x % 2=1->TZ (x|||(2^d*y)) 0:=fun x y d hx=>by
  refine wY ?_
  have:(x|||2^d*y) % 2=x % 2|||(2^d*y) % 2:=Nat.or_mod_two_pow (n:=1)
  rw [this,hx]
  have:(2^d*y) % 2<2:=uC _ oA
  rcases (by omega:(2^d*y) % 2=0∨(2^d*y) % 2=1) with e|e<;>rw [e]<;>rfl
 have shl: ∀x y n:Nat,2^n*x|||2^n*y=2^n*(x|||y):=fun x y n=>by
  rw [vT _ x,vT _ y,vT _ (x|||y), <-uV, <-uV, <-uV,Nat.shiftLeft_or_distrib]
 rcases Nat.le_total i j with hij|hij
 ·rw [vZ hij]
  have:=(key (a / 2^i) (b / 2^j) (j - i) e1.2).scale i
  rw [<-shl, <-vU, <-vW,uQ hij, <-e1.1, <-e2.1] at this
  simpa using this
 ·rw [Nat.min_eq_right hij]
  have:=(key (b / 2^j) (a / 2^i) (i - j) e2.2).scale j
  rw [<-shl, <-vU, <-vW,uQ hij, <-e1.1, <-e2.1,Nat.or_comm] at this
  simpa using this
end Lb

namespace Lb
def jO (r b:Int):Prop:=(0<=r/\r<b)∨(b<r/\r<=0)
def sg (s:Bool) (x:Nat):Int:=if s then -(x:Int) else x
theorem zDi (a b:Nat) (hb:0<b): ∃q r:Nat,a / b=q/\a % b=r/\(a:Int)=(q:Int)*(b:Int)+(r:Int)/\r<b:=
 ⟨a / b,a % b,rfl,rfl,by
  have:=uJ a b
  rw [<-Int.natCast_mul, <-uW,vT,this],uC _ hb⟩
theorem zKL (v v':Int) (h0:v'≠0) (hs:decide (v<0)=decide (v'<0)):
  v=sg false (v.natAbs / v'.natAbs)*v'+sg (decide (v'<0)) (v.natAbs % v'.natAbs)/\jO (sg (decide (v'<0)) (v.natAbs % v'.natAbs)) v':=by
 obtain ⟨q,r,hq,hr,e,hlt⟩:=zDi v.natAbs v'.natAbs oA
 rw [hq,hr]
 unfold sg jO
 by_cases h1:v'<0
 ·have h2:v<0:=by rw [uD h1] at hs;exact of_decide_eq_true hs
  have e1:(v'.natAbs:Int)= -v':=by omega
  have e2:(v.natAbs:Int)= -v:=by omega
  rw [e1,e2,Int.mul_neg] at e
  simp only [h1,decide_true,if_true,uK,if_false]
  omega
 ·have h2: ¬v<0:=by rw [uE h1] at hs;exact of_decide_eq_false hs
  have e1:(v'.natAbs:Int)=v':=by omega
  have e2:(v.natAbs:Int)=v:=by omega
  rw [e1,e2] at e
  simp only [h1,decide_false,uK,if_false]
  omega
theorem zKM (v v':Int) (h0:v'≠0) (hs:(decide (v<0)==decide (v'<0))=false) (hr0:v.natAbs % v'.natAbs=0):
  v=sg true (v.natAbs / v'.natAbs)*v'+sg (decide (v'<0)) (v.natAbs % v'.natAbs)/\jO (sg (decide (v'<0)) (v.natAbs % v'.natAbs)) v':=by
 obtain ⟨q,r,hq,hr,e,hlt⟩:=zDi v.natAbs v'.natAbs oA
 rw [hr] at hr0
 subst hr0
 rw [hq,hr]
 unfold sg jO
 have hs':=beq_eq_false_iff_ne.1 hs
 by_cases h1:v'<0
 ·have h2: ¬v<0:=fun h2=>hs' (by rw [uD h1,uD h2])
  have e1:(v'.natAbs:Int)= -v':=by omega
  have e2:(v.natAbs:Int)=v:=by omega
  rw [e1,e2,Int.mul_neg] at e
  simp only [h1,decide_true,if_true,uL]
  omega
 ·have h2:v<0:=gB fun h2=>hs' (by rw [uE h1,uE h2])
  have e1:(v'.natAbs:Int)=v':=by omega
  have e2:(v.natAbs:Int)= -v:=by omega
  rw [e1,e2] at e
  simp only [h1,decide_false,if_true,uK,if_false,uL]
  omega
theorem zKN (v v':Int) (h0:v'≠0) (hs:(decide (v<0)==decide (v'<0))=false) (hr0:0<v.natAbs % v'.natAbs):
  v=sg true (v.natAbs / v'.natAbs+1)*v'+sg (decide (v'<0)) (v'.natAbs - v.natAbs % v'.natAbs)/\jO (sg (decide (v'<0)) (v'.natAbs - v.natAbs % v'.natAbs)) v':=by
 obtain ⟨q,r,hq,hr,e,hlt⟩:=zDi v.natAbs v'.natAbs oA
 rw [hr] at hr0
 rw [hq,hr]
 unfold sg jO
 have hs':=beq_eq_false_iff_ne.1 hs
 by_cases h1:v'<0
 ·have h2: ¬v<0:=fun h2=>hs' (by rw [uD h1,uD h2])
  have e1:(v'.natAbs:Int)= -v':=by omega
  have e2:(v.natAbs:Int)=v:=by omega
  rw [e1,e2,Int.mul_neg] at e
  simp only [h1,decide_true,if_true,uL,uW,Int.add_mul,Int.natCast_one,Int.one_mul]
  omega
 ·have h2:v<0:=gB fun h2=>hs' (by rw [uE h1,uE h2])
  have e1:(v'.natAbs:Int)=v':=by omega
  have e2:(v.natAbs:Int)= -v:=by omega
  rw [e1,e2] at e
  simp only [h1,decide_false,if_true,uK,if_false,uL,uW,Int.add_mul,Int.natCast_one,Int.one_mul]
  omega
end Lb

namespace Go.Proofs.Wd
open Lb
theorem zMC {so sn t sb x over under old z lo over' under' P:Nat} (h:so+(over+under)*P=sn+t*sb) (hlo:x*t+over=lo+over'*4294967296) (hz:old+under'*4294967296=z+lo+under):
  so+old*P+(over'+under')*(P*4294967296)=sn+z*P+t*(sb+x*P):=by
 have e1:old*P+under'*4294967296*P=z*P+lo*P+under*P:=by rw [<-vV,hz,vV,vV]
 have e2:x*t*P+over*P=lo*P+over'*4294967296*P:=by rw [<-vV,hlo,vV]
 have e3:(over'+under')*(P*4294967296)=over'*4294967296*P+under'*4294967296*P:=by
  rw [vV,vT P, <-vU, <-vU]
 have e4:t*(sb+x*P)=t*sb+x*t*P:=by rw [vY, <-vU,vT t x]
 have e5:(over+under)*P=over*P+under*P:=vV _ _ _
 rw [e3,e4]
 rw [e5] at h
 omega
theorem zMt {so sn sb x over old z over' P:Nat} (h:sn+over*P=so+sb) (hz:over+x+old=z+over'*4294967296):
  sn+z*P+over'*(P*4294967296)=so+old*P+(sb+x*P):=by
 have e1:over*P+x*P+old*P=z*P+over'*4294967296*P:=by rw [<-vV, <-vV,hz,vV]
 have e3:over'*(P*4294967296)=over'*4294967296*P:=by rw [vT P, <-vU]
 rw [e3]
 omega
theorem zMB (x t over old under:Nat) (hx:x<4294967296) (ht:t<4294967296) (ho:over<4294967296) (hold:old<4294967296) (hu:under<=1):
  ∃p s lo over' z under':Nat,x*t=p/\p<18446744073709551616/\p+over=s/\s<18446744073709551616/\s % 4294967296=lo/\s / 4294967296=over'/\over'<4294967296/\lo<4294967296/\
   (((old:Int) - (lo:Int) - (under:Int)) % 18446744073709551616) % 4294967296=(z:Int)/\(((old:Int) - (lo:Int) - (under:Int)) % 18446744073709551616) / 9223372036854775808=(under':Int)/\z<4294967296/\under'<=1/\
   x*t+over=lo+over'*4294967296/\old+under'*4294967296=z+lo+under/\(x=0->over'=0):=by
 have h1:x*t<=4294967295*4294967295:=Nat.mul_le_mul oA oA
 refine ⟨x*t,x*t+over,(x*t+over) % 4294967296,(x*t+over) / 4294967296, ?_,if old<(x*t+over) % 4294967296+under then 1 else 0,rfl,by omega,rfl,by omega,rfl,rfl,by omega,by omega, ?_⟩
 case refine_1=>exact (((old:Int) - ((x*t+over) % 4294967296:Nat) - (under:Int)) % 18446744073709551616 % 4294967296).toNat
 have hl:(x*t+over) % 4294967296<4294967296:=by omega
 have hz0:x=0->(x*t+over) / 4294967296=0:=fun e=>by subst e;omega
 refine ⟨by omega, ?_,by omega,by split<;>omega,by omega, ?_,hz0⟩
 ·split<;>omega
 ·split<;>omega
theorem zMs (over x old:Nat) (ho:over<=1) (hx:x<4294967296) (hold:old<4294967296):
  ∃s z over':Nat,over+x+old=s/\s<18446744073709551616/\(s:Int) % 4294967296=(z:Int)/\(s:Int) / 4294967296=(over':Int)/\z<4294967296/\over'<=1/\over+x+old=z+over'*4294967296:=
 ⟨over+x+old,(over+x+old) % 4294967296,(over+x+old) / 4294967296,rfl,by omega,by omega,by omega,by omega,by omega,by omega⟩
theorem zFV {P V q N T:Nat} (hg:P / V<=q) (hV:0<V) (h:P+0*T=N+q*V):q=P / V/\N=P % V:=by
 have h1:q*V<=P:=by omega
 have h2:q<=P / V:=(Nat.le_div_iff_mul_le hV).2 h1
 have h3:q=P / V:=by omega
 subst h3
 refine ⟨rfl, ?_⟩
 have:=uJ P V
 rw [vT] at this
 omega
theorem zKU {P V q N T:Nat} (hV:0<V) (hN:N<T) (h:P+T=N+q*V):P / V<q/\0<q:=by
 have h1:P<q*V:=by omega
 exact ⟨(Nat.div_lt_iff_lt_mul hV).2 h1,by
  rcases uR q with e|e
  ·subst e;rw [Nat.zero_mul] at h1;omega
  ·exact e⟩
theorem zKV {P V q N N' T:Nat} (hq:0<q) (h:P+T=N+q*V) (hm:N'+0*T=N+V):P+T=N'+(q - 1)*V:=by
 obtain ⟨k,rfl⟩: ∃k,q=k+1:=⟨q - 1,by omega⟩
 rw [vV,Nat.one_mul] at h
 rw [uO]
 omega
theorem zKW {P V q N N' T:Nat} (hV:0<V) (hq:P / V<q) (h:P+T=N+q*V) (hm:N'+1*T=N+V):q - 1=P / V/\N'=P % V:=by
 obtain ⟨k,rfl⟩: ∃k,q=k+1:=⟨q - 1,(uU (Nat.one_le_of_lt hq)).symm⟩
 rw [vV,Nat.one_mul] at h
 rw [uO]
 exact zFV (T:=T) (Nat.lt_succ_iff.1 hq) hV oA
theorem zKK {P V top v1 Q:Nat} (hv:0<v1) (hP:P<(top+1)*Q) (hV:v1*Q<=V):P / V<=top / v1:=by
 rcases uR Q with e|hQ
 ·subst e;omega
 rw [Nat.le_div_iff_mul_le hv]
 have h1:P / V*(v1*Q)<=P / V*V:=Nat.mul_le_mul_left _ hV
 have h2:P / V*V<=P:=Nat.div_mul_le_self _ _
 have h3:P / V*v1*Q<(top+1)*Q:=by rw [vU];omega
 have h4:P / V*v1<top+1:=Nat.lt_of_mul_lt_mul_right h3
 omega
theorem zMP {P V:Nat} (h:P<V*4294967296):P / V<=4294967295:=by
 have:P / V<4294967296:=Nat.div_lt_of_lt_mul h
 omega
theorem zHI {x R V Q A:Nat} (h:A=V*Q+R):x+BB*A=V*((x+BB*R) / V+BB*Q)+(x+BB*R) % V:=by
 have:=uJ (x+BB*R) V
 rw [h,vY V, <-vU V BB Q,vT V BB,vY BB, <-vU]
 omega
theorem zQm {lo low so n z low' s P:Nat} (h:lo+low*P=s*so) (hz:n*s+low=z+low'*4294967296):lo+z*P+low'*(P*4294967296)=s*(so+n*P):=by
 have e1:n*s*P+low*P=z*P+low'*4294967296*P:=by rw [<-vV,hz,vV]
 have e2:s*(so+n*P)=s*so+n*s*P:=by rw [vY, <-vU,vT s n]
 have e3:low'*(P*4294967296)=low'*4294967296*P:=by rw [vT P, <-vU]
 rw [e2,e3]
 omega
theorem zM9 {so x y f c sf s P:Nat} (h:so+x % s*P=s*sf+c) (hf:s*f=(x - x % s)+4294967296*y):so+x*P+y*(P*4294967296)=s*(sf+f*P)+c:=by
 have e1:s*(sf+f*P)=s*sf+(x - x % s)*P+4294967296*y*P:=by rw [vY, <-vU,hf,vV,uN]
 have e2:x*P=(x - x % s)*P+x % s*P:=by rw [<-vV,uU (Nat.mod_le _ _)]
 have e3:y*(P*4294967296)=4294967296*y*P:=by rw [vT P, <-vU,vT y]
 rw [e1,e2,e3]
 omega
end Go.Proofs.Wd

namespace Lb
theorem zPJ {l:List Nat} (h:Lt l) (j:Nat):lm l j=val l / BB^j % BB:=by
 by_cases hj:j<l.length
 ·have e:=jY l j oA
  have h1:=qT (zBF h j)
  rw [uH,vZ oA] at h1
  rw [e,uP _ _ (zB1 j),uA h1,Nat.zero_add,zBm hj,Nat.add_mul_mod_self_left,Nat.mod_eq_of_lt (qM h j)]
 ·rw [zDQ oA,uA (Nat.lt_of_lt_of_le (qT h) (Nat.pow_le_pow_right y4 oA))]
  rfl
theorem zEp (j:Nat):BB^j=2^(32*j):=by
 rw [Nat.pow_mul];rfl
theorem zE8 (i:Nat):2^i=BB^(i / 32)*2^(i % 32):=by
 rw [zEp, <-vW];congr 1;omega
theorem zL7 (t:Nat) (h:t<=32):2^t*2^(32 - t)=BB:=by
 rw [<-vW,show t+(32 - t)=32 from by omega];rfl
theorem zRN {l:List Nat} (h:Lt l) (i:Nat):lm l (i / 32) / 2^(i % 32) % 2=val l / 2^i % 2:=by
 rw [zPJ h,zE8 i, <-Nat.div_div_eq_div_mul]
 generalize val l / BB^(i / 32)=x
 have ht:i % 32<32:=uC _ oA
 generalize i % 32=t at*
 have e:BB=2^t*(2*2^(31 - t)):=by
  rw [<-zL7 t oA,show 32 - t=(31 - t)+1 from by omega,Nat.pow_succ']
 rw [e,Nat.mod_mul_right_div_self,uX]
theorem zOQ {l:List Nat} (h:Lt l) (i:Nat) (hz:val l % 2^(i+1)=0):lm l (i / 32) % 2^(i % 32+1)=0:=by
 rw [zPJ h]
 have ht:i % 32<32:=uC _ oA
 have e0:2^(i+1)=BB^(i / 32)*2^(i % 32+1):=by rw [vX,zE8 i,vX,vU]
 rw [e0] at hz
 obtain ⟨c,hc⟩:=Nat.dvd_of_mod_eq_zero hz
 rw [hc,vU,uS _ (zB1 _)]
 generalize i % 32=t at*
 have e:BB=2^(t+1)*2^(31 - t):=by
  rw [<-vW,show t+1+(31 - t)=32 from by omega];rfl
 rw [e,uX,Nat.mul_mod_right]
structure DivAt (a b i q r:Nat):Prop where
 sum:a=q*b+r*2^i+a % 2^i
 less:r<b
 low:q % 2^i=0
theorem DivAt.next {a b i q r:Nat} (h:DivAt a b (i+1) q r):
  let r':=2*r+a / 2^i % 2
  (r'<b->DivAt a b i q r')/\(b<=r'->DivAt a b i (q+2^i) (r' - b)):=by
 obtain ⟨h1,h2,h3⟩:=h
 have e:a % 2^(i+1)=a / 2^i % 2*2^i+a % 2^i:=by
  rw [vX,Nat.mod_mul,Nat.add_comm,vT]
 have hl:q % 2^i=0:=by
  have:=uX q (2^i) 2
  rw [<-vX,h3] at this
  simpa using this.symm
 rw [e,vX] at h1
 have hc:a / 2^i % 2<2:=uC _ oA
 generalize a / 2^i % 2=c at*
 have e2:(2*r+c)*2^i=r*(2^i*2)+c*2^i:=by
  rw [vV,vT 2 r,vU,vT 2]
 refine ⟨fun hlt=>⟨by omega,hlt,hl⟩,fun hge=>⟨?_,by omega,by rw [Nat.add_mod,hl];simp⟩⟩
 have e3:(q+2^i)*b+(2*r+c - b)*2^i=q*b+(2*r+c)*2^i:=by
  rw [vV,vT (2^i) b,uN, <-vV]
  congr 2
  omega
 omega
theorem DivAt.done {a b q r:Nat} (h:DivAt a b 0 q r):q=a / b/\r=a % b:=by
 obtain ⟨h1,h2,-⟩:=h
 rw [Nat.pow_zero,Nat.mul_one,Nat.mod_one,Nat.add_zero] at h1
 have hb:0<b:=by omega
 constructor
 ·rw [h1,vT,Nat.mul_add_div hb,uA h2];rfl
 ·rw [h1,vT,Nat.mul_add_mod,Nat.mod_eq_of_lt h2]
theorem DivAt.start {a b i:Nat} (h:a / 2^i<b):DivAt a b i 0 (a / 2^i):=
 ⟨by have:=uJ a (2^i);rw [vT] at this;omega,h,by simp⟩
end Lb
