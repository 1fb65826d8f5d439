/- Memory words: a slice that reads as a list of limbs; what a call that  and what it needs. -/
import Derived.Test.YtihcepanbejfpaaGreatDoorMEU1
import Derived.WalkSpells
import Derived.WalkLawsBesides
abbrev xF:=@Go.RowKit.Below.refl
abbrev xG:=@List.mem_map
abbrev xH:=@Go.Addr.add_lit
abbrev xI:=@if_false
abbrev xJ:=@Go.World.block_lt_of_cell?
abbrev xK:=@Bool.false_eq_true
abbrev xL:=@Go.heap_alloc_new
abbrev xM:=@List.eq_nil_of_length_eq_zero
abbrev xN:=@Option.isSome_none
abbrev xO:=@List.getElem?_toArray
abbrev WB:=Go.World
namespace Go.Proofs.Wd
open Go.RowKit Lb
variable {w w':WB}{A:Option Addr}{base c n:Nat}{l:List Nat}{e:TypeId}{v:Value}
theorem hid{p:Prop}(h:p):Hid p:=h
structure Rd(w:World)(A:Option Addr)(n c:Nat)(l:List Nat):Prop where
 len:l.length=n
 le:n<=c
 cap:c<=9223372036854775807
 nil:A=none->c=0
 cells:∀i,i<n->∃b o,A=some ⟨b,o,none⟩/\w.cell? ⟨b,o+i,none⟩=some (.int .u32 (lm l i))
theorem Rd.keep(h:Rd w A n c l)(J:∀p:Addr,p.block<w.heap.size->w'.cell? p=w.cell? p):Rd w' A n c l:=
 ⟨h.len,h.le,h.cap,h.nil,fun i hi=>by
  obtain⟨b,o,e,I⟩:=h.cells i hi
  exact⟨b,o,e,(J _ (xJ w _ I)).trans I⟩⟩
theorem Rd.below(h:Rd w A n c l)(hb:Below w.heap.size w w'):Rd w' A n c l:=h.keep fun _ I=>hb.cell I
theorem Rd.alloc(h:Rd w A n c l)(o:Obj):Rd (w.alloc o) A n c l:=h.below ((xF _ _).alloc (vP _) o)
theorem Rd.drew(h:Rd w A n c l):Rd w.drew A n c l:=h.keep fun _ _=>rfl
theorem wM(w:WB):Rd w none 0 0 []:=⟨rfl,by omega,by omega,fun _=>rfl,fun i hi=>by omega⟩
theorem Rd.empty(h:Rd w none n c l):n=0/\c=0/\l=[]:=by
 have I:=h.nil rfl;have h2:=h.le;have h3:=h.len
 exact⟨by omega,I,xM (by omega)⟩
theorem Rd.shape(h:Rd w A n c l)(O:0<n):
  ∃b o,A=some ⟨b,o,none⟩/\b<w.heap.size/\∀i,i<n->w.cell? ⟨b,o+i,none⟩=some (.int .u32 (lm l i)):=by
 obtain⟨b,o,e,J⟩:=h.cells 0 O
 refine⟨b,o,e,xJ w _ J,fun i hi=>?_⟩
 obtain⟨b',o',e',I⟩:=h.cells i hi
 rw[e]at e'
 injection e' with e'
 injection e' with e1 e2
 subst e1;subst e2
 exact I
def jK(w:WB)(v:Nat)(e:Ending)(w':WB):Prop:=
 ∃A n c l,e=.returned (.slice A n c)/\Is l v/\Rd w' A n c l/\Below w.heap.size w w'
theorem Rd.take(h:Rd w A n c l){k m:Nat}(hk:k<=n)(I:k<=m)(hmc:m<=c):Rd w A k m (l.take k):=
 ⟨by rw[uD,h.len];omega,I,by have:=h.cap;omega,fun e=>by have:=h.nil e;omega,fun i hi=>by
  obtain⟨b,o,e,J⟩:=h.cells i (by omega)
  exact⟨b,o,e,by rw[zJO (by omega)];exact J⟩⟩
theorem Rd.drop(h:Rd w A n c l){k:Nat}(hk:k<=n):
    Rd w (if c=k then A else A.map (·.add k)) (n-k) (c-k) (l.drop k):=
  ⟨by rw[uJ,h.len],by have:=h.le;omega,by have:=h.cap;omega,fun e=>by
      by_cases I:c=k
      . omega
      . rw[if_neg I]at e
        have:A=none:=by cases A<;>simp_all
        have:=h.nil this;omega,fun i hi=>by
    obtain⟨b,o,e,I⟩:=h.cells (k+i) (by omega)
    have:=h.le
    refine⟨b,o+k,?_,?_⟩
    . rw[if_neg (by omega),e]
      simp[xH]
    . rw[zDK,uS]
      exact I⟩
def zBL(l:List Nat):List Value:=l.map fun n:Nat=>Value.int .u32 (n:Int)
theorem zAU(l:List Nat):(zBL l).length=l.length:=by simp[zBL]
theorem zDj(l:List Nat)(i:Nat)(h:i<l.length):(zBL l)[i]?=some (.int .u32 (lm l i)):=by simp[zBL,lm,h]
theorem zKd(l:List Nat):∀u∈zBL l,u.oneCell'=true:=by
 intro u I
 simp only[zBL,xG]at I
 obtain⟨n,_,rfl⟩:=I
 rfl
theorem zDD(l m:List Nat):zBL (l++m)=zBL l++zBL m:=by simp[zBL]
theorem Rd.of_own(h:w.ownsRow base e 1 (.slice A n c) l.length (zBL l))(hn:l.length=n):Rd w A n c l:=by
 subst hn
 obtain⟨h1,h2⟩:=h
 rcases h2 with⟨hv,hn⟩|⟨g,cap,O,hv,hg,hh,I,J,U,ht⟩
 .injection hv with a1 a2 a3
  have:l=[]:=xM hn
  subst this;subst a1;subst a3
  exact wM w
 .injection hv with a1 a2 a3
  subst a1;subst a3
  refine⟨rfl,I,by unfold maxLen at J;omega,fun e=>(by cases e),fun i hi=>⟨g,0,rfl,?_⟩⟩
  have:=(show w.ownsRow base e 1 (.slice (some ⟨g,0,none⟩) l.length c) l.length (zBL l)from⟨h1,.inr ⟨g,c,O,rfl,hg,hh,I,J,U,ht⟩⟩).cells (g:=g) rfl i _ (zDj l i hi)
  rw[xH]at this
  exact this
theorem zQp{xs:List Value}(h:w.ownsRow base e 1 v n xs):∃A c,v=.slice A n c:=by
 rcases h.2 with⟨rfl,rfl⟩|⟨g,cap,cur,rfl,_⟩
 .exact⟨_,_,rfl⟩
 .exact⟨_,_,rfl⟩
theorem Rd.new(w:WB)(l:List Nat)(t:TypeId)(cs:Array Value)(I:cs=(zBL l).toArray)(J:l.length<=9223372036854775807):
  Rd (w.alloc (.cells cs t)) (some ⟨w.heap.size,0,none⟩) l.length l.length l:=by
 subst I
 refine⟨rfl,vP _,J,fun e=>(by cases e),fun i hi=>⟨w.heap.size,0,rfl,?_⟩⟩
 have O:(w.alloc (.cells (zBL l).toArray t)).heap[w.heap.size]?=some (.cells (zBL l).toArray t):=xL w _
 unfold World.cell?
 rw[O]
 have:=zDj l i hi
 simp only[uL,xN,xK,xI,xO]
 exact this
theorem zZ{a:Addr}(h:w.cell? a=some v):a.block<w.heap.size:=xJ w a h
end Go.Proofs.Wd
