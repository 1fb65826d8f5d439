/- Memory words: a slice that reads as a list of limbs; what a call that  and what it needs. -/
import Derived.Test.YtihcepanbejfpaaGreatDoorMEW1
import Derived.WalkSpells
import Derived.WalkLawsBesides
abbrev xG:=@Go.RowKit.Below.refl
abbrev xH:=@List.mem_map
abbrev xI:=@Go.Addr.add_lit
abbrev xJ:=@if_false
abbrev xK:=@Go.World.block_lt_of_cell?
abbrev xL:=@Bool.false_eq_true
abbrev xM:=@Go.heap_alloc_new
abbrev xN:=@List.eq_nil_of_length_eq_zero
abbrev xO:=@Option.isSome_none
abbrev xP:=@List.getElem?_toArray
abbrev WB:=Go.World
namespace Go.Proofs.Wd
open Go.RowKit Lb
variable {w w':WB}{A:Option Addr}{base c n:Nat}{l:List Nat}{e:TypeId}{v:Value}
theorem hid{p:Prop}(h:p):Hid p:=h
structure Rd(w:World)(A:Option Addr)(n c:Nat)(l:List Nat):Prop where
 len:l.length=n
 le:n<=c
 cap:c<=9223372036854775807
 nil:A=none->c=0
 cells:∀i,i<n->∃b o,A=some ⟨b,o,none⟩/\w.cell? ⟨b,o+i,none⟩=some (.int .u32 (lm l i))
theorem Rd.keep(h:Rd w A n c l)(J:∀p:Addr,p.block<w.heap.size->w'.cell? p=w.cell? p):Rd w' A n c l:=
 ⟨h.len,h.le,h.cap,h.nil,fun i hi=>by
  obtain⟨b,o,e,I⟩:=h.cells i hi
  exact⟨b,o,e,(J _ (xK w _ I)).trans I⟩⟩
theorem Rd.below(h:Rd w A n c l)(hb:Below w.heap.size w w'):Rd w' A n c l:=h.keep fun _ I=>hb.cell I
theorem Rd.alloc(h:Rd w A n c l)(o:Obj):Rd (w.alloc o) A n c l:=h.below ((xG _ _).alloc (vQ _) o)
theorem Rd.drew(h:Rd w A n c l):Rd w.drew A n c l:=h.keep fun _ _=>rfl
theorem wM(w:WB):Rd w none 0 0 []:=⟨rfl,oA,oA,fun _=>rfl,fun i hi=>oA⟩
theorem Rd.empty(h:Rd w none n c l):n=0/\c=0/\l=[]:=by
 have I:=h.nil rfl;have h2:=h.le;have h3:=h.len
 exact⟨oA,I,xN oA⟩
theorem Rd.shape(h:Rd w A n c l)(J:0<n):
  ∃b o,A=some ⟨b,o,none⟩/\b<w.heap.size/\∀i,i<n->w.cell? ⟨b,o+i,none⟩=some (.int .u32 (lm l i)):=by
 obtain⟨b,o,e,O⟩:=h.cells 0 J
 refine⟨b,o,e,xK w _ O,fun i hi=>?_⟩
 obtain⟨b',o',e',I⟩:=h.cells i hi
 rw[e]at e'
 injection e' with e'
 injection e' with e1 e2
 subst e1;subst e2
 exact I
def jH(w:WB)(v:Nat)(e:Ending)(w':WB):Prop:=
 ∃A n c l,e=.returned (.slice A n c)/\Is l v/\Rd w' A n c l/\Below w.heap.size w w'
theorem Rd.take(h:Rd w A n c l){k m:Nat}(hk:k<=n)(J:k<=m)(hmc:m<=c):Rd w A k m (l.take k):=
 ⟨by rw[uE,h.len];omega,J,by have:=h.cap;omega,fun e=>by have:=h.nil e;omega,fun i hi=>by
  obtain⟨b,o,e,I⟩:=h.cells i oA
  exact⟨b,o,e,by rw[zKi oA];exact I⟩⟩
theorem Rd.drop(h:Rd w A n c l){k:Nat}(hk:k<=n):
  Rd w (if c=k then A else A.map (·.add k)) (n-k) (c-k) (l.drop k):=
 ⟨by
  rw[uK,h.len],by have:=h.le;omega,by have:=h.cap;omega,fun e=>by
  by_cases I:c=k
  .omega
  .rw[if_neg I]at e
   have:A=none:=by cases A<;>simp_all
   have:=h.nil this;omega,fun i hi=>by
  obtain⟨b,o,e,I⟩:=h.cells (k+i) oA
  have:=h.le
  refine⟨b,o+k,?_,?_⟩
  .rw[if_neg oA,e]
   simp[xI]
  .rw[zD0,uT]
   exact I⟩
def zBQ(l:List Nat):List Value:=l.map fun n:Nat=>Value.int .u32 (n:Int)
theorem zAY(l:List Nat):(zBQ l).length=l.length:=by simp[zBQ]
theorem zDo(l:List Nat)(i:Nat)(h:i<l.length):(zBQ l)[i]?=some (.int .u32 (lm l i)):=by simp[zBQ,lm,h]
theorem zKK(l:List Nat):∀u∈zBQ l,u.oneCell'=true:=by
 intro u I
 simp only[zBQ,xH]at I
 obtain⟨n,_,rfl⟩:=I
 rfl
theorem zDS(l m:List Nat):zBQ (l++m)=zBQ l++zBQ m:=by simp[zBQ]
theorem Rd.of_own(h:w.ownsRow base e 1 (.slice A n c) l.length (zBQ l))(hn:l.length=n):Rd w A n c l:=by
 subst hn
 obtain⟨h1,h2⟩:=h
 rcases h2 with⟨O,hn⟩|⟨g,cap,U,O,hg,hh,I,J,h4,ht⟩
 .injection O with a1 a2 a3
  have:l=[]:=xN hn
  subst this;subst a1;subst a3
  exact wM w
 .injection O with a1 a2 a3
  subst a1;subst a3
  refine⟨rfl,I,by unfold maxLen at J;omega,fun e=>(by cases e),fun i hi=>⟨g,0,rfl,?_⟩⟩
  have:=(show w.ownsRow base e 1 (.slice (some ⟨g,0,none⟩) l.length c) l.length (zBQ l)from⟨h1,.inr ⟨g,c,U,rfl,hg,hh,I,J,h4,ht⟩⟩).cells (g:=g) rfl i _ (zDo l i hi)
  rw[xI]at this
  exact this
theorem zQ5{xs:List Value}(h:w.ownsRow base e 1 v n xs):∃A c,v=.slice A n c:=by
 rcases h.2 with⟨rfl,rfl⟩|⟨g,cap,cur,rfl,_⟩
 .exact⟨_,_,rfl⟩
 .exact⟨_,_,rfl⟩
theorem Rd.new(w:WB)(l:List Nat)(t:TypeId)(cs:Array Value)(I:cs=(zBQ l).toArray)(J:l.length<=9223372036854775807):
  Rd (w.alloc (.cells cs t)) (some ⟨w.heap.size,0,none⟩) l.length l.length l:=by
 subst I
 refine⟨rfl,vQ _,J,fun e=>(by cases e),fun i hi=>⟨w.heap.size,0,rfl,?_⟩⟩
 have O:(w.alloc (.cells (zBQ l).toArray t)).heap[w.heap.size]?=some (.cells (zBQ l).toArray t):=xM w _
 unfold World.cell?
 rw[O]
 have:=zDo l i hi
 simp only[uM,xO,xL,xJ,xP]
 exact this
theorem z7{a:Addr}(h:w.cell? a=some v):a.block<w.heap.size:=xK w a h
end Go.Proofs.Wd
