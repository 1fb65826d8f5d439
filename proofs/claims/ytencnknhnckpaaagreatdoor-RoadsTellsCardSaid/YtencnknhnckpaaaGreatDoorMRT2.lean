/- Memory words: a slice that reads as a list of limbs; what a call that  and what it needs. -/
import Derived.Test.YtencnknhnckpaaaGreatDoorMRT1
import Derived.WalkSpells
import Derived.WalkLawsBesides
abbrev xF:=@Go.RowKit.Below.refl
abbrev xG:=@List.mem_map
abbrev xH:=@Go.Addr.add_lit
abbrev xI:=@Bool.false_eq_true
abbrev xJ:=@Go.World.block_lt_of_cell?
abbrev xK:=@if_false
abbrev xL:=@List.eq_nil_of_length_eq_zero
abbrev xM:=@Go.heap_alloc_new
abbrev xN:=@Option.isSome_none
abbrev xO:=@List.getElem?_toArray
abbrev WB:=Go.World
namespace Go.Proofs.Wd
open Go.RowKit Lb
variable {w w':WB}{A:Option Addr}{base c n:Nat}{l:List Nat}{e:TypeId}{v:Value}
theorem hid{p:Prop}(h:p):Hid p:=h
structure Rd(w:World)(A:Option Addr)(n c:Nat)(l:List Nat):Prop where
 len:l.length=n
 le:n<=c
 cap:c<=9223372036854775807
 nil:A=none->c=0
 cells:∀i,i<n->∃b o,A=some ⟨b,o,none⟩/\w.cell? ⟨b,o+i,none⟩=some (.int .u32 (lm l i))
theorem Rd.keep(h:Rd w A n c l)(O:∀p:Addr,p.block<w.heap.size->w'.cell? p=w.cell? p):Rd w' A n c l:=
 ⟨h.len,h.le,h.cap,h.nil,fun i J=>by
  obtain⟨b,o,e,I⟩:=h.cells i J
  exact⟨b,o,e,(O _ (xJ w _ I)).trans I⟩⟩
theorem Rd.below(h:Rd w A n c l)(I:Below w.heap.size w w'):Rd w' A n c l:=h.keep fun _ hp=>I.cell hp
theorem Rd.alloc(h:Rd w A n c l)(o:Obj):Rd (w.alloc o) A n c l:=h.below ((xF _ _).alloc (vR _) o)
theorem Rd.drew(h:Rd w A n c l):Rd w.drew A n c l:=h.keep fun _ _=>rfl
theorem wM(w:WB):Rd w none 0 0 []:=⟨rfl,oA,oA,fun _=>rfl,fun i hi=>oA⟩
theorem Rd.empty(h:Rd w none n c l):n=0/\c=0/\l=[]:=by
 have I:=h.nil rfl;have h2:=h.le;have h3:=h.len
 exact⟨oA,I,xL oA⟩
theorem Rd.shape(h:Rd w A n c l)(hl:0<n):
  ∃b o,A=some ⟨b,o,none⟩/\b<w.heap.size/\∀i,i<n->w.cell? ⟨b,o+i,none⟩=some (.int .u32 (lm l i)):=by
 obtain⟨b,o,e,O⟩:=h.cells 0 hl
 refine⟨b,o,e,xJ w _ O,fun i J=>?_⟩
 obtain⟨b',o',e',I⟩:=h.cells i J
 rw[e]at e'
 injection e' with e'
 injection e' with e1 e2
 subst e1;subst e2
 exact I
def jH(w:WB)(v:Nat)(e:Ending)(w':WB):Prop:=
 ∃A n c l,e=.returned (.slice A n c)/\Is l v/\Rd w' A n c l/\Below w.heap.size w w'
theorem Rd.take(h:Rd w A n c l){k m:Nat}(hk:k<=n)(J:k<=m)(hmc:m<=c):Rd w A k m (l.take k):=
 ⟨by rw[uG,h.len];omega,J,by have:=h.cap;omega,fun e=>by have:=h.nil e;omega,fun i hi=>by
  obtain⟨b,o,e,I⟩:=h.cells i oA
  exact⟨b,o,e,by rw[zIp oA];exact I⟩⟩
theorem Rd.drop(h:Rd w A n c l){k:Nat}(hk:k<=n):
  Rd w (if c=k then A else A.map (·.add k)) (n-k) (c-k) (l.drop k):=
 ⟨by
  rw[uS,h.len],by have:=h.le;omega,by have:=h.cap;omega,fun e=>by
  by_cases I:c=k
  .omega
  .rw[if_neg I]at e
   have:A=none:=by cases A<;>simp_all
   have:=h.nil this;omega,fun i hi=>by
  obtain⟨b,o,e,I⟩:=h.cells (k+i) oA
  have:=h.le
  refine⟨b,o+k,?_,?_⟩
  .rw[if_neg oA,e]
   simp[xH]
  .rw[zC2,uV]
   exact I⟩
def zBl(l:List Nat):List Value:=l.map fun n:Nat=>Value.int .u32 (n:Int)
theorem zAA(l:List Nat):(zBl l).length=l.length:=by simp[zBl]
theorem zCA(l:List Nat)(i:Nat)(h:i<l.length):(zBl l)[i]?=some (.int .u32 (lm l i)):=by simp[zBl,lm,h]
theorem zIL(l:List Nat):∀u∈zBl l,u.oneCell'=true:=by
 intro u h
 simp only[zBl,xG]at h
 obtain⟨n,_,rfl⟩:=h
 rfl
theorem zCW(l m:List Nat):zBl (l++m)=zBl l++zBl m:=by simp[zBl]
theorem Rd.of_own(h:w.ownsRow base e 1 (.slice A n c) l.length (zBl l))(hn:l.length=n):Rd w A n c l:=by
 subst hn
 obtain⟨h1,h2⟩:=h
 rcases h2 with⟨hv,hn⟩|⟨g,cap,h4,hv,hg,hh,I,J,O,ht⟩
 .injection hv with a1 a2 a3
  have:l=[]:=xL hn
  subst this;subst a1;subst a3
  exact wM w
 .injection hv with a1 a2 a3
  subst a1;subst a3
  refine⟨rfl,I,by unfold maxLen at J;omega,fun e=>(by cases e),fun i hi=>⟨g,0,rfl,?_⟩⟩
  have:=(show w.ownsRow base e 1 (.slice (some ⟨g,0,none⟩) l.length c) l.length (zBl l)from⟨h1,.inr ⟨g,c,h4,rfl,hg,hh,I,J,O,ht⟩⟩).cells (g:=g) rfl i _ (zCA l i hi)
  rw[xH]at this
  exact this
theorem zNR{xs:List Value}(h:w.ownsRow base e 1 v n xs):∃A c,v=.slice A n c:=by
 rcases h.2 with⟨rfl,rfl⟩|⟨g,cap,cur,rfl,_⟩
 .exact⟨_,_,rfl⟩
 .exact⟨_,_,rfl⟩
theorem Rd.new(w:WB)(l:List Nat)(t:TypeId)(cs:Array Value)(h:cs=(zBl l).toArray)(J:l.length<=9223372036854775807):
  Rd (w.alloc (.cells cs t)) (some ⟨w.heap.size,0,none⟩) l.length l.length l:=by
 subst h
 refine⟨rfl,vR _,J,fun e=>(by cases e),fun i I=>⟨w.heap.size,0,rfl,?_⟩⟩
 have O:(w.alloc (.cells (zBl l).toArray t)).heap[w.heap.size]?=some (.cells (zBl l).toArray t):=xM w _
 unfold World.cell?
 rw[O]
 have:=zCA l i I
 simp only[uK,xN,xI,xK,xO]
 exact this
theorem zU{a:Addr}(h:w.cell? a=some v):a.block<w.heap.size:=xJ w a h
end Go.Proofs.Wd
