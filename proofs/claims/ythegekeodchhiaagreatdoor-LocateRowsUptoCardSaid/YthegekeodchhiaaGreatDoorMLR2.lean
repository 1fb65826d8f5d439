/- Memory words: a slice that reads as a list of limbs; what a call that  and what it needs. -/
import Derived.Test.YthegekeodchhiaaGreatDoorMLR1
import Derived.WalkKit
import Derived.WalkSpells
import Derived.WalkLawsBesides
import Derived.Deep.Draws
abbrev gC:=@Go.World.block_lt_of_cell?
abbrev gD:=@List.eq_nil_of_length_eq_zero
abbrev WB:=Go.World
namespace Go.Proofs.Wd
open Go.RowKit Lb
theorem hid {p:Prop} (h:p):Hid p:=h
structure Rd (w:World) (A:Option Addr) (n c:Nat) (l:List Nat):Prop where
 len:l.length=n
 le:n<=c
 cap:c<=9223372036854775807
 nil:A=none->c=0
 cells: ∀i,i<n-> ∃b o,A=some ⟨b,o,none⟩/\w.cell? ⟨b,o+i,none⟩=some (.int .u32 (lm l i))
theorem Rd.keep {w w':WB} {A:Option Addr} {n c:Nat} {l:List Nat} (h:Rd w A n c l) (hk: ∀p:Addr,p.block<w.heap.size->w'.cell? p=w.cell? p):Rd w' A n c l:=
 ⟨h.len,h.le,h.cap,h.nil,fun i hi=>by
  obtain ⟨b,o,e,hc⟩:=h.cells i hi
  exact ⟨b,o,e,(hk _ (gC w _ hc)).trans hc⟩⟩
theorem Rd.below {w w':WB} {A:Option Addr} {n c:Nat} {l:List Nat} (h:Rd w A n c l) (hb:Below w.heap.size w w'):Rd w' A n c l:=h.keep fun _ hp=>hb.cell hp
theorem Rd.alloc {w:WB} {A:Option Addr} {n c:Nat} {l:List Nat} (h:Rd w A n c l) (o:Obj):Rd (w.alloc o) A n c l:=h.below ((Below.refl _ _).alloc (Nat.le_refl _) o)
theorem Rd.drew {w:WB} {A:Option Addr} {n c:Nat} {l:List Nat} (h:Rd w A n c l):Rd w.drew A n c l:=h.keep fun _ _=>rfl
theorem wL (w:WB):Rd w none 0 0 []:=⟨rfl,by omega,by omega,fun _=>rfl,fun i hi=>by omega⟩
theorem Rd.empty {w:WB} {n c:Nat} {l:List Nat} (h:Rd w none n c l):n=0/\c=0/\l= []:=by
 have h1:=h.nil rfl;have h2:=h.le;have h3:=h.len
 exact ⟨by omega,h1,gD (by omega)⟩
theorem Rd.shape {w:WB} {A:Option Addr} {n c:Nat} {l:List Nat} (h:Rd w A n c l) (hl:0<n):
  ∃b o,A=some ⟨b,o,none⟩/\b<w.heap.size/\ ∀i,i<n->w.cell? ⟨b,o+i,none⟩=some (.int .u32 (lm l i)):=by
 obtain ⟨b,o,e,hc⟩:=h.cells 0 hl
 refine ⟨b,o,e,gC w _ hc,fun i hi=> ?_⟩
 obtain ⟨b',o',e',hc'⟩:=h.cells i hi
 rw [e] at e'
 injection e' with e'
 injection e' with e1 e2
 subst e1;subst e2
 exact hc'
def jH (w:WB) (v:Nat) (e:Ending) (w':WB):Prop:=
 ∃A n c l,e= .returned (.slice A n c)/\Is l v/\Rd w' A n c l/\Below w.heap.size w w'
theorem Rd.take {w:WB} {A:Option Addr} {n c:Nat} {l:List Nat} (h:Rd w A n c l) {k m:Nat} (hk:k<=n) (hm:k<=m) (hmc:m<=c):Rd w A k m (l.take k):=
 ⟨by rw [List.length_take,h.len];omega,hm,by have:=h.cap;omega,fun e=>by have:=h.nil e;omega,fun i hi=>by
  obtain ⟨b,o,e,hc⟩:=h.cells i (by omega)
  exact ⟨b,o,e,by rw [zIE (by omega)];exact hc⟩⟩
theorem Rd.drop {w:WB} {A:Option Addr} {n c:Nat} {l:List Nat} (h:Rd w A n c l) {k:Nat} (hk:k<=n):
    Rd w (if c=k then A else A.map (·.add k)) (n - k) (c - k) (l.drop k):=
  ⟨by rw [List.length_drop,h.len],by have:=h.le;omega,by have:=h.cap;omega,fun e=>by
      by_cases hc:c=k
      . omega
      . rw [if_neg hc] at e
        have:A=none:=by cases A<;>simp_all
        have:=h.nil this;omega,fun i hi=>by
    obtain ⟨b,o,e,hc⟩:=h.cells (k+i) (by omega)
    have:=h.le
    refine ⟨b,o+k, ?_, ?_⟩
    . rw [if_neg (by omega),e]
      simp [Addr.add_lit]
    . rw [zDf,Nat.add_assoc]
      exact hc⟩
def zBi (l:List Nat):List Value:=l.map fun n:Nat=>Value.int .u32 (n:Int)
theorem zAI (l:List Nat):(zBi l).length=l.length:=by simp [zBi]
theorem zCN (l:List Nat) (i:Nat) (h:i<l.length):(zBi l)[i]?=some (.int .u32 (lm l i)):=by simp [zBi,lm,h]
theorem zIZ (l:List Nat): ∀u∈zBi l,u.oneCell'=true:=by
 intro u hu
 simp only [zBi,List.mem_map] at hu
 obtain ⟨n,_,rfl⟩:=hu
 rfl
theorem zC7 (l m:List Nat):zBi (l++m)=zBi l++zBi m:=by simp [zBi]
theorem Rd.of_own {w:WB} {base:Nat} {e:TypeId} {A:Option Addr} {n c:Nat} {l:List Nat} (h:w.ownsRow base e 1 (.slice A n c) l.length (zBi l)) (hn:l.length=n):Rd w A n c l:=by
 subst hn
 obtain ⟨h1,h2⟩:=h
 rcases h2 with ⟨hv,hn⟩|⟨g,cap,cur,hv,hg,hh,hnc,hcm,hcs,ht⟩
 ·injection hv with a1 a2 a3
  have:l= []:=gD hn
  subst this;subst a1;subst a3
  exact wL w
 ·injection hv with a1 a2 a3
  subst a1;subst a3
  refine ⟨rfl,hnc,by unfold maxLen at hcm;omega,fun e=>(by cases e),fun i hi=>⟨g,0,rfl, ?_⟩⟩
  have:=(show w.ownsRow base e 1 (.slice (some ⟨g,0,none⟩) l.length c) l.length (zBi l) from ⟨h1, .inr ⟨g,c,cur,rfl,hg,hh,hnc,hcm,hcs,ht⟩⟩).cells (g:=g) rfl i _ (zCN l i hi)
  rw [Addr.add_lit] at this
  exact this
theorem zOF {w:WB} {base:Nat} {e:TypeId} {v:Value} {n:Nat} {xs:List Value} (h:w.ownsRow base e 1 v n xs): ∃A c,v= .slice A n c:=by
 rcases h.2 with ⟨rfl,rfl⟩|⟨g,cap,cur,rfl,_⟩
 ·exact ⟨_,_,rfl⟩
 ·exact ⟨_,_,rfl⟩
theorem Rd.new (w:WB) (l:List Nat) (t:TypeId) (cs:Array Value) (hcs:cs=(zBi l).toArray) (hl:l.length<=9223372036854775807):
  Rd (w.alloc (.cells cs t)) (some ⟨w.heap.size,0,none⟩) l.length l.length l:=by
 subst hcs
 refine ⟨rfl,Nat.le_refl _,hl,fun e=>(by cases e),fun i hi=>⟨w.heap.size,0,rfl, ?_⟩⟩
 have hh:(w.alloc (.cells (zBi l).toArray t)).heap[w.heap.size]?=some (.cells (zBi l).toArray t):=heap_alloc_new w _
 unfold World.cell?
 rw [hh]
 have:=zCN l i hi
 simp only [Nat.zero_add,Option.isSome_none,Bool.false_eq_true,if_false,List.getElem?_toArray]
 exact this
theorem z7 {w:WB} {a:Addr} {v:Value} (h:w.cell? a=some v):a.block<w.heap.size:=gC w a h
end Go.Proofs.Wd
