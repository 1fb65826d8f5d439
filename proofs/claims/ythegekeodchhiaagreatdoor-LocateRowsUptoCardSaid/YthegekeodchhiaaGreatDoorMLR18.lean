/- The walk of gcd's Gcd and what it needs. -/
import Derived.Test.YthegekeodchhiaaGreatDoorMLR8
import Derived.Test.YthegekeodchhiaaGreatDoorMLR17
abbrev pG:=@decide_eq_true
namespace Go.Proofs.Wd
open Tryz
set_option maxHeartbeats 1000000
open Go.RowKit Lb
def rdl (w:World) (v:Value):List Nat:=
 match v with
 | .slice (some a) n _=>(List.range n).map fun i=>match w.cell? ⟨a.block,a.off+i,none⟩ with
  |some (.int _ z)=>z.toNat
  |_=>0
 |_=> []
theorem Rd.rdl {w:World} {A:Option Addr} {n c:Nat} {l:List Nat} (h:Rd w A n c l):rdl w (.slice A n c)=l:=by
 cases A with
 |none=>obtain ⟨rfl,rfl,rfl⟩:=h.empty;rfl
 |some a=>
  unfold Wd.rdl
  refine List.ext_getElem (by simp [h.len]) fun i h1 h2=> ?_
  have hi:i<n:=by simpa using h1
  obtain ⟨b,o,e,hc⟩:=h.cells i hi
  injection e with e
  subst e
  simp only [List.getElem_map,List.getElem_range]
  rw [hc]
  simp [lm,h2]
def rdv (w:World) (v:Value):Nat:=val (rdl w v)
theorem Rd.rdv {w:World} {A:Option Addr} {n c:Nat} {l:List Nat} {x:Nat} (h:Rd w A n c l) (hi:Is l x):rdv w (.slice A n c)=x:=by
 unfold Wd.rdv
 rw [h.rdl,hi.val]
theorem zNB (a b:Nat) (ha:a<18446744073709551616) (hb:b<18446744073709551616) (w:World) (hT:Tab w):
  Calls prog 134 #[.int .u64 a, .int .u64 b] w fun e w'=>e= .returned (.int .u64 (Nat.gcd a b:Nat))/\w=w':=by
 by_cases h:a=0∨b=0
 ·exact zK3 a b ha hb w h
 ·exact zNA a b ha hb (by omega) (by omega) w hT
def zVj (w:World) (G:Nat) (u v:Value) (W:World):Prop:=
 ∃A n c l A' n' c' l' x y,u= .slice A n c/\v= .slice A' n' c'/\Is l x/\Is l' y/\Rd W A n c l/\Rd W A' n' c' l'/\n<=2000/\n'<=2000/\Nat.gcd x y=G/\Below w.heap.size w W
theorem zHK {w:World} {A:Option Addr} {n c:Nat} {l:List Nat} {x k:Nat} (hi:Is l x) (hr:Rd w A n c l) (hx:x<BB^k):n<=k:=by
 rw [<-hr.len];exact hi.len hx
theorem zRI (A:Option Addr) (n c:Nat) (l:List Nat) (A':Option Addr) (n' c':Nat) (l':List Nat) (w:World) (h:Rd w A n c l) (h':Rd w A' n' c' l') (ht:Lt l) (ht':Lt l') (hn:n<=2000) (hn':n'<=2000) (hT:Tab w):
  Calls prog 116 #[.slice A n c, .slice A' n' c'] w (jH w (Nat.gcd (val l) (val l'))):=by
 have hle:=h.le;have hcap:=h.cap;have hle':=h'.le;have hcap':=h'.cap
 have v1:=qT ht;have v2:=qT ht'
 rw [h.len] at v1;rw [h'.len] at v2
 obtain ⟨G,hG⟩: ∃G,Nat.gcd (val l) (val l')=G:=⟨_,rfl⟩
 rw [hG]
 have HGG:=hid hG
 clear hG
 go_enter func116,ntmps116
 go_wp2_with fail
 refine (qY A n c l _ h ht (by omega)).mono ?_
 rintro e w1 ⟨A1,n1,c1,l1,rfl,hi1,hr1,hb1⟩
 go_wp2_with fail
 refine (qY A' n' c' l' _ (h'.below hb1) ht' (by omega)).mono ?_
 rintro e w2 ⟨A2,n2,c2,l2,rfl,hi2,hr2,hb2⟩
 have hn1:=zHK hi1 hr1 v1
 have hn2:=zHK hi2 hr2 v2
 have hb12:=hb1.trans (hb2.mono hb1.size)
 go_wp2
 go_loopw [0,1] (zVj w G) (fun _ v W=>rdv W v)
 case atStart=>exact ⟨A1,n1,c1,l1,A2,n2,c2,l2,_,_,rfl,rfl,hi1,hi2,hr1.below hb2,hr2,by omega,by omega,HGG.out,hb12⟩
 case round=>
  clear hi1 hi2 hr1 hr2 hb1 hb2 hb12 hn1 hn2 h h' ht ht' hle hcap hle' hcap' v1 v2 HGG
  obtain ⟨Ax,nx,cx,lx,Ay,ny,cy,ly,x,y,rfl,rfl,hx,hy,hrx,hry,hnx,hny,hg,hB⟩:=hrel
  have hmy:=hry.rdv hy
  have hly:=hry.len
  have hlx:=hrx.len
  have hz:=hy.zero_iff
  rw [hly] at hz
  have cx1:=hrx.le;have cx2:=hrx.cap;have cy1:=hry.le;have cy2:=hry.cap
  have HG:=hid hg;have HM:=hid hmy;have HLY:=hid hly;have HLX:=hid hlx
  clear hg hmy hly hlx
  rcases Nat.eq_zero_or_pos ny with h0|h0
  ·have hy0:=hz.2 h0
   have hxG:x=G:=by have:=HG.out;rwa [hy0,Nat.gcd_zero_right] at this
   have HXG:=hid hxG
   clear hz hy0 hxG
   subst h0
   go_wp2
   go_ret
   exact ⟨Ax,nx,cx,lx,rfl,by rw [<-HXG.out];exact hx,hrx,hB⟩
  ·have hy0:0<y:=by omega
   have sx:=zGZ Ax nx cx lx wr hrx hx.lt
   have sy:=zGZ Ay ny cy ly wr hry hy.lt
   rw [hx.val] at sx
   rw [hy.val] at sy
   clear hz
   by_cases hs:x<18446744073709551616/\y<18446744073709551616
   ·have e1:zP x=x:=if_pos hs.1
    have e2:zP y=y:=if_pos hs.2
    have e3:y5 x=true:=pG hs.1
    have e4:y5 y=true:=pG hs.2
    rw [e1,e3] at sx
    rw [e2,e4] at sy
    clear e1 e2 e3 e4
    have hwd:=zNB x y hs.1 hs.2 wr (hT.below hB)
    rw [HG.out] at hwd
    have hGl:G<18446744073709551616:=by rw [<-HG.out,Nat.gcd_comm];exact Nat.lt_of_le_of_lt (Nat.gcd_le_left x hy0) hs.2
    have hof:=zJG G hGl wr
    clear hs
    go_wp2_with fail
    refine sx.mono ?_
    rintro e w3 ⟨rfl,rfl⟩
    go_wp2_with fail
    refine sy.mono ?_
    rintro e w3 ⟨rfl,rfl⟩
    go_wp2_with fail
    refine hwd.mono ?_
    rintro e w3 ⟨rfl,rfl⟩
    go_wp2_with fail
    refine hof.mono ?_
    rintro e w4 ⟨A4,n4,c4,l4,rfl,hi4,hr4,hb4⟩
    go_wp2_with fail
    go_ret
    exact ⟨A4,n4,c4,l4,rfl,hi4,hr4,hB.trans (hb4.mono hB.size)⟩
   ·have hdv:=zJz x y hy0 Ax nx cx lx Ay ny cy ly wr hrx hx.lt hry hy.lt hx.val hy.val hnx hny
    have hmod:x % y<y:=Nat.mod_lt _ hy0
    have hg2:Nat.gcd y (x % y)=G:=by rw [<-HG.out,Nat.gcd_comm x y,Nat.gcd_rec y x,Nat.gcd_comm]
    have HG2:=hid hg2
    clear hg2
    obtain ⟨s1,hs1⟩: ∃z,zP x=z:=⟨_,rfl⟩
    obtain ⟨s2,hs2⟩: ∃z,zP y=z:=⟨_,rfl⟩
    rw [hs1] at sx
    rw [hs2] at sy
    clear hs1 hs2
    have hcs:y5 x=false∨(y5 x=true/\y5 y=false):=by
     unfold y5
     by_cases h1:x<18446744073709551616
     ·right;exact ⟨pG h1,decide_eq_false (fun h2=>hs ⟨h1,h2⟩)⟩
     ·left;exact decide_eq_false h1
    clear hs
    have fin: ∀(W:World) (A1:Option Addr) (n1 c1:Nat) (l1:List Nat),Is l1 (x % y)->Rd W A1 n1 c1 l1->Below wr.heap.size wr W->zVj w G (.slice Ay ny cy) (.slice A1 n1 c1) W/\rdv W (.slice A1 n1 c1)<rdv wr (.slice Ay ny cy):=by
     intro W A1 n1 c1 l1 hi hr hb
     have hy1:y<BB^ny:=by have:=hy.lt_pow;rwa [HLY.out] at this
     exact ⟨⟨Ay,ny,cy,ly,A1,n1,c1,l1,_,_,rfl,rfl,hy,hi,hry.below hb,hr,hny,Nat.le_trans (zHK hi hr (Nat.lt_trans hmod hy1)) hny,HG2.out,hB.trans (hb.mono hB.size)⟩,by rw [hr.rdv hi,HM.out];exact hmod⟩
    have HF:=hid fin
    clear fin
    rcases hcs with h1|⟨h1,h2⟩
    ·rw [h1] at sx
     clear h1
     go_wp2_with fail
     refine sx.mono ?_
     rintro e w3 ⟨rfl,rfl⟩
     go_wp2_with fail
     refine sy.mono ?_
     rintro e w3 ⟨rfl,rfl⟩
     go_wp2_with fail
     refine hdv.mono ?_
     rintro e w4 ⟨A4,n4,c4,l4,A5,n5,c5,l5,rfl,hi4,hr4,hi5,hr5,hb5⟩
     go_wp2_with fail
     exact HF.out w4 A5 n5 c5 l5 hi5 hr5 hb5
    ·rw [h1] at sx
     rw [h2] at sy
     clear h1 h2
     go_wp2_with fail
     refine sx.mono ?_
     rintro e w3 ⟨rfl,rfl⟩
     go_wp2_with fail
     refine sy.mono ?_
     rintro e w3 ⟨rfl,rfl⟩
     go_wp2_with fail
     refine hdv.mono ?_
     rintro e w4 ⟨A4,n4,c4,l4,A5,n5,c5,l5,rfl,hi4,hr4,hi5,hr5,hb5⟩
     go_wp2_with fail
     exact HF.out w4 A5 n5 c5 l5 hi5 hr5 hb5
end Go.Proofs.Wd
