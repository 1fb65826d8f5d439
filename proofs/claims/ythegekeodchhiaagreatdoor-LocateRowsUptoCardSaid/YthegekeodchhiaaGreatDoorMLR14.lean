/- The walk of quot's limbs and what it needs. -/
import Derived.Test.YthegekeodchhiaaGreatDoorMLR12
import Derived.Sort.QuietIn
abbrev mH:=@Go.World.cell?_of_block
abbrev mI:=@Go.World.grownBy.block
namespace Go.Proofs.Wd
open Tryz
set_option maxRecDepth 100000
set_option maxHeartbeats 2000000
open Go.RowKit Lb
attribute [local go_sem] Oper.semAt_some qF yI
theorem zDg (w:World) (k:Nat) (r:Option Nat):w.grownBy (w.drewN k) r:=⟨rfl,rfl,rfl,Nat.le_refl _,fun _ _ _=>rfl⟩
theorem LongAt.drewN {W:World} {D R rc:Nat} {lr:List Nat} {A:Option Addr} {n c:Nat} {lb:List Nat} (h:LongAt W D R rc lr A n c lb) (k:Nat):LongAt (W.drewN k) D R rc lr A n c lb:=h.grown (zDg W k _) (h.row.kept rfl) rfl
theorem LongAt.below {W W':World} {D R rc:Nat} {lr:List Nat} {A:Option Addr} {n c:Nat} {lb:List Nat} (h:LongAt W D R rc lr A n c lb) (hb:Below W.heap.size W W'):LongAt W' D R rc lr A n c lb:=
 ⟨h.box.kept hb,h.row.kept (hb.block _ h.row.lt),h.by_.below hb,h.ne,h.far⟩
theorem LongAt.keepS {S:Nat->Prop} {W W':World} {D R rc:Nat} {lr:List Nat} {A:Option Addr} {n c:Nat} {lb:List Nat} (h:LongAt W D R rc lr A n c lb) (hk:y9 S W W') (hD:S D) (hR:S R) (hA: ∀b o,0<n->A=some ⟨b,o,none⟩->S b):LongAt W' D R rc lr A n c lb:=
 ⟨(hk D hD).trans h.box,h.row.kept (hk R hR),h.by_.keepS hk hA,h.ne,h.far⟩
theorem LongAt.putObj {W:World} {D R rc:Nat} {lr:List Nat} {A:Option Addr} {n c:Nat} {lb:List Nat} (h:LongAt W D R rc lr A n c lb) {l:Nat} {o:Obj} (o':Obj) (ho:W.heap[l]?=some o) (hc:o.isCells=false):LongAt (W.putObj l o') D R rc lr A n c lb:=
 ⟨h.box.putObj o' ho hc,h.row.kept (World.putObj_heap_other (fun e=>by
  obtain ⟨cs,h1,_⟩:=h.row
  rw [e,ho] at h1
  cases h1
  cases hc)),h.by_.other o' ho hc,h.ne,h.far⟩
def zQc (w:World) (D R rc:Nat) (lr:List Nat) (A:Option Addr) (n c:Nat) (lb:List Nat) (p:Nat) (f:Bool) (i:Value) (W:World):Prop:=
 ∃(q:Nat) (l':List Nat),i= .int .u64 q/\q<=4294967295/\l'.length=lr.length/\Lt l'/\(∀x,x<p∨p+(n+1)<=x->lm l' x=lm lr x)/\
  (f=true->q=win lr p (n+1) / val lb/\win l' p (n+1)=win lr p (n+1) % val lb)/\(f=false->win lr p (n+1)+BB^(n+1)=win l' p (n+1)+q*val lb)/\
  LongAt W D R rc l' A n c lb/\w.grownBy W (some R)
theorem zMz (D:Nat) (w:World):
  Calls prog 153 #[.pointer (some ⟨D,0,none⟩)] w fun e w'=>e= .returned (.func (.func 166) #[] #[.pointer (some ⟨w.heap.size,0,none⟩)])/\w.alloc (.cells #[.pointer (some ⟨D,0,none⟩)] 186)=w':=by
 go_enter func153,ntmps153
 go_wp2
 go_ret
 exact ⟨rfl,rfl⟩
theorem zIG (bd D R rc:Nat) (l0:List Nat) (A:Option Addr) (n c:Nat) (lb:List Nat) (m:Nat) (w0:World) (h:LongAt w0 D R rc l0 A n c lb) (hc1:w0.cell? ⟨bd,0,none⟩=some (.pointer (some ⟨D,0,none⟩))) (hbd:bd≠R)
  (ht:Lt l0) (hb:Lt lb) (hn:0<n) (hv:0<lm lb (n - 1)) (hlen:l0.length=m+n) (htop:val (l0.drop m)<val lb) (hVp:0<val lb) {S:Nat->Prop} (_hS: ∀b,S b->b<w0.heap.size) (hSb:S bd) (hSD:S D) (hSR:S R) (hSA: ∀b o,0<n->A=some ⟨b,o,none⟩->S b):
  zTU prog 166 #[.pointer (some ⟨bd,0,none⟩)] (fun k=>#[.int .i64 (m - 1 - k:Nat), .int .u32 (dig l0 lb (m - 1 - k):Nat)]) m (y9 S) (fun W1 W2=>W1.grownBy W2 (some R))
   (fun W=> ∃lr,LongAt W D R rc lr A n c lb/\Lt lr/\lr.length=l0.length/\val lr=val l0 % val lb) w0:=by
 intro lp J W hW hJ hY h0
 have hnb:=h.by_.len
 have hw1:=(hW.cell (p:=⟨bd,0,none⟩) (z7 hc1)).trans hc1
 have hL0:=h.below hW
 have hcap:=h.row.cap
 have hle:=h.by_.le;have hcap':=h.by_.cap
 obtain ⟨⟨c0,c1⟩,_,_⟩:=hL0.box.facts2
 rw [hlen] at c0 hcap
 go_enter func166,ntmps166
 go_wp2
 go_quiet (fail)
 go_wp2
 go_loopw [3] (fun i wr=> ∃(j:Nat) (lr:List Nat),j<=m/\i= .int .i64 ((j:Int) - 1)/\J (m - j) wr/\LongAt wr D R rc lr A n c lb/\Left l0 lb lr j/\wr.cell? ⟨bd,0,none⟩=some (.pointer (some ⟨D,0,none⟩))) (fun i _=>(intOf i+1).toNat)
 case atStart=>exact ⟨m,l0,Nat.le_refl _,rfl,by rw [Nat.sub_self];exact hJ _ _ _ h0 (zDg W _ _),hL0.drewN _,Left.start ht htop,hw1⟩
 case round=>
  rename World=>wo
  obtain ⟨j,lr,hj,rfl,hJ1,hL,hI,hcd⟩:=hrel
  by_cases hj0:0<j
  ·obtain ⟨p,rfl⟩: ∃p,j=p+1:=⟨j - 1,by omega⟩
   have hpn:p+n<l0.length:=by omega
   have hpn2:p+n<lr.length:=by rw [hI.len];exact hpn
   obtain ⟨w1,w2,w3,w4,w5,w6⟩:=hI.wins ht hb hnb hpn hVp
   obtain ⟨g1,g2⟩:=zO2 hI.lt hnb hn hv w2
   have hgu:=fun W (hL:LongAt W D R rc lr A n c lb)=>zMQ D R rc lr A n c lb p W hL hI.lt hb hn hpn2 hv
   have hle1:=fun W (hL:LongAt W D R rc lr A n c lb)=>zOV D R rc lr A n c lb p (zCG lr lb p n) W hL hI.lt hb hn hpn2 (by omega)
   obtain ⟨g,hg⟩: ∃g,zCG lr lb p n=g:=⟨_,rfl⟩
   rw [hg] at g1 g2 hle1
   simp only [hg] at hgu
   clear hg
   rw [show ((p+1:Nat):Int) - 1=(p:Int) from by omega]
   go_wp2
   go_step3
   go_wp2_with (go_at_call 167;go_must (refine (hgu _ hL).mono ?_;rintro e wa ⟨rfl,nq,rfl⟩;have hcd2:(wo.drewN nq).cell? ⟨bd,0,none⟩=some (.pointer (some ⟨D,0,none⟩)):=hcd))
   go_step3
   go_wp2_with (go_at_call 168;refine (hle1 _ (hL.drewN nq)).mono ?_;rintro e wb ⟨f,lf,rfl,hlf,htf,hof,hqf,hLf,hGf⟩)
   have hinit:zQc wo D R rc lr A n c lb p f (.int .u64 (g:Int)) wb:=by
    refine ⟨g,lf,rfl,g2,hlf,htf,hof,fun e=> ?_,fun e=> ?_,hLf,(zDg wo nq _).trans hGf⟩
    ·subst e
     simp only [if_true] at hqf
     exact zFV g1 hVp hqf
    ·subst e
     simp only [Bool.false_eq_true,if_false,Nat.one_mul] at hqf
     exact hqf
   clear hlf htf hof hqf hLf hGf
   have W4:=hid w4
   clear w1 w2 w3 w4 w5 w6 g1 hgu hle1
   go_loopw [4] (zQc wo D R rc lr A n c lb p f) (fun i _=>(intOf i).toNat)
   case atStart=>exact hinit
   case round=>
    obtain ⟨q,l',rfl,hq,hl',ht',ho',hf1,hf2,hL',hG'⟩:=hrel
    have H1:=hid hf1
    have H2:=hid hf2
    clear hf1 hf2
    have e1:(q:Int) % 4294967296=(q:Int):=by omega
    cases f
    case true=>
     refine (wpIn_wide (n:=0)).1 ?_
     gi_wp2
     have hQ:q=win lr p (n+1) / val lb/\win l' p (n+1)=win lr p (n+1) % val lb:=H1.out (by simp)
     have hNx:Left l0 lb l' p:=hI.next ht hb hnb hpn hVp hl' ht' ho' hQ.2
     obtain ⟨fn,tmps,assign,body,hy,hR⟩:=hY (m - (p+1)) wr (by omega) (hJ _ _ _ hJ1 hG')
     rw [show m - 1 - (m - (p+1))=p from by omega, <-W4.out, <-hQ.1] at hy
     rw [show m - (p+1)+1=m - p from by omega] at hR
     have hcw:wr.cell? ⟨bd,0,none⟩=some (.pointer (some ⟨D,0,none⟩)):=(mH (mI hG' _ (z7 hcd) (fun e=>hbd (by injection e)))).trans hcd
     have hQQ:=hid hQ
     clear hQ
     refine (wpIn_wide (n:=0)).1 ?_
     gi_wp2_with (refine hR.mono ?_;rintro e W3 ⟨rfl,hJ3,hk3⟩)
     clear hy
     go_wp2
     apply_assumption
     go_wp2
     go_roundw
     case rel=>exact ⟨p,l',by omega,by go_num,hJ3,hL'.keepS hk3 hSD hSR hSA,hNx,(hk3.cell (p:=⟨bd,0,none⟩) hSb).trans hcw⟩
     case measure=>simp [intOf]
    case false=>
     obtain ⟨hPV,hq0⟩:=zKU hVp (zPo ht' p (n+1)) (H2.out (by simp))
     obtain ⟨q1,rfl⟩: ∃q1,q=q1+1:=⟨q - 1,by omega⟩
     have HPV:=hid hPV
     have HE:=H2.out (by simp)
     have HE2:=hid HE
     clear hPV e1 HE
     have e1:(q1:Int) % 4294967296=(q1:Int):=by omega
     have e2:((q1+1:Nat):Int) - 1=(q1:Int):=by omega
     have hcr:wr.cell? ⟨bd,0,none⟩=some (.pointer (some ⟨D,0,none⟩)):=(mH (mI hG' _ (z7 hcd) (fun e=>hbd (by injection e)))).trans hcd
     have hmo:=zOM D R rc l' A n c lb p wr hL' ht' hb hn (by omega)
     refine (wpIn_wide (n:=0)).1 ?_
     gi_wp2_with (gi_at_call 169;refine CallsIn.mono (callsIn_wide.2 hmo) ?_;rintro e wm ⟨f2,l2,rfl,hl2,ht2,ho2,hq2,hL2,hG2⟩;have HQ2:=hid hq2;clear hq2;cases f2)
     ·refine ⟨⟨q1,l2,by first|rfl|(congr 1;omega),by omega,hl2.trans hl',ht2,fun x hx=>(ho2 x hx).trans (ho' x hx),fun e=>(by cases e),fun _=> ?_,hL2,hG'.trans hG2⟩,by simp [intOf]⟩
      have h3:=zKV (N':=win l2 p (n+1)) (Nat.succ_pos q1) HE2.out (by simpa using HQ2.out)
      exact h3
     ·clear hmo
      have hQ:q1=win lr p (n+1) / val lb/\win l2 p (n+1)=win lr p (n+1) % val lb:=(by have h3:=zKW (N':=win l2 p (n+1)) (T:=BB^(n+1)) hVp HPV.out HE2.out (by simpa using HQ2.out);rwa [Nat.add_sub_cancel] at h3)
      have hNx:Left l0 lb l2 p:=hI.next ht hb hnb hpn hVp (hl2.trans hl') ht2 (fun x hx=>(ho2 x hx).trans (ho' x hx)) hQ.2
      obtain ⟨fn,tmps,assign,body,hy,hR⟩:=hY (m - (p+1)) wm (by omega) (hJ _ _ _ hJ1 (hG'.trans hG2))
      rw [show m - 1 - (m - (p+1))=p from by omega, <-W4.out, <-hQ.1] at hy
      rw [show m - (p+1)+1=m - p from by omega] at hR
      have hcw:wm.cell? ⟨bd,0,none⟩=some (.pointer (some ⟨D,0,none⟩)):=(mH (mI (hG'.trans hG2) _ (z7 hcd) (fun e=>hbd (by injection e)))).trans hcd
      have hQQ:=hid hQ
      clear hQ
      refine (wpIn_wide (n:=0)).1 ?_
      gi_wp2_with (refine hR.mono ?_;rintro e W3 ⟨rfl,hJ3,hk3⟩)
      clear hy
      go_wp2
      apply_assumption
      go_wp2
      go_roundw
      case rel=>exact ⟨p,l2,by omega,by go_num,hJ3,hL2.keepS hk3 hSD hSR hSA,hNx,(hk3.cell (p:=⟨bd,0,none⟩) hSb).trans hcw⟩
      case measure=>simp [intOf]
  ·obtain rfl:j=0:=by omega
   have hfin: ∃lr,LongAt wo D R rc lr A n c lb/\Lt lr/\lr.length=l0.length/\val lr=val l0 % val lb:=⟨lr,hL,hI.lt,hI.len,by have:=hI.top;rwa [List.drop_zero,List.drop_zero] at this⟩
   have HF:=hid hfin
   clear hfin
   go_wp2
   go_end0
   exact ⟨⟨_,rfl⟩,hJ1,HF.out⟩
end Go.Proofs.Wd
