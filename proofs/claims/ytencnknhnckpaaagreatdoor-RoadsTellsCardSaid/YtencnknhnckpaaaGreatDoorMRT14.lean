/- The walk of quot's limbs and what it needs. -/
import Derived.Test.YtencnknhnckpaaaGreatDoorMRT12
abbrev nU:=@Go.World.grownBy.block
namespace Go.Proofs.Wd
open Tryz
variable {W W':World}{D R c n rc:Nat}{A:Option Addr}{lb:List Nat}
set_option maxRecDepth 100000
set_option maxHeartbeats 2000000
open Go.RowKit Lb
attribute [local go_sem] Oper.semAt_some qD yA
theorem zC4(w:World)(k:Nat)(r:Option Nat):w.grownBy (w.drewN k) r:=⟨rfl,rfl,rfl,vR _,fun _ _ _=>rfl⟩
theorem LongAt.drewN{lr:List Nat}(h:LongAt W D R rc lr A n c lb)(k:Nat):LongAt (W.drewN k) D R rc lr A n c lb:=h.grown (zC4 W k _) (h.row.kept rfl) rfl
theorem LongAt.below{lr:List Nat}(h:LongAt W D R rc lr A n c lb)(I:Below W.heap.size W W'):LongAt W' D R rc lr A n c lb:=
 ⟨h.box.kept I,h.row.kept (I.block _ h.row.lt),h.by_.below I,h.ne,h.far⟩
theorem LongAt.keepS{S:Nat->Prop}{lr:List Nat}(h:LongAt W D R rc lr A n c lb)(I:yZ S W W')(J:S D)(O:S R)(hA:∀b o,0<n->A=some ⟨b,o,none⟩->S b):LongAt W' D R rc lr A n c lb:=
 ⟨(I D J).trans h.box,h.row.kept (I R O),h.by_.keepS I hA,h.ne,h.far⟩
theorem LongAt.putObj{lr:List Nat}(h:LongAt W D R rc lr A n c lb){l:Nat}{o:Obj}(o':Obj)(J:W.heap[l]?=some o)(I:o.isCells=false):LongAt (W.putObj l o') D R rc lr A n c lb:=
 ⟨h.box.putObj o' J I,h.row.kept (bQ (fun e=>by
  obtain⟨cs,O,_⟩:=h.row
  rw[e,J]at O
  cases O
  cases I)),h.by_.other o' J I,h.ne,h.far⟩
def zPs(w:World)(D R rc:Nat)(lr:List Nat)(A:Option Addr)(n c:Nat)(lb:List Nat)(p:Nat)(f:Bool)(i:Value)(W:World):Prop:=
 ∃(q:Nat) (l':List Nat),i=.int .u64 q/\q<=4294967295/\l'.length=lr.length/\Lt l'/\(∀x,x<p∨p+(n+1)<=x->lm l' x=lm lr x)/\
  (f=true->q=win lr p (n+1)/val lb/\win l' p (n+1)=win lr p (n+1)%val lb)/\(f=false->win lr p (n+1)+BB^(n+1)=win l' p (n+1)+q*val lb)/\
  LongAt W D R rc l' A n c lb/\w.grownBy W (some R)
theorem zLT(D:Nat)(w:World):
  Calls prog 125 #[.pointer (some ⟨D,0,none⟩)] w fun e w'=>e=.returned (.func (.func 131) #[] #[.pointer (some ⟨w.heap.size,0,none⟩)])/\w.alloc (.cells #[.pointer (some ⟨D,0,none⟩)] 163)=w':=by
 go_enter func125,ntmps125
 go_wp2
 go_ret
 exact⟨rfl,rfl⟩
theorem zIq(bd D R rc:Nat)(l0:List Nat)(A:Option Addr)(n c:Nat)(lb:List Nat)(m:Nat)(w0:World)(h:LongAt w0 D R rc l0 A n c lb)(hc1:w0.cell? ⟨bd,0,none⟩=some (.pointer (some ⟨D,0,none⟩)))(hbd:bd≠R)
  (ht:Lt l0)(hb:Lt lb)(hn:0<n)(hv:0<lm lb (n-1))(hlen:l0.length=m+n)(htop:val (l0.drop m)<val lb)(hVp:0<val lb){S:Nat->Prop}(_hS:∀b,S b->b<w0.heap.size)(hSb:S bd)(hSD:S D)(hSR:S R)(hSA:∀b o,0<n->A=some ⟨b,o,none⟩->S b):
  zSI prog 131 #[.pointer (some ⟨bd,0,none⟩)] (fun k=>#[.int .i64 (m-1-k:Nat),.int .u32 (dig l0 lb (m-1-k):Nat)]) m (yZ S) (fun W1 W2=>W1.grownBy W2 (some R))
   (fun W=>∃lr,LongAt W D R rc lr A n c lb/\Lt lr/\lr.length=l0.length/\val lr=val l0%val lb) w0:=by
 intro lp J W hW hJ hY h0
 have hnb:=h.by_.len
 have hw1:=(hW.cell (p:=⟨bd,0,none⟩) (zU hc1)).trans hc1
 have hL0:=h.below hW
 have hcap:=h.row.cap
 have hle:=h.by_.le;have hcap':=h.by_.cap
 obtain⟨⟨c0,c1⟩,_,_⟩:=hL0.box.facts2
 rw[hlen]at c0 hcap
 go_enter func131,ntmps131
 go_wp2
 go_quiet (fail)
 go_wp2
 go_loopw [3] (fun i wr=>∃(j:Nat) (lr:List Nat),j<=m/\i=.int .i64 ((j:Int)-1)/\J (m-j) wr/\LongAt wr D R rc lr A n c lb/\Left l0 lb lr j/\wr.cell? ⟨bd,0,none⟩=some (.pointer (some ⟨D,0,none⟩))) (fun i _=>(intOf i+1).toNat)
 case atStart=>exact⟨m,l0,vR _,rfl,by rw[nF];exact hJ _ _ _ h0 (zC4 W _ _),hL0.drewN _,Left.start ht htop,hw1⟩
 case round=>
  rename World=>wo
  obtain⟨j,lr,hj,rfl,hJ1,hL,hI,hcd⟩:=hrel
  by_cases hj0:0<j
  .obtain⟨p,rfl⟩:∃p,j=p+1:=⟨j-1,oA⟩
   have hpn:p+n<l0.length:=oA
   have hpn2:p+n<lr.length:=by rw[hI.len];exact hpn
   obtain⟨w1,w2,w3,w4,w5,w6⟩:=hI.wins ht hb hnb hpn hVp
   obtain⟨g1,g2⟩:=zOb hI.lt hnb hn hv w2
   have hgu:=fun W (hL:LongAt W D R rc lr A n c lb)=>zMd D R rc lr A n c lb p W hL hI.lt hb hn hpn2 hv
   have hle1:=fun W (hL:LongAt W D R rc lr A n c lb)=>zN7 D R rc lr A n c lb p (zCu lr lb p n) W hL hI.lt hb hn hpn2 oA
   obtain⟨g,hg⟩:∃g,zCu lr lb p n=g:=⟨_,rfl⟩
   rw[hg]at g1 g2 hle1
   simp only[hg]at hgu
   clear hg
   rw[show((p+1:Nat):Int)-1=(p:Int)from oA]
   go_wp2
   go_step3
   go_wp2_with (go_at_call 132;go_must (refine(hgu _ hL).mono ?_;rintro e wa ⟨rfl,nq,rfl⟩;have hcd2:(wo.drewN nq).cell? ⟨bd,0,none⟩=some (.pointer (some ⟨D,0,none⟩)):=hcd))
   go_step3
   go_wp2_with (go_at_call 133;refine(hle1 _ (hL.drewN nq)).mono ?_;rintro e wb ⟨f,lf,rfl,hlf,htf,hof,hqf,hLf,hGf⟩)
   have hinit:zPs wo D R rc lr A n c lb p f (.int .u64 (g:Int)) wb:=by
    refine⟨g,lf,rfl,g2,hlf,htf,hof,fun e=>?_,fun e=>?_,hLf,(zC4 wo nq _).trans hGf⟩
    .subst e
     simp only[cH]at hqf
     exact zFQ g1 hVp hqf
    .subst e
     simp only[xI,xK,uY]at hqf
     exact hqf
   clear hlf htf hof hqf hLf hGf
   have W4:=hid w4
   clear w1 w2 w3 w4 w5 w6 g1 hgu hle1
   go_loopw [4] (zPs wo D R rc lr A n c lb p f) (fun i _=>(intOf i).toNat)
   case atStart=>exact hinit
   case round=>
    obtain⟨q,l',rfl,hq,hl',ht',ho',hf1,hf2,hL',hG'⟩:=hrel
    have H1:=hid hf1
    have H2:=hid hf2
    clear hf1 hf2
    have e1:(q:Int)%4294967296=(q:Int):=oA
    cases f
    case true=>
     refine(bJ (n:=0)).1 ?_
     gi_wp2
     have hQ:q=win lr p (n+1)/val lb/\win l' p (n+1)=win lr p (n+1)%val lb:=H1.out eN
     have hNx:Left l0 lb l' p:=hI.next ht hb hnb hpn hVp hl' ht' ho' hQ.2
     obtain⟨fn,tmps,assign,body,hy,hR⟩:=hY (m-(p+1)) wr oA (hJ _ _ _ hJ1 hG')
     rw[show m-1-(m-(p+1))=p from oA,<-W4.out,<-hQ.1]at hy
     rw[show m-(p+1)+1=m-p from oA]at hR
     have hcw:wr.cell? ⟨bd,0,none⟩=some (.pointer (some ⟨D,0,none⟩)):=(bO (nU hG' _ (zU hcd) (fun e=>hbd (by injection e)))).trans hcd
     have hQQ:=hid hQ
     clear hQ
     refine(bJ (n:=0)).1 ?_
     gi_wp2_with (refine hR.mono ?_;rintro e W3 ⟨rfl,hJ3,hk3⟩)
     clear hy
     go_wp2
     apply_assumption
     go_wp2
     go_roundw
     case rel=>exact⟨p,l',oA,sE,hJ3,hL'.keepS hk3 hSD hSR hSA,hNx,(hk3.cell (p:=⟨bd,0,none⟩) hSb).trans hcw⟩
     case measure=>simp[intOf]
    case false=>
     obtain⟨hPV,hq0⟩:=zKt hVp (zOO ht' p (n+1)) (H2.out eN)
     obtain⟨q1,rfl⟩:∃q1,q=q1+1:=⟨q-1,oA⟩
     have HPV:=hid hPV
     have HE:=H2.out eN
     have HE2:=hid HE
     clear hPV e1 HE
     have e1:(q1:Int)%4294967296=(q1:Int):=oA
     have e2:((q1+1:Nat):Int)-1=(q1:Int):=oA
     have hcr:wr.cell? ⟨bd,0,none⟩=some (.pointer (some ⟨D,0,none⟩)):=(bO (nU hG' _ (zU hcd) (fun e=>hbd (by injection e)))).trans hcd
     have hmo:=zN1 D R rc l' A n c lb p wr hL' ht' hb hn oA
     refine(bJ (n:=0)).1 ?_
     gi_wp2_with (gi_at_call 134;refine bC (bB.2 hmo) ?_;rintro e wm ⟨f2,l2,rfl,hl2,ht2,ho2,hq2,hL2,hG2⟩;have HQ2:=hid hq2;clear hq2;cases f2)
     .refine⟨⟨q1,l2,by first|rfl|(congr 1;omega),oA,hl2.trans hl',ht2,fun x hx=>(ho2 x hx).trans (ho' x hx),fun e=>(by cases e),fun _=>?_,hL2,hG'.trans hG2⟩,by simp[intOf]⟩
      have h3:=zKu (N':=win l2 p (n+1)) (Nat.succ_pos q1) HE2.out (by simpa using HQ2.out)
      exact h3
     .clear hmo
      have hQ:q1=win lr p (n+1)/val lb/\win l2 p (n+1)=win lr p (n+1)%val lb:=(by have h3:=zKv (N':=win l2 p (n+1)) (T:=BB^(n+1)) hVp HPV.out HE2.out (by simpa using HQ2.out);rwa [gG]at h3)
      have hNx:Left l0 lb l2 p:=hI.next ht hb hnb hpn hVp (hl2.trans hl') ht2 (fun x hx=>(ho2 x hx).trans (ho' x hx)) hQ.2
      obtain⟨fn,tmps,assign,body,hy,hR⟩:=hY (m-(p+1)) wm oA (hJ _ _ _ hJ1 (hG'.trans hG2))
      rw[show m-1-(m-(p+1))=p from oA,<-W4.out,<-hQ.1]at hy
      rw[show m-(p+1)+1=m-p from oA]at hR
      have hcw:wm.cell? ⟨bd,0,none⟩=some (.pointer (some ⟨D,0,none⟩)):=(bO (nU (hG'.trans hG2) _ (zU hcd) (fun e=>hbd (by injection e)))).trans hcd
      have hQQ:=hid hQ
      clear hQ
      refine(bJ (n:=0)).1 ?_
      gi_wp2_with (refine hR.mono ?_;rintro e W3 ⟨rfl,hJ3,hk3⟩)
      clear hy
      go_wp2
      apply_assumption
      go_wp2
      go_roundw
      case rel=>exact⟨p,l2,oA,sE,hJ3,hL2.keepS hk3 hSD hSR hSA,hNx,(hk3.cell (p:=⟨bd,0,none⟩) hSb).trans hcw⟩
      case measure=>simp[intOf]
  .obtain rfl:j=0:=oA
   have hfin:∃lr,LongAt wo D R rc lr A n c lb/\Lt lr/\lr.length=l0.length/\val lr=val l0%val lb:=⟨lr,hL,hI.lt,hI.len,by have:=hI.top;rwa [mH,mH]at this⟩
   have HF:=hid hfin
   clear hfin
   go_wp2
   go_end0
   exact⟨⟨_,rfl⟩,hJ1,HF.out⟩
end Go.Proofs.Wd
